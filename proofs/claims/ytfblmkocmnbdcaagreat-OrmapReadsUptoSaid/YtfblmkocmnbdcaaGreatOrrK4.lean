/- Contracts and laws that the statement Orr leans on, part 4. -/
import Derived.Test.YtfblmkocmnbdcaaGreatOrrK3
import Derived.ScopeJumps
import Derived.LoopN
import Derived.Recover
import Derived.Lib.Bytealg
import Derived.Shelf.SlGeneric
import Derived.Shelf.SlSortCmp.WholeK
import Derived.Ground.SlsfProg
import Derived.Test.YtfblmkocmnbdcaaGreatProg
set_option linter.unusedVariables false
set_option linter.unusedSimpArgs false
set_option maxRecDepth 100000
namespace Go.Proofs.YtfblmkocmnbdcaaGreat
open Go.Fw Go.Proofs Go.RowKit Go.Proofs.Tryz
theorem growC_len (C : Ctx) (d : Dot) : (growC C d).marks.length ≤ C.marks.length + 1 ∧ (growC C d).cloud.length ≤ C.cloud.length + 1 := by
  unfold growC
  split
  · omega
  · split
    · simp
    · have := setL_len d C.marks false
      simp only [Bool.false_eq_true, if_false] at this
      dsimp only
      omega
theorem growF_len : ∀ (b : List Dot) (C : Ctx), (b.foldl growC C).marks.length ≤ C.marks.length + b.length ∧ (b.foldl growC C).cloud.length ≤ C.cloud.length + b.length
  | [], C => by simp
  | d :: r, C => by
    have h1 := growC_len C d
    have h2 := growF_len r (growC C d)
    simp only [List.foldl_cons, List.length_cons]
    omega
set_option maxHeartbeats 4000000 in
theorem c144 (w0 : World) (v1 v2 : Value) (l d : List Dot) (h : Sl Dot.enc 3 w0 w0.heap.size v1 l) (h' : Sl Dot.enc 3 w0 w0.heap.size v2 d) (hn : l.length ≤ 2097152) (hn' : d.length ≤ 2097152) :
    Rets Tryz.prog 144 #[v1, v2] w0 fun v L => ∃ A1 c1 A2 c2, v = .tuple #[.agg #[.slice A1 (normalL l d).1.marks.length c1, .slice A2 (normalL l d).1.cloud.length c2], .int .i64 (normalL l d).2] ∧
      L = [rowOf 122 3 Dot.enc A1 c1 (normalL l d).1.marks, rowOf 58 3 Dot.enc A2 c2 (normalL l d).1.cloud] := by
  have hd0 := h'
  obtain ⟨A, cap, rfl, hl, hcap, hA⟩ := h
  obtain ⟨A', cap', rfl, hl', hcap', hA'⟩ := h'
  unfold Go.Fw.Rets
  refine enter2 func144 rfl ntmps144 rfl fun a S => wp_seq_k fun _ hK1 => wp_region_lit (st_m (op_alloc S zeroValue37 (cs := _) rfl rfl fun g1 a w S => run S (.ac rfl <| .z) fun a w S => st_nil (then_normal (hK1 _ _ (sg S (.ac rfl <| .z) fun a w S => wp_seq_k fun _ hK1 => sg S (.mv rfl <| .ln underlying34 rfl <| .mc rfl <| .z) fun a w S => wp_block ?_)))))
  refine st_lpK (S.nil_ 58 3 Dot.enc none) (X := Nat × Option Addr × Nat) (fun q => [(20, true, .int .i64 (q.1 : Int)), (6, true, .slice q.2.1 (l.take q.1).length q.2.2)])
    (fun q _ => [rowOf 58 3 Dot.enc q.2.1 q.2.2 (l.take q.1), .blk g1 (.cells #[.slice none 0 0, .slice none 0 0] 37)])
    (fun q => q.1 ≤ l.length ∧ ∀ x ∈ l.take q.1, mayD x = true) (fun q => l.length - q.1) (0, none, 0) ⟨Nat.zero_le _, by simp⟩ ?_
  clear S
  intro ⟨k, B, cB⟩ a w ⟨hk, hall⟩ S
  dsimp only at hk hall S
  by_cases hlt : k < l.length
  · obtain ⟨g, o, m, rfl, hmm, hd, hc⟩ := row_at hA hlt
    have hout : (l.take k).length = k := by simp; omega
    have heta : (⟨m.node, m.life, m.count⟩ : Dot) = m := rfl
    clear hA hA'
    by_cases h1 : mayD m = true
    · have rw_eta : (⟨m.node, m.life, m.count⟩ : Dot) = m := rfl
      have rw_t : l.take k ++ [m] = l.take (k + 1) := by rw [List.take_add_one, hmm]; rfl
      refine sg S (.lt (by omega) rfl rfl <| .z) fun a w S => wp_seq_k fun _ hK2 => st_then S (.t rfl) (wp_skip (then_normal (hK2 _ _ (wp_seq_k fun _ hK2 => wp_block (wp_seq_k fun _ hK3 => wp_region_lit (run S (.ix underlying34 sizeOf122 (by omega) rfl rfl <| .yy (ys_ldOA ⟨isAgg122, sizeOf122⟩ (.t rfl) (vs := [_, _, _]) rfl (fun _ => hc)) rfl <| .z) fun a w S => st_m (op_alloc S zeroValue122 (cs := _) rfl rfl fun g2 a w S => st_m (op_stW S sizeOf122 (.t rfl) (.t rfl) (k := 0) rfl rfl rfl (by simp [Value.oneCell']) fun a w S => st_nil (then_normal (hK3 _ _ (wp_seq_k fun _ hK3 => sg S (.la gt122 0 rfl rfl rfl <| .xx (ys_call call113 (.cons (.t rfl) .nil) (fun hp w W => c113 _ _ _ _)) rfl <| .xx (ys_call call145 (.cons (.t rfl) .nil) (fun hp w W => c145 _ _ _ _ _ (by assumption))) rfl <| .nt rfl <| .z) fun a w S => st_else S (.t rfl) (wp_skip (then_normal (hK3 _ _ (wp_region_lit (run S (.mv rfl <| .la gt122 0 rfl rfl rfl <| .xx (ys_call call113 (.cons (.t rfl) .nil) (fun hp w W => c113 _ _ _ _)) rfl <| .z) fun a w S => st_m (op_bslice1 S underlying35 inf58 rfl rfl rfl (.t rfl) rfl rfl rfl fun g3 a w S => ?_)))))))))))))))))
      refine st_m (op_push S underlying35 inf58 rfl (k := 2) (j := 0) rfl (.t rfl) (.t rfl) rfl rfl rfl rfl (by first | omega | (simp only [List.length_append, List.length_cons, List.length_nil]; omega)) rfl rfl rfl fun A1 cap1 a w S => ?_)
      rw [rw_t] at S
      refine run S (.as rfl <| .z) fun a w S => st_nil (in_normal (then_normal (hK2 _ _ (wp_region_lit (run S (.ad (by unfold I64; omega) rfl <| .mv rfl <| .z) fun a w S => st_nil (then_normal ?_))))))
      exact ⟨(k + 1, A1, cap1), ⟨by dsimp only; omega, all_step hmm hall h1⟩, by dsimp only; omega, S.wk⟩
    · have h1 : mayD m = false := by simpa using h1
      refine sg S (.lt (by omega) rfl rfl <| .z) fun a w S => wp_seq_k fun _ hK2 => st_then S (.t rfl) (wp_skip (then_normal (hK2 _ _ (wp_seq_k fun _ hK2 => wp_block (wp_seq_k fun _ hK3 => wp_region_lit (run S (.ix underlying34 sizeOf122 (by omega) rfl rfl <| .yy (ys_ldOA ⟨isAgg122, sizeOf122⟩ (.t rfl) (vs := [_, _, _]) rfl (fun _ => hc)) rfl <| .z) fun a w S => st_m (op_alloc S zeroValue122 (cs := _) rfl rfl fun g2 a w S => st_m (op_stW S sizeOf122 (.t rfl) (.t rfl) (k := 0) rfl rfl rfl (by simp [Value.oneCell']) fun a w S => st_nil (then_normal (hK3 _ _ (wp_seq_k fun _ hK3 => sg S (.la gt122 0 rfl rfl rfl <| .xx (ys_call call113 (.cons (.t rfl) .nil) (fun hp w W => c113 _ _ _ _)) rfl <| .xx (ys_call call145 (.cons (.t rfl) .nil) (fun hp w W => c145 _ _ _ _ _ (by assumption))) rfl <| .nt rfl <| .z) fun a w S => st_then S (.t rfl) (wp_seq_k fun _ hK4 => wp_region_lit (run S (.yy (ys_bld (ps := []) (us := [_, _]) bld37 .nil rfl) rfl <| .z) fun a w S => st_m (op_stW S sizeOf37 (.t rfl) (.t rfl) (k := 2) rfl rfl rfl (by simp [Value.oneCell']) fun a w S => run S (.ac rfl <| .z) fun a w S => st_nil (then_normal (hK4 _ _ (wp_ret (then_ret (in_ret (then_ret (then_ret (in_ret (then_ret ?_)))))))))))))))))))))))
      refine st_ret S (results2 S results144 (Rv.cell (k := 2) ⟨isAgg37, sizeOf37⟩ rfl rfl rfl) (Rv.tmp rfl)) ?_
      rw [normalL_bad1 hmm h1]
      exact ⟨_, _, rfl, ((S.nil_ 58 3 Dot.enc none).nil_ 122 3 Dot.enc none).wd.sub (by repeat (first | exact List.Sublist.refl _ | exact List.nil_sublist _ | refine .cons_cons _ ?_ | refine .cons _ ?_)), none, 0, none, 0, rfl, rfl⟩
  · obtain rfl : k = l.length := by omega
    rw [List.take_length] at hall S
    clear hk hlt hA
    refine sg S (.ge (by omega) rfl rfl <| .z) fun a w S => wp_seq_k fun _ hK2 => st_else S (.t rfl) (wp_exit (then_exit (then_exit (in_here (then_normal (hK1 _ _ (wp_seq_k fun _ hK1 => sg S (.mv rfl <| .ln underlying35 rfl <| .mc rfl <| .z) fun a w S => wp_block ?_)))))))
    refine st_lpK S (X := Nat) (fun k => [(37, true, .int .i64 (k : Int))]) (fun _ L => L) (fun k => k ≤ d.length ∧ ∀ x ∈ d.take k, mayD x = true) (fun k => d.length - k) 0 ⟨Nat.zero_le _, by simp⟩ ?_
    clear S
    intro k a w ⟨hk, halld⟩ S
    by_cases hlt : k < d.length
    · obtain ⟨g, o, m, rfl, hmm, hd, hc⟩ := row_at hA' hlt
      have heta : (⟨m.node, m.life, m.count⟩ : Dot) = m := rfl
      clear hA'
      by_cases h1 : mayD m = true
      · refine sg S (.lt (by omega) rfl rfl <| .z) fun a w S => wp_seq_k fun _ hK3 => st_then S (.t rfl) (wp_skip (then_normal (hK3 _ _ (wp_seq_k fun _ hK3 => wp_block (wp_seq_k fun _ hK4 => wp_region_lit (run S (.ix underlying35 sizeOf58 (by omega) rfl rfl <| .yy (ys_ldOA ⟨isAgg58, sizeOf58⟩ (.t rfl) (vs := [_, _, _]) rfl (fun _ => hc)) rfl <| .z) fun a w S => st_m (op_alloc S zeroValue58 (cs := _) rfl rfl fun g2 a w S => st_m (op_stW S sizeOf58 (.t rfl) (.t rfl) (k := 0) rfl rfl rfl (by simp [Value.oneCell']) fun a w S => st_nil (then_normal (hK4 _ _ (sg S (.la gt58 0 rfl rfl rfl <| .xx (ys_call call145 (.cons (.t rfl) .nil) (fun hp w W => c145 _ _ _ _ _ (by assumption))) rfl <| .nt rfl <| .z) fun a w S => st_else S (.t rfl) (wp_skip (in_normal (then_normal (hK3 _ _ (wp_region_lit (run S (.ad (by unfold I64; omega) rfl <| .mv rfl <| .z) fun a w S => st_nil (then_normal ?_))))))))))))))))))
        exact ⟨k + 1, ⟨by omega, all_step hmm halld h1⟩, by omega, S.wk⟩
      · have h1 : mayD m = false := by simpa using h1
        refine sg S (.lt (by omega) rfl rfl <| .z) fun a w S => wp_seq_k fun _ hK3 => st_then S (.t rfl) (wp_skip (then_normal (hK3 _ _ (wp_seq_k fun _ hK3 => wp_block (wp_seq_k fun _ hK4 => wp_region_lit (run S (.ix underlying35 sizeOf58 (by omega) rfl rfl <| .yy (ys_ldOA ⟨isAgg58, sizeOf58⟩ (.t rfl) (vs := [_, _, _]) rfl (fun _ => hc)) rfl <| .z) fun a w S => st_m (op_alloc S zeroValue58 (cs := _) rfl rfl fun g2 a w S => st_m (op_stW S sizeOf58 (.t rfl) (.t rfl) (k := 0) rfl rfl rfl (by simp [Value.oneCell']) fun a w S => st_nil (then_normal (hK4 _ _ (sg S (.la gt58 0 rfl rfl rfl <| .xx (ys_call call145 (.cons (.t rfl) .nil) (fun hp w W => c145 _ _ _ _ _ (by assumption))) rfl <| .nt rfl <| .z) fun a w S => st_then S (.t rfl) (wp_seq_k fun _ hK4 => wp_region_lit (run S (.yy (ys_bld (ps := []) (us := [_, _]) bld37 .nil rfl) rfl <| .z) fun a w S => st_m (op_stW S sizeOf37 (.t rfl) (.t rfl) (k := 2) rfl rfl rfl (by simp [Value.oneCell']) fun a w S => run S (.ac rfl <| .z) fun a w S => st_nil (then_normal (hK4 _ _ (wp_ret (in_ret (then_ret (then_ret (in_ret (then_ret (st_ret S (results2 S results144 (Rv.cell (k := 2) ⟨isAgg37, sizeOf37⟩ rfl rfl rfl) (Rv.tmp rfl)) ?_)))))))))))))))))))))))
        rw [normalL_bad2 hmm h1]
        exact ⟨_, _, rfl, ((S.nil_ 58 3 Dot.enc none).nil_ 122 3 Dot.enc none).wd.sub (by repeat (first | exact List.Sublist.refl _ | exact List.nil_sublist _ | refine .cons_cons _ ?_ | refine .cons _ ?_)), none, 0, none, 0, rfl, rfl⟩
    obtain rfl : k = d.length := by omega
    rw [List.take_length] at halld
    clear hk hlt hA'
    have hok := normalL_ok hall halld
    refine sg S (.ge (by omega) rfl rfl <| .z) fun a w S => wp_seq_k fun _ hK3 => st_else S (.t rfl) (wp_exit (then_exit (then_exit (in_here (then_normal (hK1 _ _ (wp_seq_k fun _ hK1 => wp_region_lit (run S (.mv rfl <| .z) fun a w S => st_m (op_callO S call171 (.cons (.t rfl) (.cons Ev.f .nil)) (k171 S.wd hall (by omega)) rfl ?_)))))))))
    clear S
    rintro _ _ ⟨l', rfl, hpl, hsl, rfl⟩ a w S
    have hll := hpl.length_eq
    rw [← hll] at S
    refine st_nil (then_normal (hK1 _ _ (wp_seq_k fun _ hK1 => wp_region_lit (st_m (op_alloc S zeroValue37 (cs := _) rfl rfl fun g2 a w S => st_nil (then_normal (hK1 _ _ (wp_seq_k fun _ hK1 => sg S (.mv rfl <| .ln underlying35 rfl <| .mc rfl <| .z) fun a w S => wp_block ?_))))))))
    refine st_lpK (S.nil_ 122 3 Dot.enc none) (X := Nat × Option Addr × Nat) (fun q => [(50, true, .int .i64 (q.1 : Int))])
      (fun q _ => [rowOf 122 3 Dot.enc q.2.1 q.2.2 (setF (l'.take q.1)), .blk g2 (.cells #[.slice q.2.1 (setF (l'.take q.1)).length q.2.2, .slice none 0 0] 37), rowOf 58 3 Dot.enc B cB l', .blk g1 (.cells #[.slice none 0 0, .slice none 0 0] 37)])
      (fun q => q.1 ≤ l'.length) (fun q => l'.length - q.1) (0, none, 0) (Nat.zero_le _) ?_
    clear S
    intro ⟨k, D, cD⟩ a w hk S
    dsimp only at hk S
    by_cases hlt : k < l'.length
    · obtain ⟨m, hmm⟩ : ∃ m, l'[k]? = some m := ⟨l'[k], by simp⟩
      have hp := setF_push hsl hmm
      have hsl2 := setF_len (l'.take k)
      have hs3 : (l'.take k).length ≤ l'.length := by rw [List.length_take]; omega
      generalize hacc : setF (l'.take k) = acc at S hp hsl2
      obtain ⟨gB, rfl⟩ := S.wd.row_at (k := 2) rfl (by have := (S.wd.room (k := 2) rfl).1; omega)
      have rw_eta : (⟨m.node, m.life, m.count⟩ : Dot) = m := rfl
      by_cases hz : acc.length = 0
      · have hz0 : acc = [] := List.eq_nil_of_length_eq_zero hz
        have rw_p : acc ++ [m] = setF (l'.take (k + 1)) := by rw [hp, hz0]; rfl
        refine sg S (.lt (by omega) rfl rfl <| .z) fun a w S => wp_seq_k fun _ hK4 => st_then S (.t rfl) (wp_skip (then_normal (hK4 _ _ (wp_seq_k fun _ hK4 => wp_block (wp_seq_k fun _ hK5 => wp_region_lit (run S (.ix underlying35 sizeOf58 (by omega) rfl rfl <| .yy (ys_ldWA ⟨isAgg58, sizeOf58⟩ (.t rfl) (k := 2) rfl hmm (fun _ => rfl)) rfl <| .z) fun a w S => st_m (op_alloc S zeroValue58 (cs := _) rfl rfl fun g3 a w S => st_m (op_stW S sizeOf58 (.t rfl) (.t rfl) (k := 0) rfl rfl rfl (by simp [Value.oneCell']) fun a w S => st_nil (then_normal (hK5 _ _ (sg S (.fa underlying37 sizeOf34 0 rfl rfl rfl <| .ld gt34 2 rfl rfl rfl <| .ln underlying34 rfl <| .as rfl <| .z) fun a w S => wp_seq_k fun _ hK5 => wp_seq_k fun _ hK6 => st_quiet S (by kernel_rfl) (by kernel_rfl) fun a S => qrun S (.mv rfl <| .yy (ys_F (by omega) (ys_gtr (.t rfl) Ev.c)) rfl <| .mv rfl <| .sk rfl rfl rfl <| .sk rfl rfl rfl <| .sk rfl rfl rfl <| .sk rfl rfl rfl <| .sk rfl rfl rfl <| .sk rfl rfl rfl <| .sk rfl rfl rfl <| .sk rfl rfl rfl <| .sk rfl rfl rfl <| .sk rfl rfl rfl <| .sk rfl rfl rfl <| .yy (ys_pickF (.t rfl) Ev.c) rfl <| .z) fun a S => ?_)))))))))))
        (refine q_nil ?_; intro w W; replace S := St.mk S W; clear W)
        refine then_normal (hK6 _ _ (st_else S (.t rfl) (wp_skip (then_normal (hK5 _ _ (wp_region_lit (run S (.fa underlying37 sizeOf34 0 rfl rfl rfl <| .ld gt34 2 rfl rfl rfl <| .la gt58 0 rfl rfl rfl <| .z) fun a w S => st_m (op_bslice1 S underlying34 inf122 rfl rfl rfl (.t rfl) rfl rfl rfl fun g4 a w S => st_m (op_push S underlying34 inf122 rfl (k := 2) (j := 0) rfl (.t rfl) (.t rfl) rfl rfl rfl rfl (by first | omega | (simp only [List.length_append, List.length_cons, List.length_nil]; omega)) rfl rfl rfl fun A1 cap1 a w S => ?_)))))))))
        rw [rw_p] at S
        refine run S (.fa underlying37 sizeOf34 0 rfl rfl rfl <| .z) fun a w S => st_m (op_st S sizeOf34 (.t rfl) (.t rfl) (k := 3) rfl rfl (by simp) fun a w S => st_nil (in_normal (then_normal (hK4 _ _ (wp_region_lit (run S (.ad (by unfold I64; omega) rfl <| .mv rfl <| .z) fun a w S => st_nil (then_normal ?_)))))))
        exact ⟨(k + 1, A1, cap1), by dsimp only; omega, by dsimp only; omega, S.wk⟩
      · obtain ⟨y, hy⟩ : ∃ y, acc[acc.length - 1]? = some y := ⟨acc[acc.length - 1], by simp⟩
        have hlast : acc.getLast? = some y := by rw [List.getLast?_eq_getElem?]; exact hy
        obtain ⟨gD, rfl⟩ := S.wd.row_at (k := 0) rfl (by have := (S.wd.room (k := 0) rfl).1; omega)
        have rw_n : (acc.length : Int) - 1 = ((acc.length - 1 : Nat) : Int) := by omega
        by_cases hsa : sameA y m
        · have hp2 : setF (l'.take (k + 1)) = acc.set (acc.length - 1) m := by rw [hp]; unfold pushM; rw [hlast]; simp only; rw [if_pos hsa]
          refine sg S (.lt (by omega) rfl rfl <| .z) fun a w S => wp_seq_k fun _ hK4 => st_then S (.t rfl) (wp_skip (then_normal (hK4 _ _ (wp_seq_k fun _ hK4 => wp_block (wp_seq_k fun _ hK5 => wp_region_lit (run S (.ix underlying35 sizeOf58 (by omega) rfl rfl <| .yy (ys_ldWA ⟨isAgg58, sizeOf58⟩ (.t rfl) (k := 2) rfl hmm (fun _ => rfl)) rfl <| .z) fun a w S => st_m (op_alloc S zeroValue58 (cs := _) rfl rfl fun g3 a w S => st_m (op_stW S sizeOf58 (.t rfl) (.t rfl) (k := 0) rfl rfl rfl (by simp [Value.oneCell']) fun a w S => st_nil (then_normal (hK5 _ _ (sg S (.fa underlying37 sizeOf34 0 rfl rfl rfl <| .ld gt34 2 rfl rfl rfl <| .ln underlying34 rfl <| .as rfl <| .z) fun a w S => wp_seq_k fun _ hK5 => wp_seq_k fun _ hK6 => st_quiet S (by kernel_rfl) (by kernel_rfl) fun a S => qrun S (.mv rfl <| .yy (ys_T (by omega) (ys_gtr (.t rfl) Ev.c)) rfl <| .mv rfl <| .gy rfl rfl (ys_fieldN (FieldT.mk underlying37 rfl sizeOf34 rfl) (.t rfl) (i' := 0) rfl) <| .gy rfl rfl (ys_ld ⟨isAgg34, sizeOf34⟩ (.t rfl) (k := 2) rfl rfl) <| .gy rfl rfl (ys_move (.t rfl)) <| .gy rfl rfl (ys_subI (.t rfl) Ev.c (fun _ => by unfold I64; omega)) <| .z) fun a S => ?_)))))))))))
          rw [rw_n] at S
          refine qrun S (.gy rfl rfl (ys_ixS underlying34 sizeOf122 (.t rfl) (.t rfl) (fun _ => by omega)) <| .gy rfl rfl (ys_ldWA ⟨isAgg122, sizeOf122⟩ (.t rfl) (k := 1) rfl hy (fun _ => rfl)) <| .gx rfl rfl (ys_call call113 (.cons (.t rfl) .nil) (fun hp w W => c113 _ _ _ _)) <| .gx rfl rfl (ys_call call155 (.cons (.t rfl) .nil) (fun hp w W => c155 _ _ _ _)) <| .gy rfl rfl (ys_ldA ⟨isAgg58, sizeOf58⟩ (.t rfl) (k := 0) rfl rfl) <| .gx rfl rfl (ys_call call155 (.cons (.t rfl) .nil) (fun hp w W => c155 _ _ _ _)) <| .gy rfl rfl (ys_eqA (.t rfl) (.t rfl) eq77) <| .yy (ys_pickT (.t rfl) (.t rfl)) rfl <| .z) fun a S => ?_
          (refine q_nil ?_; intro w W; replace S := St.mk S W; clear W)
          refine then_normal (hK6 _ _ (st_if S (.t rfl) (fun _ => wp_seq_k fun _ hK6 => wp_region_lit (run S (.fa underlying37 sizeOf34 0 rfl rfl rfl <| .ld gt34 2 rfl rfl rfl <| .mv rfl <| .yy (ys_subI (.t rfl) Ev.c (fun _ => by unfold I64; omega)) rfl <| .z) fun a w S => ?_)) (fun h1 => absurd (by first | assumption | omega) h1)))
          rw [rw_n] at S
          refine run S (.fa underlying58 sizeOf3 2 rfl rfl rfl <| .ld gt3 0 rfl rfl rfl <| .ix underlying34 sizeOf122 (by omega) rfl rfl <| .yy (ys_field (FieldT.mk underlying122 rfl sizeOf3 rfl) (.t rfl)) rfl <| .z) fun a w S => ?_
          refine st_m (op_stFld (enc := Dot.enc) (size := 3) (i := acc.length - 1) (j := 2) m S (fun _ => rfl) sizeOf3 (.t rfl) (.t rfl) rfl (k := 1) rfl hy (by omega) rfl (by
            obtain ⟨e1, e2⟩ := hsa
            simp [Dot.enc, e1, e2]) ?_)
          clear S
          intro a w S
          have hlen2 : (acc.set (acc.length - 1) m).length = acc.length := by simp
          rw [← hp2] at hlen2 S
          rw [← hlen2] at S
          refine st_nil (then_normal (hK6 _ _ (wp_exit (then_exit (in_here (then_normal (hK4 _ _ (wp_region_lit (run S (.ad (by unfold I64; omega) rfl <| .mv rfl <| .z) fun a w S => st_nil (then_normal ?_))))))))))
          exact ⟨(k + 1, some ⟨gD, 0, none⟩, cD), by dsimp only; omega, by dsimp only; omega, S.wk⟩
        · have rw_p : acc ++ [m] = setF (l'.take (k + 1)) := by rw [hp]; unfold pushM; rw [hlast]; simp only; rw [if_neg hsa]
          refine sg S (.lt (by omega) rfl rfl <| .z) fun a w S => wp_seq_k fun _ hK4 => st_then S (.t rfl) (wp_skip (then_normal (hK4 _ _ (wp_seq_k fun _ hK4 => wp_block (wp_seq_k fun _ hK5 => wp_region_lit (run S (.ix underlying35 sizeOf58 (by omega) rfl rfl <| .yy (ys_ldWA ⟨isAgg58, sizeOf58⟩ (.t rfl) (k := 2) rfl hmm (fun _ => rfl)) rfl <| .z) fun a w S => st_m (op_alloc S zeroValue58 (cs := _) rfl rfl fun g3 a w S => st_m (op_stW S sizeOf58 (.t rfl) (.t rfl) (k := 0) rfl rfl rfl (by simp [Value.oneCell']) fun a w S => st_nil (then_normal (hK5 _ _ (sg S (.fa underlying37 sizeOf34 0 rfl rfl rfl <| .ld gt34 2 rfl rfl rfl <| .ln underlying34 rfl <| .as rfl <| .z) fun a w S => wp_seq_k fun _ hK5 => wp_seq_k fun _ hK6 => st_quiet S (by kernel_rfl) (by kernel_rfl) fun a S => qrun S (.mv rfl <| .yy (ys_T (by omega) (ys_gtr (.t rfl) Ev.c)) rfl <| .mv rfl <| .gy rfl rfl (ys_fieldN (FieldT.mk underlying37 rfl sizeOf34 rfl) (.t rfl) (i' := 0) rfl) <| .gy rfl rfl (ys_ld ⟨isAgg34, sizeOf34⟩ (.t rfl) (k := 2) rfl rfl) <| .gy rfl rfl (ys_move (.t rfl)) <| .gy rfl rfl (ys_subI (.t rfl) Ev.c (fun _ => by unfold I64; omega)) <| .z) fun a S => ?_)))))))))))
          rw [rw_n] at S
          refine qrun S (.gy rfl rfl (ys_ixS underlying34 sizeOf122 (.t rfl) (.t rfl) (fun _ => by omega)) <| .gy rfl rfl (ys_ldWA ⟨isAgg122, sizeOf122⟩ (.t rfl) (k := 1) rfl hy (fun _ => rfl)) <| .gx rfl rfl (ys_call call113 (.cons (.t rfl) .nil) (fun hp w W => c113 _ _ _ _)) <| .gx rfl rfl (ys_call call155 (.cons (.t rfl) .nil) (fun hp w W => c155 _ _ _ _)) <| .gy rfl rfl (ys_ldA ⟨isAgg58, sizeOf58⟩ (.t rfl) (k := 0) rfl rfl) <| .gx rfl rfl (ys_call call155 (.cons (.t rfl) .nil) (fun hp w W => c155 _ _ _ _)) <| .gy rfl rfl (ys_eqA (.t rfl) (.t rfl) eq77) <| .yy (ys_pickT (.t rfl) (.t rfl)) rfl <| .z) fun a S => ?_
          (refine q_nil ?_; intro w W; replace S := St.mk S W; clear W)
          refine then_normal (hK6 _ _ (st_if S (.t rfl) (fun h1 => absurd h1 (by first | assumption | omega)) (fun _ => wp_skip (then_normal (hK5 _ _ (wp_region_lit (run S (.fa underlying37 sizeOf34 0 rfl rfl rfl <| .ld gt34 2 rfl rfl rfl <| .la gt58 0 rfl rfl rfl <| .z) fun a w S => st_m (op_bslice1 S underlying34 inf122 rfl rfl rfl (.t rfl) rfl rfl rfl fun g4 a w S => st_m (op_push S underlying34 inf122 rfl (k := 2) (j := 0) rfl (.t rfl) (.t rfl) rfl rfl rfl rfl (by first | omega | (simp only [List.length_append, List.length_cons, List.length_nil]; omega)) rfl rfl rfl fun A1 cap1 a w S => ?_)))))))))
          rw [rw_p] at S
          refine run S (.fa underlying37 sizeOf34 0 rfl rfl rfl <| .z) fun a w S => st_m (op_st S sizeOf34 (.t rfl) (.t rfl) (k := 3) rfl rfl (by simp) fun a w S => st_nil (in_normal (then_normal (hK4 _ _ (wp_region_lit (run S (.ad (by unfold I64; omega) rfl <| .mv rfl <| .z) fun a w S => st_nil (then_normal ?_)))))))
          exact ⟨(k + 1, A1, cap1), by dsimp only; omega, by dsimp only; omega, S.wk⟩
    · obtain rfl : k = l'.length := by omega
      rw [List.take_length] at S
      clear hk hlt
      refine sg S (.ge (by omega) rfl rfl <| .z) fun a w S => wp_seq_k fun _ hK4 => st_else S (.t rfl) (wp_exit (then_exit (then_exit (in_here (then_normal (hK1 _ _ (wp_seq_k fun _ hK1 => wp_region_lit (run S (.mv rfl <| .z) fun a w S => ?_))))))))
      (refine st_m (op_calls S call133 (.cons (.t rfl) .nil) (c133 _ _ _ (by exact .old S.wd (by assumption)) (by omega)) rfl ?_); clear S a w; rintro _ _ ⟨A1, c1, rfl, rfl⟩ a w S)
      refine run S (.as rfl <| .z) fun a w S => st_nil (then_normal (hK1 _ _ (wp_seq_k fun _ hK1 => wp_region_lit (run S (.mv rfl <| .z) fun a w S => st_m (op_callO S call171 (.cons (.t rfl) (.cons Ev.f .nil)) (k171 S.wd halld (by omega)) rfl ?_)))))
      clear S
      rintro _ _ ⟨d', rfl, hpd, hsd, rfl⟩ a w S
      have hdl := hpd.length_eq
      rw [← hdl] at S
      have hgr := normal_grown hall halld hpl hpd hsd
      have hcl := compact_len d'
      have hcm : ∀ x ∈ compactL d', mayD x = true := fun x hx => halld x (hpd.mem_iff.1 ((compact_mem d').1 hx))
      have hcs := compact_lt d' hsd
      have h0 : Nf ⟨setF l', []⟩ := ⟨setF_sorted l', List.Pairwise.nil, setF_may (fun x hx => hall x (hpl.mem_iff.1 hx)), (fun x hx => by cases hx), (fun x hx => by cases hx)⟩
      have hsl3 := setF_len l'
      refine st_nil (then_normal (hK1 _ _ (wp_seq_k fun _ hK1 => wp_region_lit (run S (.mv rfl <| .z) fun a w S => ?_))))
      (refine st_m (op_callO S call172 (.cons (.t rfl) .nil) (c172 S.wd (by first | assumption | omega | (dsimp only; omega) | exact Sl.nil_ | exact .old S.wd (by assumption) | exact Sl.of_own S.wd (k := 0) rfl (fun _ => rfl) | exact Sl.of_own S.wd (k := 1) rfl (fun _ => rfl) | exact Sl.of_own S.wd (k := 2) rfl (fun _ => rfl) | exact Sl.of_own S.wd (k := 3) rfl (fun _ => rfl) | exact Sl.of_own S.wd (k := 4) rfl (fun _ => rfl) | (simp at *; omega))) rfl ?_) <;> clear S a w)
      rintro _ _ ⟨rfl, rfl⟩ a w S
      refine run S (.as rfl <| .z) fun a w S => st_nil (then_normal (hK1 _ _ (wp_seq_k fun _ hK1 => sg S (.mv rfl <| .ln underlying35 rfl <| .mc rfl <| .z) fun a w S => wp_block ?_)))
      generalize compactL d' = b at S hgr hcl hcm hcs
      replace S := S.nil_ 58 3 Dot.enc none
      (replace S := S.pull 2 rfl; try simp only [List.set_cons_zero, List.set_cons_succ, List.eraseIdx_cons_succ, List.eraseIdx_cons_zero] at S)
      refine st_lpK S (X := Nat × (Option Addr × Nat) × (Option Addr × Nat)) (fun q => [(95, true, .int .i64 (q.1 : Int))])
        (fun q _ => [rowOf 122 3 Dot.enc q.2.1.1 q.2.1.2 ((b.take q.1).foldl growC ⟨setF l', []⟩).marks, rowOf 58 3 Dot.enc q.2.2.1 q.2.2.2 ((b.take q.1).foldl growC ⟨setF l', []⟩).cloud, rowOf 58 3 Dot.enc A1 c1 b, .blk g2 (.cells #[.slice q.2.1.1 ((b.take q.1).foldl growC ⟨setF l', []⟩).marks.length q.2.1.2, .slice q.2.2.1 ((b.take q.1).foldl growC ⟨setF l', []⟩).cloud.length q.2.2.2] 37), .blk g1 (.cells #[.slice none 0 0, .slice none 0 0] 37)])
        (fun q => q.1 ≤ b.length) (fun q => b.length - q.1) (0, (D, cD), (none, 0)) (Nat.zero_le _) ?_
      clear S
      intro ⟨k, ⟨A2, c2⟩, A3, c3⟩ a w hk S
      dsimp only at hk S
      have hlk := growF_len (b.take k) ⟨setF l', []⟩
      have hbk : (b.take k).length = k := by simp; omega
      dsimp only at hlk
      rw [hbk, List.length_nil] at hlk
      by_cases hlt : k < b.length
      · obtain ⟨m, hmm⟩ : ∃ m, b[k]? = some m := ⟨b[k], by simp⟩
        obtain ⟨gB, rfl⟩ := S.wd.row_at (k := 2) rfl (by have := (S.wd.room (k := 2) rfl).1; omega)
        have hC := (growF_ok (b.take k) ⟨setF l', []⟩ h0 (fun x hx => hcm x (List.mem_of_mem_take hx)) (hcs.sublist (List.take_sublist _ _)) (fun e he => by cases he)).1
        have rw_eta : (⟨m.node, m.life, m.count⟩ : Dot) = m := rfl
        have rw_f : growC ((b.take k).foldl growC ⟨setF l', []⟩) m = (b.take (k + 1)).foldl growC ⟨setF l', []⟩ := by rw [List.take_add_one, hmm]; simp
        have hmay := hcm m (List.mem_of_getElem? hmm)
        generalize (b.take k).foldl growC ⟨setF l', []⟩ = C at S hlk hC rw_f
        have hCm := hC.marks
        have hCy := hC.mayM
        have hl1 : C.marks.length ≤ 4194304 := by omega
        have hl2 : C.cloud.length ≤ 4194304 := by omega
        refine sg S (.lt (by omega) rfl rfl <| .z) fun a w S => wp_seq_k fun _ hK5 => st_then S (.t rfl) (wp_skip (then_normal (hK5 _ _ (wp_seq_k fun _ hK5 => wp_block (wp_seq_k fun _ hK6 => wp_region_lit (run S (.ix underlying35 sizeOf58 (by omega) rfl rfl <| .yy (ys_ldWA ⟨isAgg58, sizeOf58⟩ (.t rfl) (k := 2) rfl hmm (fun _ => rfl)) rfl <| .z) fun a w S => st_m (op_alloc S zeroValue58 (cs := _) rfl rfl fun g3 a w S => st_m (op_stW S sizeOf58 (.t rfl) (.t rfl) (k := 0) rfl rfl rfl (by simp [Value.oneCell']) fun a w S => st_nil (then_normal (hK6 _ _ (wp_region_lit (run S (.la gt37 4 rfl rfl rfl <| .la gt58 0 rfl rfl rfl <| .z) fun a w S => ?_))))))))))))
        (replace S := S.pull 2 rfl; try simp only [List.set_cons_zero, List.set_cons_succ, List.eraseIdx_cons_succ, List.eraseIdx_cons_zero] at S; replace S := S.pull 2 rfl; try simp only [List.set_cons_zero, List.set_cons_succ, List.eraseIdx_cons_succ, List.eraseIdx_cons_zero] at S; refine st_m (op_callO S call173 (.cons (.t rfl) (.cons (.t rfl) .nil)) (c173 S.wd (by first | assumption | omega | (dsimp only; omega) | exact Sl.nil_ | exact .old S.wd (by assumption) | exact Sl.of_own S.wd (k := 0) rfl (fun _ => rfl) | exact Sl.of_own S.wd (k := 1) rfl (fun _ => rfl) | exact Sl.of_own S.wd (k := 2) rfl (fun _ => rfl) | exact Sl.of_own S.wd (k := 3) rfl (fun _ => rfl) | exact Sl.of_own S.wd (k := 4) rfl (fun _ => rfl) | exact Sl.of_own S.wd (k := 5) rfl (fun _ => rfl) | (simp at *; omega)) (by first | assumption | omega | (dsimp only; omega) | exact Sl.nil_ | exact .old S.wd (by assumption) | exact Sl.of_own S.wd (k := 0) rfl (fun _ => rfl) | exact Sl.of_own S.wd (k := 1) rfl (fun _ => rfl) | exact Sl.of_own S.wd (k := 2) rfl (fun _ => rfl) | exact Sl.of_own S.wd (k := 3) rfl (fun _ => rfl) | exact Sl.of_own S.wd (k := 4) rfl (fun _ => rfl) | exact Sl.of_own S.wd (k := 5) rfl (fun _ => rfl) | (intro _ W'; first | exact .old W' (by assumption) | exact Sl.of_own W' (k := 0) rfl (fun _ => rfl) | exact Sl.of_own W' (k := 1) rfl (fun _ => rfl) | exact Sl.of_own W' (k := 2) rfl (fun _ => rfl) | exact Sl.of_own W' (k := 3) rfl (fun _ => rfl) | exact Sl.of_own W' (k := 4) rfl (fun _ => rfl) | exact Sl.of_own W' (k := 5) rfl (fun _ => rfl)) | (simp at *; omega)) (by first | assumption | omega | (dsimp only; omega) | exact Sl.nil_ | exact .old S.wd (by assumption) | exact Sl.of_own S.wd (k := 0) rfl (fun _ => rfl) | exact Sl.of_own S.wd (k := 1) rfl (fun _ => rfl) | exact Sl.of_own S.wd (k := 2) rfl (fun _ => rfl) | exact Sl.of_own S.wd (k := 3) rfl (fun _ => rfl) | exact Sl.of_own S.wd (k := 4) rfl (fun _ => rfl) | exact Sl.of_own S.wd (k := 5) rfl (fun _ => rfl) | (simp at *; omega)) (by first | assumption | omega | (dsimp only; omega) | exact Sl.nil_ | exact .old S.wd (by assumption) | exact Sl.of_own S.wd (k := 0) rfl (fun _ => rfl) | exact Sl.of_own S.wd (k := 1) rfl (fun _ => rfl) | exact Sl.of_own S.wd (k := 2) rfl (fun _ => rfl) | exact Sl.of_own S.wd (k := 3) rfl (fun _ => rfl) | exact Sl.of_own S.wd (k := 4) rfl (fun _ => rfl) | exact Sl.of_own S.wd (k := 5) rfl (fun _ => rfl) | (simp at *; omega)) (by first | assumption | omega | (dsimp only; omega) | exact Sl.nil_ | exact .old S.wd (by assumption) | exact Sl.of_own S.wd (k := 0) rfl (fun _ => rfl) | exact Sl.of_own S.wd (k := 1) rfl (fun _ => rfl) | exact Sl.of_own S.wd (k := 2) rfl (fun _ => rfl) | exact Sl.of_own S.wd (k := 3) rfl (fun _ => rfl) | exact Sl.of_own S.wd (k := 4) rfl (fun _ => rfl) | exact Sl.of_own S.wd (k := 5) rfl (fun _ => rfl) | (simp at *; omega))) rfl ?_) <;> clear S a w)
        rintro _ _ ⟨A11, c11, A21, c21, rfl, rfl⟩ a w S
        rw [rw_eta] at S
        rw [rw_f] at S
        refine st_m (op_stW S sizeOf37 (.t rfl) (.t rfl) (k := 4) rfl rfl rfl (by simp [Value.oneCell']) fun a w S => st_nil (in_normal (then_normal (hK5 _ _ (wp_region_lit (run S (.ad (by unfold I64; omega) rfl <| .mv rfl <| .z) fun a w S => st_nil (then_normal ?_)))))))
        exact ⟨(k + 1, (_, _), (_, _)), by dsimp only; omega, by dsimp only; omega, S.pk⟩
      · obtain rfl : k = b.length := by omega
        rw [List.take_length, hgr] at S
        clear hk hlt
        generalize settledL ((insF d).length + 1) (setF l) (insF d) = R at S hok
        by_cases h1 : 64 < R.marks.length ∨ 64 < R.cloud.length
        · rw [if_pos h1] at hok
          by_cases h2 : 64 < R.marks.length
          · refine sg S (.ge (by omega) rfl rfl <| .z) fun a w S => wp_seq_k fun _ hK5 => st_else S (.t rfl) (wp_exit (then_exit (then_exit (in_here (then_normal (hK1 _ _ (wp_seq_k fun _ hK1 => sg S (.fa underlying37 sizeOf34 0 rfl rfl rfl <| .ld gt34 3 rfl rfl rfl <| .ln underlying34 rfl <| .yy (ys_T (by omega) (ys_gtr (.t rfl) Ev.c)) rfl <| .mv rfl <| .sk rfl rfl rfl <| .sk rfl rfl rfl <| .sk rfl rfl rfl <| .sk rfl rfl rfl <| .yy (ys_pickT (.t rfl) Ev.c) rfl <| .z) fun a w S => st_then S (.t rfl) (wp_seq_k fun _ hK6 => wp_region_lit (run S (.yy (ys_bld (ps := []) (us := [_, _]) bld37 .nil rfl) rfl <| .z) fun a w S => st_m (op_stW S sizeOf37 (.t rfl) (.t rfl) (k := 4) rfl rfl rfl (by simp [Value.oneCell']) fun a w S => run S (.ac rfl <| .z) fun a w S => st_nil (then_normal (hK6 _ _ (wp_ret (then_ret (st_ret S (results2 S results144 (Rv.cell (k := 4) ⟨isAgg37, sizeOf37⟩ rfl rfl rfl) (Rv.tmp rfl)) ?_)))))))))))))))
            rw [hok]
            exact ⟨_, _, rfl, ((S.nil_ 58 3 Dot.enc none).nil_ 122 3 Dot.enc none).wd.sub (by repeat (first | exact List.Sublist.refl _ | exact List.nil_sublist _ | refine .cons_cons _ ?_ | refine .cons _ ?_)), none, 0, none, 0, rfl, rfl⟩
          · refine sg S (.ge (by omega) rfl rfl <| .z) fun a w S => wp_seq_k fun _ hK5 => st_else S (.t rfl) (wp_exit (then_exit (then_exit (in_here (then_normal (hK1 _ _ (wp_seq_k fun _ hK1 => sg S (.fa underlying37 sizeOf34 0 rfl rfl rfl <| .ld gt34 3 rfl rfl rfl <| .ln underlying34 rfl <| .yy (ys_F (by omega) (ys_gtr (.t rfl) Ev.c)) rfl <| .mv rfl <| .gy rfl rfl (ys_fieldN (FieldT.mk underlying37 rfl sizeOf35 rfl) (.t rfl) (i' := 1) rfl) <| .gy rfl rfl (ys_ld ⟨isAgg35, sizeOf35⟩ (.t rfl) (k := 3) rfl rfl) <| .gy rfl rfl (ys_lenS underlying35 (.t rfl)) <| .gy rfl rfl (ys_T (by omega) (ys_gtr (.t rfl) Ev.c)) <| .yy (ys_pickF (.t rfl) (.t rfl)) rfl <| .z) fun a w S => st_then S (.t rfl) (wp_seq_k fun _ hK6 => wp_region_lit (run S (.yy (ys_bld (ps := []) (us := [_, _]) bld37 .nil rfl) rfl <| .z) fun a w S => st_m (op_stW S sizeOf37 (.t rfl) (.t rfl) (k := 4) rfl rfl rfl (by simp [Value.oneCell']) fun a w S => run S (.ac rfl <| .z) fun a w S => st_nil (then_normal (hK6 _ _ (wp_ret (then_ret (st_ret S (results2 S results144 (Rv.cell (k := 4) ⟨isAgg37, sizeOf37⟩ rfl rfl rfl) (Rv.tmp rfl)) ?_)))))))))))))))
            rw [hok]
            exact ⟨_, _, rfl, ((S.nil_ 58 3 Dot.enc none).nil_ 122 3 Dot.enc none).wd.sub (by repeat (first | exact List.Sublist.refl _ | exact List.nil_sublist _ | refine .cons_cons _ ?_ | refine .cons _ ?_)), none, 0, none, 0, rfl, rfl⟩
        · rw [if_neg h1] at hok
          refine sg S (.ge (by omega) rfl rfl <| .z) fun a w S => wp_seq_k fun _ hK5 => st_else S (.t rfl) (wp_exit (then_exit (then_exit (in_here (then_normal (hK1 _ _ (wp_seq_k fun _ hK1 => sg S (.fa underlying37 sizeOf34 0 rfl rfl rfl <| .ld gt34 3 rfl rfl rfl <| .ln underlying34 rfl <| .yy (ys_F (by omega) (ys_gtr (.t rfl) Ev.c)) rfl <| .mv rfl <| .gy rfl rfl (ys_fieldN (FieldT.mk underlying37 rfl sizeOf35 rfl) (.t rfl) (i' := 1) rfl) <| .gy rfl rfl (ys_ld ⟨isAgg35, sizeOf35⟩ (.t rfl) (k := 3) rfl rfl) <| .gy rfl rfl (ys_lenS underlying35 (.t rfl)) <| .gy rfl rfl (ys_F (by omega) (ys_gtr (.t rfl) Ev.c)) <| .yy (ys_pickF (.t rfl) (.t rfl)) rfl <| .z) fun a w S => st_else S (.t rfl) (wp_skip (then_normal (hK1 _ _ (wp_seq_k fun _ hK1 => wp_region_lit (run S (.la gt37 3 rfl rfl rfl <| .z) fun a w S => st_m (op_stW S sizeOf37 (.t rfl) (.t rfl) (k := 4) rfl rfl rfl (by simp [Value.oneCell']) fun a w S => run S (.ac rfl <| .z) fun a w S => st_nil (then_normal (hK1 _ _ (wp_ret (st_ret S (results2 S results144 (Rv.cell (k := 4) ⟨isAgg37, sizeOf37⟩ rfl rfl rfl) (Rv.tmp rfl)) ?_)))))))))))))))))
          rw [hok]
          exact ⟨_, _, rfl, S.wd.sub (by repeat (first | exact List.Sublist.refl _ | exact List.nil_sublist _ | refine .cons_cons _ ?_ | refine .cons _ ?_)), A2, c2, A3, c3, rfl, rfl⟩
end Go.Proofs.YtfblmkocmnbdcaaGreat
set_option linter.unusedVariables false
set_option linter.unusedSimpArgs false
set_option maxRecDepth 100000
set_option maxHeartbeats 4000000
namespace Go.Fw
theorem cov_may {C : Ctx} {d : Dot} (hC : canL C = true) (h : C.covers d = true) : mayD d = true := by
  have hN := can_nf hC
  obtain ⟨h1, h2⟩ := (covers_iff C d).1 h
  rcases h2 with h2 | h2
  · have hm := hN.mayM _ (markOf_pos (x := d.node) (y := d.life) (l := C.marks) (by omega))
    have := may_lim hm
    unfold mayD
    simp only [decide_eq_true_eq]
    dsimp only at this
    omega
  · exact hN.mayC _ h2
theorem norm_one {d : Dot} : (normalL [] [d]).2 = if mayD d = true then 0 else 1 := by
  cases h : mayD d with
  | false => rw [normalL_bad2 (k := 0) rfl h]; rfl
  | true =>
    rw [normalL_ok (by simp) (by simp [h]), if_neg]
    · simp
    · have := settledL_len ((insF [d]).length + 1) (setF []) (insF [d])
      have e1 : (insF [d]).length = 1 := rfl
      have e2 : (setF []).length = 0 := rfl
      omega
end Go.Fw
namespace Go.Proofs.YtfblmkocmnbdcaaGreat
open Go.Fw Go.Proofs Go.RowKit Go.Proofs.Tryz
theorem c110 (w0 : World) (v1 v2 v3 : Value) (l : List Ent) (C : Ctx) (k : Nat) (x : Ent) (h : Sl Ent.enc 6 w0 w0.heap.size v1 l) (hr : RdCtx w0 w0.heap.size v2 v3 C) (hx : l[k]? = some x) (hC : canL C = true) (hp : ∀ y ∈ l.take k, C.covers y.dot = true) (hk64 : k ≤ 64) :
    Calls Tryz.prog 110 #[.agg #[v1, v2, v3], .int .i64 (k : Int)] w0 fun e w' => e = .returned (.int .i64 (entE C (l.take k) x)) ∧ Bel w0.heap.size w0 w' := by
  have hs := h
  obtain ⟨A, cap, rfl, hl, hcap, hA⟩ := h
  have hlt : k < l.length := (List.getElem?_eq_some_iff.1 hx).1
  obtain ⟨g, o, x', rfl, hx', hd, hc⟩ := row_at hA hlt
  rw [hx] at hx'
  cases hx'
  cases rw_n : nameB x.item with
  | false =>
    have he : entE C (l.take k) x = 6 := by unfold entE; rw [if_pos rw_n]
    rw [he]
    refine enter2 func110 rfl ntmps110 rfl fun a S => wp_seq_k fun _ hK1 => wp_region_lit (st_m (op_box S (.t rfl) rfl fun g1 a w S => run S (.ac rfl <| .z) fun a w S => st_nil (then_normal (hK1 _ _ (wp_seq_k fun _ hK1 => wp_region_lit (run S (.fa underlying39 sizeOf33 0 rfl rfl rfl <| .ld gt33 0 rfl rfl rfl <| .mv rfl <| .ix underlying33 sizeOf71 (by omega) rfl rfl <| .yy (ys_ldOA ⟨isAgg71, sizeOf71⟩ (.t rfl) (vs := [_, _, _, _, _, _]) rfl (fun _ => hc)) rfl <| .z) fun a w S => st_m (op_alloc S zeroValue71 (cs := _) rfl rfl fun g2 a w S => st_m (op_stW S sizeOf71 (.t rfl) (.t rfl) (k := 0) rfl rfl rfl (by simp [Value.oneCell']) fun a w S => st_nil (then_normal (hK1 _ _ (wp_seq_k fun _ hK1 => wp_block (wp_seq_k fun _ hK2 => wp_region_lit (run S (.fa underlying71 sizeOf9 0 rfl rfl rfl <| .ld gt9 0 rfl rfl rfl <| .xx (ys_call call142 (.cons (.t rfl) .nil) (fun hp w W => c142 _ _)) rfl <| .z) fun a w S => ?_)))))))))))))
    rw [rw_n] at S
    refine run S (.nt rfl <| .as rfl <| .z) fun a w S => st_nil (then_normal (hK2 _ _ (st_then S (.t rfl) (sg S (.ac rfl <| .z) fun a w S => wp_ret (in_ret (then_ret (st_ret S (results1 S results110 (Rv.tmp rfl)) ?_)))))))
    exact ⟨rfl, S.wd.below⟩
  | true =>
  by_cases hq : x.qty < 1 ∨ 1000000 < x.qty
  · have he : entE C (l.take k) x = 52 := by unfold entE; rw [if_neg (by simp [rw_n]), if_pos hq]
    rw [he]
    have rw_q : (decide (x.qty < 1) || decide (1000000 < x.qty)) = true := by simp; omega
    refine enter2 func110 rfl ntmps110 rfl fun a S => wp_seq_k fun _ hK1 => wp_region_lit (st_m (op_box S (.t rfl) rfl fun g1 a w S => run S (.ac rfl <| .z) fun a w S => st_nil (then_normal (hK1 _ _ (wp_seq_k fun _ hK1 => wp_region_lit (run S (.fa underlying39 sizeOf33 0 rfl rfl rfl <| .ld gt33 0 rfl rfl rfl <| .mv rfl <| .ix underlying33 sizeOf71 (by omega) rfl rfl <| .yy (ys_ldOA ⟨isAgg71, sizeOf71⟩ (.t rfl) (vs := [_, _, _, _, _, _]) rfl (fun _ => hc)) rfl <| .z) fun a w S => st_m (op_alloc S zeroValue71 (cs := _) rfl rfl fun g2 a w S => st_m (op_stW S sizeOf71 (.t rfl) (.t rfl) (k := 0) rfl rfl rfl (by simp [Value.oneCell']) fun a w S => st_nil (then_normal (hK1 _ _ (wp_seq_k fun _ hK1 => wp_block (wp_seq_k fun _ hK2 => wp_region_lit (run S (.fa underlying71 sizeOf9 0 rfl rfl rfl <| .ld gt9 0 rfl rfl rfl <| .xx (ys_call call142 (.cons (.t rfl) .nil) (fun hp w W => c142 _ _)) rfl <| .z) fun a w S => ?_)))))))))))))
    rw [rw_n] at S
    refine run S (.nt rfl <| .as rfl <| .z) fun a w S => st_nil (then_normal (hK2 _ _ (st_else S (.t rfl) (wp_seq_k fun _ hK2 => wp_region_lit (run S (.fa underlying71 sizeOf3 4 rfl rfl rfl <| .ld gt3 0 rfl rfl rfl <| .yy (ys_lss (.t rfl) Ev.c) rfl <| .mv rfl <| .z) fun a w S => st_yf S rfl rfl (Yr.ys (ys_fieldN (FieldT.mk underlying71 rfl sizeOf3 rfl) (.t rfl) (i' := 4) rfl)) rfl fun a w S => st_yf S rfl rfl (Yr.ys (ys_ld ⟨isAgg3, sizeOf3⟩ (Ev.g rfl) (k := 0) rfl rfl)) rfl fun a w S => st_yf S rfl rfl (Yr.ys (ys_gtr (Ev.g rfl) Ev.c)) rfl fun a w S => run S (.yy (ys_or (.t rfl) Ev.c (Ev.g rfl)) rfl <| .z) fun a w S => ?_)))))
    rw [rw_q] at S
    refine run S (.as rfl <| .z) fun a w S => st_nil (then_normal (hK2 _ _ (st_then S (.t rfl) (sg S (.ac rfl <| .z) fun a w S => wp_ret (in_ret (then_ret (st_ret S (results1 S results110 (Rv.tmp rfl)) ?_)))))))
    exact ⟨rfl, S.wd.below⟩
  have rw_q : (decide (x.qty < 1) || decide (1000000 < x.qty)) = false := by simp; omega
  cases rw_p : priceB x.price with
  | false =>
    have he : entE C (l.take k) x = 53 := by unfold entE; rw [if_neg (by simp [rw_n]), if_neg hq, if_pos rw_p]
    rw [he]
    refine enter2 func110 rfl ntmps110 rfl fun a S => wp_seq_k fun _ hK1 => wp_region_lit (st_m (op_box S (.t rfl) rfl fun g1 a w S => run S (.ac rfl <| .z) fun a w S => st_nil (then_normal (hK1 _ _ (wp_seq_k fun _ hK1 => wp_region_lit (run S (.fa underlying39 sizeOf33 0 rfl rfl rfl <| .ld gt33 0 rfl rfl rfl <| .mv rfl <| .ix underlying33 sizeOf71 (by omega) rfl rfl <| .yy (ys_ldOA ⟨isAgg71, sizeOf71⟩ (.t rfl) (vs := [_, _, _, _, _, _]) rfl (fun _ => hc)) rfl <| .z) fun a w S => st_m (op_alloc S zeroValue71 (cs := _) rfl rfl fun g2 a w S => st_m (op_stW S sizeOf71 (.t rfl) (.t rfl) (k := 0) rfl rfl rfl (by simp [Value.oneCell']) fun a w S => st_nil (then_normal (hK1 _ _ (wp_seq_k fun _ hK1 => wp_block (wp_seq_k fun _ hK2 => wp_region_lit (run S (.fa underlying71 sizeOf9 0 rfl rfl rfl <| .ld gt9 0 rfl rfl rfl <| .xx (ys_call call142 (.cons (.t rfl) .nil) (fun hp w W => c142 _ _)) rfl <| .z) fun a w S => ?_)))))))))))))
    rw [rw_n] at S
    refine run S (.nt rfl <| .as rfl <| .z) fun a w S => st_nil (then_normal (hK2 _ _ (st_else S (.t rfl) (sg S (.fa underlying71 sizeOf3 4 rfl rfl rfl <| .ld gt3 0 rfl rfl rfl <| .yy (ys_F (by omega) (ys_lss (.t rfl) Ev.c)) rfl <| .mv rfl <| .gy rfl rfl (ys_fieldN (FieldT.mk underlying71 rfl sizeOf3 rfl) (.t rfl) (i' := 4) rfl) <| .gy rfl rfl (ys_ld ⟨isAgg3, sizeOf3⟩ (.t rfl) (k := 0) rfl rfl) <| .gy rfl rfl (ys_F (by omega) (ys_gtr (.t rfl) Ev.c)) <| .yy (ys_pickF (.t rfl) (.t rfl)) rfl <| .as rfl <| .z) fun a w S => st_else S (.t rfl) (wp_seq_k fun _ hK2 => wp_region_lit (run S (.fa underlying71 sizeOf27 5 rfl rfl rfl <| .ld gt27 0 rfl rfl rfl <| .xx (ys_call call143 (.cons (.t rfl) .nil) (fun hp w W => c143 _ _)) rfl <| .z) fun a w S => ?_))))))
    rw [rw_p] at S
    refine run S (.nt rfl <| .as rfl <| .z) fun a w S => st_nil (then_normal (hK2 _ _ (st_then S (.t rfl) (sg S (.ac rfl <| .z) fun a w S => wp_ret (in_ret (then_ret (st_ret S (results1 S results110 (Rv.tmp rfl)) ?_)))))))
    exact ⟨rfl, S.wd.below⟩
  | true =>
  have he0 : entE C (l.take k) x = if C.covers x.dot = false ∨ backE (l.take k).getLast? x = true then 50 else if x.dot ∈ (l.take k).map (·.dot) then 50 else 0 := by unfold entE; rw [if_neg (by simp [rw_n]), if_neg hq, if_neg (by simp [rw_p])]
  cases rw_c : C.covers x.dot with
  | false =>
    rw [if_pos (.inl rw_c)] at he0
    rw [he0]
    have rw_c2 : C.covers ⟨x.dot.node, x.dot.life, x.dot.count⟩ = false := rw_c
    refine enter2 func110 rfl ntmps110 rfl fun a S => wp_seq_k fun _ hK1 => wp_region_lit (st_m (op_box S (.t rfl) rfl fun g1 a w S => run S (.ac rfl <| .z) fun a w S => st_nil (then_normal (hK1 _ _ (wp_seq_k fun _ hK1 => wp_region_lit (run S (.fa underlying39 sizeOf33 0 rfl rfl rfl <| .ld gt33 0 rfl rfl rfl <| .mv rfl <| .ix underlying33 sizeOf71 (by omega) rfl rfl <| .yy (ys_ldOA ⟨isAgg71, sizeOf71⟩ (.t rfl) (vs := [_, _, _, _, _, _]) rfl (fun _ => hc)) rfl <| .z) fun a w S => st_m (op_alloc S zeroValue71 (cs := _) rfl rfl fun g2 a w S => st_m (op_stW S sizeOf71 (.t rfl) (.t rfl) (k := 0) rfl rfl rfl (by simp [Value.oneCell']) fun a w S => st_nil (then_normal (hK1 _ _ (wp_seq_k fun _ hK1 => wp_block (wp_seq_k fun _ hK2 => wp_region_lit (run S (.fa underlying71 sizeOf9 0 rfl rfl rfl <| .ld gt9 0 rfl rfl rfl <| .xx (ys_call call142 (.cons (.t rfl) .nil) (fun hp w W => c142 _ _)) rfl <| .z) fun a w S => ?_)))))))))))))
    rw [rw_n] at S
    refine run S (.nt rfl <| .as rfl <| .z) fun a w S => st_nil (then_normal (hK2 _ _ (st_else S (.t rfl) (sg S (.fa underlying71 sizeOf3 4 rfl rfl rfl <| .ld gt3 0 rfl rfl rfl <| .yy (ys_F (by omega) (ys_lss (.t rfl) Ev.c)) rfl <| .mv rfl <| .gy rfl rfl (ys_fieldN (FieldT.mk underlying71 rfl sizeOf3 rfl) (.t rfl) (i' := 4) rfl) <| .gy rfl rfl (ys_ld ⟨isAgg3, sizeOf3⟩ (.t rfl) (k := 0) rfl rfl) <| .gy rfl rfl (ys_F (by omega) (ys_gtr (.t rfl) Ev.c)) <| .yy (ys_pickF (.t rfl) (.t rfl)) rfl <| .as rfl <| .z) fun a w S => st_else S (.t rfl) (wp_seq_k fun _ hK2 => wp_region_lit (run S (.fa underlying71 sizeOf27 5 rfl rfl rfl <| .ld gt27 0 rfl rfl rfl <| .xx (ys_call call143 (.cons (.t rfl) .nil) (fun hp w W => c143 _ _)) rfl <| .z) fun a w S => ?_))))))
    rw [rw_p] at S
    refine run S (.nt rfl <| .as rfl <| .z) fun a w S => st_nil (then_normal (hK2 _ _ (st_else S (.t rfl) (wp_seq_k fun _ hK2 => st_quiet S (by kernel_rfl) (by kernel_rfl) fun a S => qrun S (.fa underlying39 sizeOf37 1 rfl rfl rfl <| .la gt37 1 rfl rfl rfl <| .fa underlying71 sizeOf58 1 rfl rfl rfl <| .la gt58 0 rfl rfl rfl <| .xx (ys_call call101 (.cons (.t rfl) (.cons (.t rfl) .nil)) (fun hp w W => c101 _ _ _ _ _ _ _ (by exact .old W (by assumption)))) rfl <| .z) fun a S => ?_))))
    rw [rw_c] at S
    refine qrun S (.nt rfl <| .mv rfl <| .sk rfl rfl rfl <| .sk rfl rfl rfl <| .sk rfl rfl rfl <| .s0 rfl rfl <| .s0 rfl rfl <| .s0 rfl rfl <| .s0 rfl rfl <| .s0 rfl rfl <| .s0 rfl rfl <| .s0 rfl rfl <| .s0 rfl rfl <| .s0 rfl rfl <| .sk rfl rfl rfl <| .yy (ys_pickT (.t rfl) Ev.c) rfl <| .as rfl <| .z) fun a S => ?_
    (refine q_nil ?_; intro w W; replace S := St.mk S W; clear W)
    refine then_normal (hK2 _ _ (st_then S (.t rfl) (sg S (.ac rfl <| .z) fun a w S => wp_ret (in_ret (then_ret (st_ret S (results1 S results110 (Rv.tmp rfl)) ?_))))))
    exact ⟨rfl, S.wd.below⟩
  | true =>
  have rw_c2 : C.covers ⟨x.dot.node, x.dot.life, x.dot.count⟩ = true := rw_c
  rcases k with _ | k
  · have hnb : ¬ (C.covers x.dot = false ∨ backE (l.take 0).getLast? x = true) := by simp [rw_c, backE]
    refine enter2 func110 rfl ntmps110 rfl fun a S => wp_seq_k fun _ hK1 => wp_region_lit (st_m (op_box S (.t rfl) rfl fun g1 a w S => run S (.ac rfl <| .z) fun a w S => st_nil (then_normal (hK1 _ _ (wp_seq_k fun _ hK1 => wp_region_lit (run S (.fa underlying39 sizeOf33 0 rfl rfl rfl <| .ld gt33 0 rfl rfl rfl <| .mv rfl <| .yy (ys_ixS (j := 0) underlying33 sizeOf71 (.t rfl) (.t rfl) (fun _ => by omega)) rfl <| .yy (ys_ldOA ⟨isAgg71, sizeOf71⟩ (.t rfl) (vs := [_, _, _, _, _, _]) rfl (fun _ => hc)) rfl <| .z) fun a w S => st_m (op_alloc S zeroValue71 (cs := _) rfl rfl fun g2 a w S => st_m (op_stW S sizeOf71 (.t rfl) (.t rfl) (k := 0) rfl rfl rfl (by simp [Value.oneCell']) fun a w S => st_nil (then_normal (hK1 _ _ (wp_seq_k fun _ hK1 => wp_block (wp_seq_k fun _ hK2 => wp_region_lit (run S (.fa underlying71 sizeOf9 0 rfl rfl rfl <| .ld gt9 0 rfl rfl rfl <| .xx (ys_call call142 (.cons (.t rfl) .nil) (fun hp w W => c142 _ _)) rfl <| .z) fun a w S => ?_)))))))))))))
    rw [rw_n] at S
    refine run S (.nt rfl <| .as rfl <| .z) fun a w S => st_nil (then_normal (hK2 _ _ (st_else S (.t rfl) (sg S (.fa underlying71 sizeOf3 4 rfl rfl rfl <| .ld gt3 0 rfl rfl rfl <| .yy (ys_F (by omega) (ys_lss (.t rfl) Ev.c)) rfl <| .mv rfl <| .gy rfl rfl (ys_fieldN (FieldT.mk underlying71 rfl sizeOf3 rfl) (.t rfl) (i' := 4) rfl) <| .gy rfl rfl (ys_ld ⟨isAgg3, sizeOf3⟩ (.t rfl) (k := 0) rfl rfl) <| .gy rfl rfl (ys_F (by omega) (ys_gtr (.t rfl) Ev.c)) <| .yy (ys_pickF (.t rfl) (.t rfl)) rfl <| .as rfl <| .z) fun a w S => st_else S (.t rfl) (wp_seq_k fun _ hK2 => wp_region_lit (run S (.fa underlying71 sizeOf27 5 rfl rfl rfl <| .ld gt27 0 rfl rfl rfl <| .xx (ys_call call143 (.cons (.t rfl) .nil) (fun hp w W => c143 _ _)) rfl <| .z) fun a w S => ?_))))))
    rw [rw_p] at S
    refine run S (.nt rfl <| .as rfl <| .z) fun a w S => st_nil (then_normal (hK2 _ _ (st_else S (.t rfl) (wp_seq_k fun _ hK2 => st_quiet S (by kernel_rfl) (by kernel_rfl) fun a S => qrun S (.fa underlying39 sizeOf37 1 rfl rfl rfl <| .la gt37 1 rfl rfl rfl <| .fa underlying71 sizeOf58 1 rfl rfl rfl <| .la gt58 0 rfl rfl rfl <| .xx (ys_call call101 (.cons (.t rfl) (.cons (.t rfl) .nil)) (fun hp w W => c101 _ _ _ _ _ _ _ (by exact .old W (by assumption)))) rfl <| .z) fun a S => ?_))))
    rw [rw_c] at S
    refine qrun S (.nt rfl <| .mv rfl <| .gy rfl rfl (ys_move (.t rfl)) <| .gy rfl rfl (ys_F (by omega) (ys_gtr (.t rfl) Ev.c)) <| .gy rfl rfl (ys_move (.t rfl)) <| .sk rfl rfl rfl <| .sk rfl rfl rfl <| .sk rfl rfl rfl <| .sk rfl rfl rfl <| .sk rfl rfl rfl <| .sk rfl rfl rfl <| .sk rfl rfl rfl <| .sk rfl rfl rfl <| .sk rfl rfl rfl <| .gy rfl rfl (ys_pickF (.t rfl) Ev.c) <| .yy (ys_pickF (.t rfl) (.t rfl)) rfl <| .as rfl <| .z) fun a S => ?_
    (refine q_nil ?_; intro w W; replace S := St.mk S W; clear W)
    refine then_normal (hK2 _ _ (st_else S (.t rfl) (wp_skip (in_normal (then_normal (hK1 _ _ (wp_seq_k fun _ hK1 => sg S (.fa underlying39 sizeOf33 0 rfl rfl rfl <| .ld gt33 1 rfl rfl rfl <| .mv rfl <| .yy (ys_slHi underlying33 sizeOf71 (.t rfl) (.t rfl) (fun _ => by first | omega | (simp; done) | (simp; omega))) rfl <| .ln underlying33 rfl <| .mc rfl <| .z) fun a w S => wp_block ?_)))))))
    refine st_lpM S [7, 59] (X := Nat) (fun j => [(59, true, .int .i64 (j : Int))]) (fun _ => [.blk g2 (.cells (Ent.enc x).toArray 71), .blk g1 (.cells #[.slice (some ⟨g, o, none⟩) l.length cap, v2, v3] 39)])
      (fun j => j ≤ 0 ∧ x.dot ∉ (l.take j).map (·.dot)) (fun j => 0 - j) 0 ⟨Nat.zero_le _, by simp⟩ ?_
    clear S
    intro j a w ⟨hj, hdup⟩ S
    by_cases hjk : j < 0
    · obtain ⟨g3, o3, y, e3, hy, hdy, hcy⟩ := row_at hA (show j < l.length by omega)
      cases e3
      by_cases he : y.dot = x.dot
      · have hin : x.dot ∈ (l.take (0)).map (·.dot) := he ▸ dup_at hjk hy
        rw [if_neg hnb, if_pos hin] at he0
        rw [he0]
        have rw_e := decide_eq_true (dot_iff3.1 he)
        refine sg S (.lt (by omega) rfl rfl <| .z) fun a w S => wp_seq_k fun _ hK2 => st_then S (.t rfl) (wp_skip (then_normal (hK2 _ _ (wp_seq_k fun _ hK2 => wp_block (wp_seq_k fun _ hK3 => wp_region_lit (run S (.ix underlying33 sizeOf71 (by omega) rfl rfl <| .yy (ys_ldOA ⟨isAgg71, sizeOf71⟩ (.t rfl) (vs := [_, _, _, _, _, _]) rfl (fun _ => hcy)) rfl <| .z) fun a w S => st_m (op_alloc S zeroValue71 (cs := _) rfl rfl fun g3 a w S => st_m (op_stW S sizeOf71 (.t rfl) (.t rfl) (k := 0) rfl rfl rfl (by simp [Value.oneCell']) fun a w S => st_nil (then_normal (hK3 _ _ (wp_seq_k fun _ hK3 => wp_region_lit (run S (.fa underlying71 sizeOf58 1 rfl rfl rfl <| .la gt58 0 rfl rfl rfl <| .fa underlying71 sizeOf58 1 rfl rfl rfl <| .la gt58 1 rfl rfl rfl <| .yy (ys_eqA (.t rfl) (.t rfl) eq58) rfl <| .z) fun a w S => ?_))))))))))))
        rw [rw_e] at S
        refine st_nil (then_normal (hK3 _ _ (st_then S (.t rfl) (sg S (.ac rfl <| .z) fun a w S => wp_ret (in_ret (then_ret (then_ret (in_ret (then_ret (st_ret S (results1 S results110 (Rv.tmp rfl)) ?_))))))))))
        exact ⟨rfl, S.wd.below⟩
      · have rw_e := decide_eq_false (fun h => he (dot_iff3.2 h))
        refine sg S (.lt (by omega) rfl rfl <| .z) fun a w S => wp_seq_k fun _ hK2 => st_then S (.t rfl) (wp_skip (then_normal (hK2 _ _ (wp_seq_k fun _ hK2 => wp_block (wp_seq_k fun _ hK3 => wp_region_lit (run S (.ix underlying33 sizeOf71 (by omega) rfl rfl <| .yy (ys_ldOA ⟨isAgg71, sizeOf71⟩ (.t rfl) (vs := [_, _, _, _, _, _]) rfl (fun _ => hcy)) rfl <| .z) fun a w S => st_m (op_alloc S zeroValue71 (cs := _) rfl rfl fun g3 a w S => st_m (op_stW S sizeOf71 (.t rfl) (.t rfl) (k := 0) rfl rfl rfl (by simp [Value.oneCell']) fun a w S => st_nil (then_normal (hK3 _ _ (wp_seq_k fun _ hK3 => wp_region_lit (run S (.fa underlying71 sizeOf58 1 rfl rfl rfl <| .la gt58 0 rfl rfl rfl <| .fa underlying71 sizeOf58 1 rfl rfl rfl <| .la gt58 1 rfl rfl rfl <| .yy (ys_eqA (.t rfl) (.t rfl) eq58) rfl <| .z) fun a w S => ?_))))))))))))
        rw [rw_e] at S
        refine st_nil (then_normal (hK3 _ _ (st_else S (.t rfl) (wp_skip (in_normal (then_normal (hK2 _ _ (wp_region_lit (run S (.ad (by unfold I64; omega) rfl <| .mv rfl <| .z) fun a w S => st_nil (then_normal ?_))))))))))
        exact ⟨j + 1, ⟨by omega, dup_step hy hdup he⟩, by omega, S.pk⟩
    · obtain rfl : j = 0 := by omega
      rw [if_neg hnb, if_neg hdup] at he0
      refine sg S (.ge (by omega) rfl rfl <| .z) fun a w S => wp_seq_k fun _ hK2 => st_else S (.t rfl) (wp_exit (then_exit (then_exit (in_here (then_normal (hK1 _ _ (sg S (.ac rfl <| .z) fun a w S => wp_ret (st_ret S (results1 S results110 (Rv.tmp rfl)) ?_))))))))
      exact ⟨by rw [he0], S.wd.below⟩
  obtain ⟨g4, o4, p, e4, hp4, hdp, hcp⟩ := row_at hA (show k < l.length by omega)
  cases e4
  rw [take_last hp4] at he0
  have hmp : mayD p.dot = true := cov_may hC (hp p (List.mem_of_getElem? (i := k) (by rw [List.getElem?_take, if_pos (by omega), hp4])))
  have hmx : mayD x.dot = true := cov_may hC rw_c
  by_cases hlt2 : ltE p x
  · have hnb : ¬ (C.covers x.dot = false ∨ backE (some p) x = true) := by simp [rw_c, backE, hlt2]
    have rw_l : decide (0 ≤ ordE p x) = false := decide_eq_false (by have := (ordE_iff p x).2 hlt2; omega)
    refine enter2 func110 rfl ntmps110 rfl fun a S => wp_seq_k fun _ hK1 => wp_region_lit (st_m (op_box S (.t rfl) rfl fun g1 a w S => run S (.ac rfl <| .z) fun a w S => st_nil (then_normal (hK1 _ _ (wp_seq_k fun _ hK1 => wp_region_lit (run S (.fa underlying39 sizeOf33 0 rfl rfl rfl <| .ld gt33 0 rfl rfl rfl <| .mv rfl <| .ix underlying33 sizeOf71 (by omega) rfl rfl <| .yy (ys_ldOA ⟨isAgg71, sizeOf71⟩ (.t rfl) (vs := [_, _, _, _, _, _]) rfl (fun _ => hc)) rfl <| .z) fun a w S => st_m (op_alloc S zeroValue71 (cs := _) rfl rfl fun g2 a w S => st_m (op_stW S sizeOf71 (.t rfl) (.t rfl) (k := 0) rfl rfl rfl (by simp [Value.oneCell']) fun a w S => st_nil (then_normal (hK1 _ _ (wp_seq_k fun _ hK1 => wp_block (wp_seq_k fun _ hK2 => wp_region_lit (run S (.fa underlying71 sizeOf9 0 rfl rfl rfl <| .ld gt9 0 rfl rfl rfl <| .xx (ys_call call142 (.cons (.t rfl) .nil) (fun hp w W => c142 _ _)) rfl <| .z) fun a w S => ?_)))))))))))))
    rw [rw_n] at S
    refine run S (.nt rfl <| .as rfl <| .z) fun a w S => st_nil (then_normal (hK2 _ _ (st_else S (.t rfl) (sg S (.fa underlying71 sizeOf3 4 rfl rfl rfl <| .ld gt3 0 rfl rfl rfl <| .yy (ys_F (by omega) (ys_lss (.t rfl) Ev.c)) rfl <| .mv rfl <| .gy rfl rfl (ys_fieldN (FieldT.mk underlying71 rfl sizeOf3 rfl) (.t rfl) (i' := 4) rfl) <| .gy rfl rfl (ys_ld ⟨isAgg3, sizeOf3⟩ (.t rfl) (k := 0) rfl rfl) <| .gy rfl rfl (ys_F (by omega) (ys_gtr (.t rfl) Ev.c)) <| .yy (ys_pickF (.t rfl) (.t rfl)) rfl <| .as rfl <| .z) fun a w S => st_else S (.t rfl) (wp_seq_k fun _ hK2 => wp_region_lit (run S (.fa underlying71 sizeOf27 5 rfl rfl rfl <| .ld gt27 0 rfl rfl rfl <| .xx (ys_call call143 (.cons (.t rfl) .nil) (fun hp w W => c143 _ _)) rfl <| .z) fun a w S => ?_))))))
    rw [rw_p] at S
    refine run S (.nt rfl <| .as rfl <| .z) fun a w S => st_nil (then_normal (hK2 _ _ (st_else S (.t rfl) (wp_seq_k fun _ hK2 => st_quiet S (by kernel_rfl) (by kernel_rfl) fun a S => qrun S (.fa underlying39 sizeOf37 1 rfl rfl rfl <| .la gt37 1 rfl rfl rfl <| .fa underlying71 sizeOf58 1 rfl rfl rfl <| .la gt58 0 rfl rfl rfl <| .xx (ys_call call101 (.cons (.t rfl) (.cons (.t rfl) .nil)) (fun hp w W => c101 _ _ _ _ _ _ _ (by exact .old W (by assumption)))) rfl <| .z) fun a S => ?_))))
    rw [rw_c] at S
    refine qrun S (.nt rfl <| .mv rfl <| .gy rfl rfl (ys_move (.t rfl)) <| .gy rfl rfl (ys_T (by omega) (ys_gtr (.t rfl) Ev.c)) <| .gy rfl rfl (ys_move (.t rfl)) <| .gy rfl rfl (ys_fieldN (FieldT.mk underlying39 rfl sizeOf33 rfl) (.t rfl) (i' := 0) rfl) <| .gy rfl rfl (ys_ld ⟨isAgg33, sizeOf33⟩ (.t rfl) (k := 1) rfl rfl) <| .gy rfl rfl (ys_move (.t rfl)) <| .gy rfl rfl (ys_pred (.t rfl) Ev.c (by omega)) <| .gy rfl rfl (ys_ixS underlying33 sizeOf71 (.t rfl) (.t rfl) (fun _ => by omega)) <| .gy rfl rfl (ys_ldOA ⟨isAgg71, sizeOf71⟩ (.t rfl) (vs := [_, _, _, _, _, _]) rfl (fun _ => hcp)) <| .gy rfl rfl (ys_ldA ⟨isAgg71, sizeOf71⟩ (.t rfl) (k := 0) rfl rfl) <| .gx rfl rfl (ys_call call83 (.cons (.t rfl) (.cons (.t rfl) .nil)) (fun hp w W => c83 _ _ _ (by assumption) (by assumption))) <| .gy rfl rfl (ys_geq (.t rfl) Ev.c) <| .z) fun a S => ?_
    rw [rw_l] at S
    refine qrun S (.gy rfl rfl (ys_pickT (.t rfl) (.t rfl)) <| .yy (ys_pickF (.t rfl) (.t rfl)) rfl <| .as rfl <| .z) fun a S => ?_
    (refine q_nil ?_; intro w W; replace S := St.mk S W; clear W)
    refine then_normal (hK2 _ _ (st_else S (.t rfl) (wp_skip (in_normal (then_normal (hK1 _ _ (wp_seq_k fun _ hK1 => sg S (.fa underlying39 sizeOf33 0 rfl rfl rfl <| .ld gt33 1 rfl rfl rfl <| .mv rfl <| .yy (ys_slHi underlying33 sizeOf71 (.t rfl) (.t rfl) (fun _ => by first | omega | (simp; done) | (simp; omega))) rfl <| .ln underlying33 rfl <| .mc rfl <| .z) fun a w S => wp_block ?_)))))))
    refine st_lpM S [7, 59] (X := Nat) (fun j => [(59, true, .int .i64 (j : Int))]) (fun _ => [.blk g2 (.cells (Ent.enc x).toArray 71), .blk g1 (.cells #[.slice (some ⟨g, o, none⟩) l.length cap, v2, v3] 39)])
      (fun j => j ≤ (k + 1) ∧ x.dot ∉ (l.take j).map (·.dot)) (fun j => (k + 1) - j) 0 ⟨Nat.zero_le _, by simp⟩ ?_
    clear S
    intro j a w ⟨hj, hdup⟩ S
    by_cases hjk : j < (k + 1)
    · obtain ⟨g3, o3, y, e3, hy, hdy, hcy⟩ := row_at hA (show j < l.length by omega)
      cases e3
      by_cases he : y.dot = x.dot
      · have hin : x.dot ∈ (l.take ((k + 1))).map (·.dot) := he ▸ dup_at hjk hy
        rw [if_neg hnb, if_pos hin] at he0
        rw [he0]
        have rw_e := decide_eq_true (dot_iff3.1 he)
        refine sg S (.lt (by omega) rfl rfl <| .z) fun a w S => wp_seq_k fun _ hK2 => st_then S (.t rfl) (wp_skip (then_normal (hK2 _ _ (wp_seq_k fun _ hK2 => wp_block (wp_seq_k fun _ hK3 => wp_region_lit (run S (.ix underlying33 sizeOf71 (by omega) rfl rfl <| .yy (ys_ldOA ⟨isAgg71, sizeOf71⟩ (.t rfl) (vs := [_, _, _, _, _, _]) rfl (fun _ => hcy)) rfl <| .z) fun a w S => st_m (op_alloc S zeroValue71 (cs := _) rfl rfl fun g3 a w S => st_m (op_stW S sizeOf71 (.t rfl) (.t rfl) (k := 0) rfl rfl rfl (by simp [Value.oneCell']) fun a w S => st_nil (then_normal (hK3 _ _ (wp_seq_k fun _ hK3 => wp_region_lit (run S (.fa underlying71 sizeOf58 1 rfl rfl rfl <| .la gt58 0 rfl rfl rfl <| .fa underlying71 sizeOf58 1 rfl rfl rfl <| .la gt58 1 rfl rfl rfl <| .yy (ys_eqA (.t rfl) (.t rfl) eq58) rfl <| .z) fun a w S => ?_))))))))))))
        rw [rw_e] at S
        refine st_nil (then_normal (hK3 _ _ (st_then S (.t rfl) (sg S (.ac rfl <| .z) fun a w S => wp_ret (in_ret (then_ret (then_ret (in_ret (then_ret (st_ret S (results1 S results110 (Rv.tmp rfl)) ?_))))))))))
        exact ⟨rfl, S.wd.below⟩
      · have rw_e := decide_eq_false (fun h => he (dot_iff3.2 h))
        refine sg S (.lt (by omega) rfl rfl <| .z) fun a w S => wp_seq_k fun _ hK2 => st_then S (.t rfl) (wp_skip (then_normal (hK2 _ _ (wp_seq_k fun _ hK2 => wp_block (wp_seq_k fun _ hK3 => wp_region_lit (run S (.ix underlying33 sizeOf71 (by omega) rfl rfl <| .yy (ys_ldOA ⟨isAgg71, sizeOf71⟩ (.t rfl) (vs := [_, _, _, _, _, _]) rfl (fun _ => hcy)) rfl <| .z) fun a w S => st_m (op_alloc S zeroValue71 (cs := _) rfl rfl fun g3 a w S => st_m (op_stW S sizeOf71 (.t rfl) (.t rfl) (k := 0) rfl rfl rfl (by simp [Value.oneCell']) fun a w S => st_nil (then_normal (hK3 _ _ (wp_seq_k fun _ hK3 => wp_region_lit (run S (.fa underlying71 sizeOf58 1 rfl rfl rfl <| .la gt58 0 rfl rfl rfl <| .fa underlying71 sizeOf58 1 rfl rfl rfl <| .la gt58 1 rfl rfl rfl <| .yy (ys_eqA (.t rfl) (.t rfl) eq58) rfl <| .z) fun a w S => ?_))))))))))))
        rw [rw_e] at S
        refine st_nil (then_normal (hK3 _ _ (st_else S (.t rfl) (wp_skip (in_normal (then_normal (hK2 _ _ (wp_region_lit (run S (.ad (by unfold I64; omega) rfl <| .mv rfl <| .z) fun a w S => st_nil (then_normal ?_))))))))))
        exact ⟨j + 1, ⟨by omega, dup_step hy hdup he⟩, by omega, S.pk⟩
    · obtain rfl : j = (k + 1) := by omega
      rw [if_neg hnb, if_neg hdup] at he0
      refine sg S (.ge (by omega) rfl rfl <| .z) fun a w S => wp_seq_k fun _ hK2 => st_else S (.t rfl) (wp_exit (then_exit (then_exit (in_here (then_normal (hK1 _ _ (sg S (.ac rfl <| .z) fun a w S => wp_ret (st_ret S (results1 S results110 (Rv.tmp rfl)) ?_))))))))
      exact ⟨by rw [he0], S.wd.below⟩
  · rw [if_pos (.inr (by simp [backE, hlt2]))] at he0
    rw [he0]
    have rw_l : decide (0 ≤ ordE p x) = true := decide_eq_true (by have : ¬ ordE p x < 0 := fun h => hlt2 ((ordE_iff p x).1 h); omega)
    refine enter2 func110 rfl ntmps110 rfl fun a S => wp_seq_k fun _ hK1 => wp_region_lit (st_m (op_box S (.t rfl) rfl fun g1 a w S => run S (.ac rfl <| .z) fun a w S => st_nil (then_normal (hK1 _ _ (wp_seq_k fun _ hK1 => wp_region_lit (run S (.fa underlying39 sizeOf33 0 rfl rfl rfl <| .ld gt33 0 rfl rfl rfl <| .mv rfl <| .ix underlying33 sizeOf71 (by omega) rfl rfl <| .yy (ys_ldOA ⟨isAgg71, sizeOf71⟩ (.t rfl) (vs := [_, _, _, _, _, _]) rfl (fun _ => hc)) rfl <| .z) fun a w S => st_m (op_alloc S zeroValue71 (cs := _) rfl rfl fun g2 a w S => st_m (op_stW S sizeOf71 (.t rfl) (.t rfl) (k := 0) rfl rfl rfl (by simp [Value.oneCell']) fun a w S => st_nil (then_normal (hK1 _ _ (wp_seq_k fun _ hK1 => wp_block (wp_seq_k fun _ hK2 => wp_region_lit (run S (.fa underlying71 sizeOf9 0 rfl rfl rfl <| .ld gt9 0 rfl rfl rfl <| .xx (ys_call call142 (.cons (.t rfl) .nil) (fun hp w W => c142 _ _)) rfl <| .z) fun a w S => ?_)))))))))))))
    rw [rw_n] at S
    refine run S (.nt rfl <| .as rfl <| .z) fun a w S => st_nil (then_normal (hK2 _ _ (st_else S (.t rfl) (sg S (.fa underlying71 sizeOf3 4 rfl rfl rfl <| .ld gt3 0 rfl rfl rfl <| .yy (ys_F (by omega) (ys_lss (.t rfl) Ev.c)) rfl <| .mv rfl <| .gy rfl rfl (ys_fieldN (FieldT.mk underlying71 rfl sizeOf3 rfl) (.t rfl) (i' := 4) rfl) <| .gy rfl rfl (ys_ld ⟨isAgg3, sizeOf3⟩ (.t rfl) (k := 0) rfl rfl) <| .gy rfl rfl (ys_F (by omega) (ys_gtr (.t rfl) Ev.c)) <| .yy (ys_pickF (.t rfl) (.t rfl)) rfl <| .as rfl <| .z) fun a w S => st_else S (.t rfl) (wp_seq_k fun _ hK2 => wp_region_lit (run S (.fa underlying71 sizeOf27 5 rfl rfl rfl <| .ld gt27 0 rfl rfl rfl <| .xx (ys_call call143 (.cons (.t rfl) .nil) (fun hp w W => c143 _ _)) rfl <| .z) fun a w S => ?_))))))
    rw [rw_p] at S
    refine run S (.nt rfl <| .as rfl <| .z) fun a w S => st_nil (then_normal (hK2 _ _ (st_else S (.t rfl) (wp_seq_k fun _ hK2 => st_quiet S (by kernel_rfl) (by kernel_rfl) fun a S => qrun S (.fa underlying39 sizeOf37 1 rfl rfl rfl <| .la gt37 1 rfl rfl rfl <| .fa underlying71 sizeOf58 1 rfl rfl rfl <| .la gt58 0 rfl rfl rfl <| .xx (ys_call call101 (.cons (.t rfl) (.cons (.t rfl) .nil)) (fun hp w W => c101 _ _ _ _ _ _ _ (by exact .old W (by assumption)))) rfl <| .z) fun a S => ?_))))
    rw [rw_c] at S
    refine qrun S (.nt rfl <| .mv rfl <| .gy rfl rfl (ys_move (.t rfl)) <| .gy rfl rfl (ys_T (by omega) (ys_gtr (.t rfl) Ev.c)) <| .gy rfl rfl (ys_move (.t rfl)) <| .gy rfl rfl (ys_fieldN (FieldT.mk underlying39 rfl sizeOf33 rfl) (.t rfl) (i' := 0) rfl) <| .gy rfl rfl (ys_ld ⟨isAgg33, sizeOf33⟩ (.t rfl) (k := 1) rfl rfl) <| .gy rfl rfl (ys_move (.t rfl)) <| .gy rfl rfl (ys_pred (.t rfl) Ev.c (by omega)) <| .gy rfl rfl (ys_ixS underlying33 sizeOf71 (.t rfl) (.t rfl) (fun _ => by omega)) <| .gy rfl rfl (ys_ldOA ⟨isAgg71, sizeOf71⟩ (.t rfl) (vs := [_, _, _, _, _, _]) rfl (fun _ => hcp)) <| .gy rfl rfl (ys_ldA ⟨isAgg71, sizeOf71⟩ (.t rfl) (k := 0) rfl rfl) <| .gx rfl rfl (ys_call call83 (.cons (.t rfl) (.cons (.t rfl) .nil)) (fun hp w W => c83 _ _ _ (by assumption) (by assumption))) <| .gy rfl rfl (ys_geq (.t rfl) Ev.c) <| .z) fun a S => ?_
    rw [rw_l] at S
    refine qrun S (.gy rfl rfl (ys_pickT (.t rfl) (.t rfl)) <| .yy (ys_pickF (.t rfl) (.t rfl)) rfl <| .as rfl <| .z) fun a S => ?_
    (refine q_nil ?_; intro w W; replace S := St.mk S W; clear W)
    refine then_normal (hK2 _ _ (st_then S (.t rfl) (sg S (.ac rfl <| .z) fun a w S => wp_ret (in_ret (then_ret (st_ret S (results1 S results110 (Rv.tmp rfl)) ?_))))))
    exact ⟨rfl, S.wd.below⟩
theorem c52 (w0 : World) (v1 v2 v3 : Value) (c : Cart) (h : Sl Ent.enc 6 w0 w0.heap.size v1 c.ents) (hr : RdCtx w0 w0.heap.size v2 v3 c.ctx) :
    Calls Tryz.prog 52 #[.agg #[v1, v2, v3]] w0 fun e w' => e = .returned (.int .i64 (canE c)) ∧ Bel w0.heap.size w0 w' := by
  obtain ⟨l, C⟩ := c
  dsimp only at h hr
  have hs := h
  obtain ⟨A, cap, rfl, hl, hcap, hA⟩ := h
  unfold canE
  dsimp only
  cases rw_C : canL C with
  | false =>
    refine enter1 func52 rfl ntmps52 rfl fun a S => wp_seq_k fun _ hK1 => wp_region_lit (st_m (op_box S (.t rfl) rfl fun g1 a w S => run S (.ac rfl <| .z) fun a w S => st_nil (then_normal (hK1 _ _ (wp_seq_k fun _ hK1 => wp_block (wp_seq_k fun _ hK2 => wp_region_lit (run S (.fa underlying39 sizeOf37 1 rfl rfl rfl <| .la gt37 0 rfl rfl rfl <| .xx (ys_call call109 (.cons (.t rfl) .nil) (fun hp w W => c109 _ _ _ _ (by exact .old W (by assumption)))) rfl <| .z) fun a w S => ?_)))))))
    rw [rw_C] at S
    refine run S (.nt rfl <| .as rfl <| .z) fun a w S => st_nil (then_normal (hK2 _ _ (st_then S (.t rfl) (sg S (.ac rfl <| .z) fun a w S => wp_ret (in_ret (then_ret (st_ret S (results1 S results52 (Rv.tmp rfl)) ?_)))))))
    exact ⟨rfl, S.wd.below⟩
  | true =>
  rw [if_neg (by simp)]
  by_cases hbig : 64 < l.length
  · refine enter1 func52 rfl ntmps52 rfl fun a S => wp_seq_k fun _ hK1 => wp_region_lit (st_m (op_box S (.t rfl) rfl fun g1 a w S => run S (.ac rfl <| .z) fun a w S => st_nil (then_normal (hK1 _ _ (wp_seq_k fun _ hK1 => wp_block (wp_seq_k fun _ hK2 => wp_region_lit (run S (.fa underlying39 sizeOf37 1 rfl rfl rfl <| .la gt37 0 rfl rfl rfl <| .xx (ys_call call109 (.cons (.t rfl) .nil) (fun hp w W => c109 _ _ _ _ (by exact .old W (by assumption)))) rfl <| .z) fun a w S => ?_)))))))
    rw [rw_C] at S
    refine run S (.nt rfl <| .as rfl <| .z) fun a w S => st_nil (then_normal (hK2 _ _ (st_else S (.t rfl) (sg S (.fa underlying39 sizeOf33 0 rfl rfl rfl <| .ld gt33 0 rfl rfl rfl <| .ln underlying33 rfl <| .yy (ys_T (by omega) (ys_gtr (.t rfl) Ev.c)) rfl <| .as rfl <| .z) fun a w S => st_then S (.t rfl) (sg S (.ac rfl <| .z) fun a w S => wp_ret (in_ret (then_ret (st_ret S (results1 S results52 (Rv.tmp rfl)) ?_))))))))
    exact ⟨by rw [if_pos hbig], S.wd.below⟩
  rw [if_neg hbig]
  refine enter1 func52 rfl ntmps52 rfl fun a S => wp_seq_k fun _ hK1 => wp_region_lit (st_m (op_box S (.t rfl) rfl fun g1 a w S => run S (.ac rfl <| .z) fun a w S => st_nil (then_normal (hK1 _ _ (wp_seq_k fun _ hK1 => wp_block (wp_seq_k fun _ hK2 => wp_region_lit (run S (.fa underlying39 sizeOf37 1 rfl rfl rfl <| .la gt37 0 rfl rfl rfl <| .xx (ys_call call109 (.cons (.t rfl) .nil) (fun hp w W => c109 _ _ _ _ (by exact .old W (by assumption)))) rfl <| .z) fun a w S => ?_)))))))
  rw [rw_C] at S
  refine run S (.nt rfl <| .as rfl <| .z) fun a w S => st_nil (then_normal (hK2 _ _ (st_else S (.t rfl) (sg S (.fa underlying39 sizeOf33 0 rfl rfl rfl <| .ld gt33 0 rfl rfl rfl <| .ln underlying33 rfl <| .yy (ys_F (by omega) (ys_gtr (.t rfl) Ev.c)) rfl <| .as rfl <| .z) fun a w S => st_else S (.t rfl) (wp_skip (in_normal (then_normal (hK1 _ _ (wp_seq_k fun _ hK1 => sg S (.fa underlying39 sizeOf33 0 rfl rfl rfl <| .ld gt33 0 rfl rfl rfl <| .ln underlying33 rfl <| .mc rfl <| .z) fun a w S => wp_block ?_)))))))))
  refine st_lpM S [3, 4, 18] (X := Nat) (fun k => [(18, true, .int .i64 (k : Int))]) (fun _ => [.blk g1 (.cells #[.slice A l.length cap, v2, v3] 39)])
    (fun k => k ≤ l.length ∧ (∀ y ∈ l.take k, C.covers y.dot = true) ∧ entsE C (l.take k) (l.drop k) = entsE C [] l) (fun k => l.length - k) 0 ⟨Nat.zero_le _, by simp, rfl⟩ ?_
  clear S
  intro k a w ⟨hk, hcov, hno⟩ S
  by_cases hlt : k < l.length
  rotate_left
  · obtain rfl : k = l.length := by omega
    rw [List.drop_length, entsE] at hno
    by_cases hi : 32 < itemsN l
    · refine sg S (.ge (by omega) rfl rfl <| .z) fun a w S => wp_seq_k fun _ hK2 => st_else S (.t rfl) (wp_exit (then_exit (then_exit (in_here (then_normal (hK1 _ _ (wp_seq_k fun _ hK1 => sg S (.fa underlying39 sizeOf33 0 rfl rfl rfl <| .ld gt33 0 rfl rfl rfl <| .xx (ys_call call111 (.cons (.t rfl) .nil) (fun hp w W => c111 _ _ _ (by exact .old W (by assumption)) (by omega))) rfl <| .yy (ys_T (by omega) (ys_gtr (.t rfl) Ev.c)) rfl <| .z) fun a w S => st_then S (.t rfl) (sg S (.ac rfl <| .z) fun a w S => wp_ret (then_ret (st_ret S (results1 S results52 (Rv.tmp rfl)) ?_))))))))))
      exact ⟨by rw [if_pos hno.symm, if_pos hi], S.wd.below⟩
    · refine sg S (.ge (by omega) rfl rfl <| .z) fun a w S => wp_seq_k fun _ hK2 => st_else S (.t rfl) (wp_exit (then_exit (then_exit (in_here (then_normal (hK1 _ _ (wp_seq_k fun _ hK1 => sg S (.fa underlying39 sizeOf33 0 rfl rfl rfl <| .ld gt33 0 rfl rfl rfl <| .xx (ys_call call111 (.cons (.t rfl) .nil) (fun hp w W => c111 _ _ _ (by exact .old W (by assumption)) (by omega))) rfl <| .yy (ys_F (by omega) (ys_gtr (.t rfl) Ev.c)) rfl <| .z) fun a w S => st_else S (.t rfl) (wp_skip (then_normal (hK1 _ _ (sg S (.ac rfl <| .z) fun a w S => wp_ret (st_ret S (results1 S results52 (Rv.tmp rfl)) ?_))))))))))))
      exact ⟨by rw [if_pos hno.symm, if_neg hi], S.wd.below⟩
  obtain ⟨x, hx⟩ : ∃ x, l[k]? = some x := ⟨_, List.getElem?_eq_getElem hlt⟩
  have hst := ents_step (C := C) hx
  rw [hno] at hst
  by_cases he : entE C (l.take k) x = 0
  · have hcx := (entE_ok.1 he).1.cov
    rw [if_pos he] at hst
    have rw_e := he
    refine sg S (.lt (by omega) rfl rfl <| .z) fun a w S => wp_seq_k fun _ hK2 => st_then S (.t rfl) (wp_skip (then_normal (hK2 _ _ (wp_seq_k fun _ hK2 => wp_block (sg S (.mv rfl <| .as rfl <| .z) fun a w S => wp_seq_k fun _ hK3 => wp_region_lit (run S (.la gt39 0 rfl rfl rfl <| .mv rfl <| .xx (ys_call call110 (.cons (.t rfl) (.cons (.t rfl) .nil)) (fun hp w W => c110 _ _ _ _ _ _ _ _ (by exact .old W (by assumption)) (by exact .old W (by assumption)) (by assumption) (by assumption) (by assumption) (by omega))) rfl <| .z) fun a w S => ?_))))))
    rw [rw_e] at S
    refine run S (.as rfl <| .z) fun a w S => st_nil (then_normal (hK3 _ _ (sg S (.mv rfl <| .yy (ys_F (by omega) (ys_neq (.t rfl) Ev.c)) rfl <| .z) fun a w S => st_else S (.t rfl) (wp_skip (in_normal (then_normal (hK2 _ _ (wp_region_lit (run S (.ad (by unfold I64; omega) rfl <| .mv rfl <| .z) fun a w S => st_nil (then_normal ?_))))))))))
    refine ⟨k + 1, ⟨by omega, fun y hy => ?_, hst.symm⟩, by omega, S.pk⟩
    rw [List.take_add_one, hx, Option.toList_some] at hy
    rcases List.mem_append.1 hy with hy | hy
    · exact hcov y hy
    · simp at hy; exact hy ▸ hcx
  · rw [if_neg he] at hst
    refine sg S (.lt (by omega) rfl rfl <| .z) fun a w S => wp_seq_k fun _ hK2 => st_then S (.t rfl) (wp_skip (then_normal (hK2 _ _ (wp_seq_k fun _ hK2 => wp_block (sg S (.mv rfl <| .as rfl <| .z) fun a w S => sg S (.la gt39 0 rfl rfl rfl <| .mv rfl <| .xx (ys_call call110 (.cons (.t rfl) (.cons (.t rfl) .nil)) (fun hp w W => c110 _ _ _ _ _ _ _ _ (by exact .old W (by assumption)) (by exact .old W (by assumption)) (by assumption) (by assumption) (by assumption) (by omega))) rfl <| .as rfl <| .z) fun a w S => sg S (.mv rfl <| .yy (ys_T (by omega) (ys_neq (.t rfl) Ev.c)) rfl <| .z) fun a w S => st_then S (.t rfl) (sg S (.mv rfl <| .as rfl <| .z) fun a w S => wp_ret (in_ret (then_ret (then_ret (in_ret (then_ret (st_ret S (results1 S results52 (Rv.tmp rfl)) ?_))))))))))))
    exact ⟨by rw [hst, if_neg he], S.wd.below⟩
theorem c84 (w0 : World) (v1 : Value) (A2 A3 : Option Addr) (n2 c2 n3 c3 : Nat) (l : List Ent) (h : Sl Ent.enc 6 w0 w0.heap.size v1 l) (hn : l.length ≤ 4194304) :
    Calls Tryz.prog 84 #[.agg #[v1, .slice A2 n2 c2, .slice A3 n3 c3]] w0 fun e w' => e = .returned (if 64 < l.length ∨ 32 < itemsN l then .tuple #[.agg #[.slice none 0 0, .slice none 0 0, .slice none 0 0], .int .i64 51] else .tuple #[.agg #[v1, .slice A2 n2 c2, .slice A3 n3 c3], .int .i64 0]) ∧ Bel w0.heap.size w0 w' := by
  have hs := h
  obtain ⟨A, cap, rfl, hl, hcap, hA⟩ := h
  by_cases h1 : 64 < l.length
  · refine enter1 func84 rfl ntmps84 rfl fun a S => wp_seq_k fun _ hK1 => wp_region_lit (st_m (op_box S (.t rfl) rfl fun g1 a w S => st_m (op_alloc S zeroValue39 (cs := _) rfl rfl fun g2 a w S => run S (.ac rfl <| .z) fun a w S => st_nil (then_normal (hK1 _ _ (wp_seq_k fun _ hK1 => sg S (.fa underlying39 sizeOf33 0 rfl rfl rfl <| .ld gt33 1 rfl rfl rfl <| .ln underlying33 rfl <| .yy (ys_T (by omega) (ys_gtr (.t rfl) Ev.c)) rfl <| .mv rfl <| .sk rfl rfl rfl <| .sk rfl rfl rfl <| .sk rfl rfl rfl <| .sk rfl rfl rfl <| .yy (ys_pickT (.t rfl) Ev.c) rfl <| .z) fun a w S => st_then S (.t rfl) (wp_seq_k fun _ hK2 => wp_region_lit (run S (.yy (ys_bld (ps := []) (us := [_, _, _]) bld39 .nil rfl) rfl <| .z) fun a w S => st_m (op_stW S sizeOf39 (.t rfl) (.t rfl) (k := 0) rfl rfl rfl (by simp [Value.oneCell']) fun a w S => run S (.ac rfl <| .z) fun a w S => st_nil (then_normal (hK2 _ _ (wp_ret (then_ret (st_ret S (results2 S results84 (Rv.cell (k := 0) ⟨isAgg39, sizeOf39⟩ rfl rfl rfl) (Rv.tmp rfl)) ?_))))))))))))))
    exact ⟨by rw [if_pos (.inl h1)], S.wd.below⟩
  by_cases h2 : 32 < itemsN l
  · refine enter1 func84 rfl ntmps84 rfl fun a S => wp_seq_k fun _ hK1 => wp_region_lit (st_m (op_box S (.t rfl) rfl fun g1 a w S => st_m (op_alloc S zeroValue39 (cs := _) rfl rfl fun g2 a w S => run S (.ac rfl <| .z) fun a w S => st_nil (then_normal (hK1 _ _ (wp_seq_k fun _ hK1 => sg S (.fa underlying39 sizeOf33 0 rfl rfl rfl <| .ld gt33 1 rfl rfl rfl <| .ln underlying33 rfl <| .yy (ys_F (by omega) (ys_gtr (.t rfl) Ev.c)) rfl <| .mv rfl <| .gy rfl rfl (ys_fieldN (FieldT.mk underlying39 rfl sizeOf33 rfl) (.t rfl) (i' := 0) rfl) <| .gy rfl rfl (ys_ld ⟨isAgg33, sizeOf33⟩ (.t rfl) (k := 1) rfl rfl) <| .gx rfl rfl (ys_call call111 (.cons (.t rfl) .nil) (fun hp w W => c111 _ _ _ (by exact .old W (by assumption)) (by assumption))) <| .gy rfl rfl (ys_T (by omega) (ys_gtr (.t rfl) Ev.c)) <| .yy (ys_pickF (.t rfl) (.t rfl)) rfl <| .z) fun a w S => st_then S (.t rfl) (wp_seq_k fun _ hK2 => wp_region_lit (run S (.yy (ys_bld (ps := []) (us := [_, _, _]) bld39 .nil rfl) rfl <| .z) fun a w S => st_m (op_stW S sizeOf39 (.t rfl) (.t rfl) (k := 0) rfl rfl rfl (by simp [Value.oneCell']) fun a w S => run S (.ac rfl <| .z) fun a w S => st_nil (then_normal (hK2 _ _ (wp_ret (then_ret (st_ret S (results2 S results84 (Rv.cell (k := 0) ⟨isAgg39, sizeOf39⟩ rfl rfl rfl) (Rv.tmp rfl)) ?_))))))))))))))
    exact ⟨by rw [if_pos (.inr h2)], S.wd.below⟩
  · refine enter1 func84 rfl ntmps84 rfl fun a S => wp_seq_k fun _ hK1 => wp_region_lit (st_m (op_box S (.t rfl) rfl fun g1 a w S => st_m (op_alloc S zeroValue39 (cs := _) rfl rfl fun g2 a w S => run S (.ac rfl <| .z) fun a w S => st_nil (then_normal (hK1 _ _ (wp_seq_k fun _ hK1 => sg S (.fa underlying39 sizeOf33 0 rfl rfl rfl <| .ld gt33 1 rfl rfl rfl <| .ln underlying33 rfl <| .yy (ys_F (by omega) (ys_gtr (.t rfl) Ev.c)) rfl <| .mv rfl <| .gy rfl rfl (ys_fieldN (FieldT.mk underlying39 rfl sizeOf33 rfl) (.t rfl) (i' := 0) rfl) <| .gy rfl rfl (ys_ld ⟨isAgg33, sizeOf33⟩ (.t rfl) (k := 1) rfl rfl) <| .gx rfl rfl (ys_call call111 (.cons (.t rfl) .nil) (fun hp w W => c111 _ _ _ (by exact .old W (by assumption)) (by assumption))) <| .gy rfl rfl (ys_F (by omega) (ys_gtr (.t rfl) Ev.c)) <| .yy (ys_pickF (.t rfl) (.t rfl)) rfl <| .z) fun a w S => st_else S (.t rfl) (wp_skip (then_normal (hK1 _ _ (wp_seq_k fun _ hK1 => wp_region_lit (run S (.la gt39 1 rfl rfl rfl <| .z) fun a w S => st_m (op_stW S sizeOf39 (.t rfl) (.t rfl) (k := 0) rfl rfl rfl (by simp [Value.oneCell']) fun a w S => run S (.ac rfl <| .z) fun a w S => st_nil (then_normal (hK1 _ _ (wp_ret (st_ret S (results2 S results84 (Rv.cell (k := 0) ⟨isAgg39, sizeOf39⟩ rfl rfl rfl) (Rv.tmp rfl)) ?_))))))))))))))))
    exact ⟨by rw [if_neg (by omega)], S.wd.below⟩
end Go.Proofs.YtfblmkocmnbdcaaGreat
set_option linter.unusedVariables false
set_option linter.unusedSimpArgs false
set_option maxRecDepth 100000
set_option maxHeartbeats 4000000
namespace Go.Fw
abbrev Upd.enc (u : Upd) (v1 v2 v3 : Value) : List Value := [.string (bs u.key), .int .i64 u.dot.node, .int .i64 u.dot.life, .int .i64 u.dot.count, .string (bs u.item), .int .i64 u.qty, .int .u64 (u.price.toNat : Int), v1, v2, v3]
theorem can_ctx {c : Cart} (h : canE c = 0) : canL c.ctx = true := ((canE_ok c).1 h).ctx
end Go.Fw
namespace Go.Proofs.YtfblmkocmnbdcaaGreat
open Go.Fw Go.Proofs Go.RowKit Go.Proofs.Tryz
theorem sl_y1 {w0 w : World} {L : List Chunk} {k g : Nat} {t : TypeId} {fr : Nat × Nat} {x y z : Int} (W : Wd w0 L w) (hk : L[k]? = some (.blk g (.cells #[.int .i64 x, .int .i64 y, .int .i64 z] t fr))) : Sl Dot.enc 3 w w.heap.size (.slice (some ⟨g, 0, none⟩) 1 1) [⟨x, y, z⟩] := by
  refine ⟨some ⟨g, 0, none⟩, 1, rfl, by simp, by simp, fun _ => ⟨g, 0, rfl, ((W.get hk).lt (b := g) rfl).2, fun i d hd j u hj => ?_⟩⟩
  have h2 := (W.get hk).2
  rcases i with _ | i
  · simp at hd
    subst hd
    rw [cell_of_row w g (0 + 0 * 3 + j) _ t fr h2]
    simpa [Dot.enc] using hj
  · simp at hd
theorem c80 (w0 : World) (u : Upd) (v1 v2 v3 : Value) (h : Sl Ent.enc 6 w0 w0.heap.size v1 u.seen.ents) (hr : RdCtx w0 w0.heap.size v2 v3 u.seen.ctx) :
    Calls Tryz.prog 80 #[.agg (Upd.enc u v1 v2 v3).toArray] w0 fun e w' => e = .returned (.int .i64 (mayE u)) ∧ Bel w0.heap.size w0 w' := by
  have hs := h
  have hrr := hr
  obtain ⟨A, cap, rfl, _⟩ := h
  obtain ⟨⟨A2, cap2, rfl, _⟩, ⟨A3, cap3, rfl, _⟩⟩ := hr
  unfold mayE
  cases rw_k : nameB u.key with
  | false =>
    refine enter1 func80 rfl ntmps80 rfl fun a S => wp_seq_k fun _ hK1 => wp_region_lit (st_m (op_box S (.t rfl) rfl fun g1 a w S => run S (.ac rfl <| .z) fun a w S => st_nil (then_normal (hK1 _ _ (wp_seq_k fun _ hK1 => wp_block (wp_seq_k fun _ hK2 => wp_region_lit (run S (.fa underlying60 sizeOf9 0 rfl rfl rfl <| .ld gt9 0 rfl rfl rfl <| .xx (ys_call call142 (.cons (.t rfl) .nil) (fun hp w W => c142 _ _)) rfl <| .z) fun a w S => ?_)))))))
    rw [rw_k] at S
    refine run S (.nt rfl <| .mv rfl <| .sk rfl rfl rfl <| .sk rfl rfl rfl <| .sk rfl rfl rfl <| .sk rfl rfl rfl <| .yy (ys_pickT (.t rfl) Ev.c) rfl <| .as rfl <| .z) fun a w S => st_nil (then_normal (hK2 _ _ (st_then S (.t rfl) (sg S (.ac rfl <| .z) fun a w S => wp_ret (in_ret (then_ret (st_ret S (results1 S results80 (Rv.tmp rfl)) ?_)))))))
    exact ⟨by rw [if_pos (.inl rfl)], S.wd.below⟩
  | true =>
  cases rw_i : nameB u.item with
  | false =>
    refine enter1 func80 rfl ntmps80 rfl fun a S => wp_seq_k fun _ hK1 => wp_region_lit (st_m (op_box S (.t rfl) rfl fun g1 a w S => run S (.ac rfl <| .z) fun a w S => st_nil (then_normal (hK1 _ _ (wp_seq_k fun _ hK1 => wp_block (wp_seq_k fun _ hK2 => wp_region_lit (run S (.fa underlying60 sizeOf9 0 rfl rfl rfl <| .ld gt9 0 rfl rfl rfl <| .xx (ys_call call142 (.cons (.t rfl) .nil) (fun hp w W => c142 _ _)) rfl <| .z) fun a w S => ?_)))))))
    rw [rw_k] at S
    refine run S (.nt rfl <| .mv rfl <| .gy rfl rfl (ys_fieldN (FieldT.mk underlying60 rfl sizeOf9 rfl) (.t rfl) (i' := 4) rfl) <| .gy rfl rfl (ys_ld ⟨isAgg9, sizeOf9⟩ (.t rfl) (k := 0) rfl rfl) <| .gx rfl rfl (ys_call call142 (.cons (.t rfl) .nil) (fun hp w W => c142 _ _)) <| .z) fun a w S => ?_
    rw [rw_i] at S
    refine run S (.gy rfl rfl (ys_not (.t rfl)) <| .yy (ys_pickF (.t rfl) (.t rfl)) rfl <| .as rfl <| .z) fun a w S => st_nil (then_normal (hK2 _ _ (st_then S (.t rfl) (sg S (.ac rfl <| .z) fun a w S => wp_ret (in_ret (then_ret (st_ret S (results1 S results80 (Rv.tmp rfl)) ?_)))))))
    exact ⟨by rw [if_pos (.inr rfl)], S.wd.below⟩
  | true =>
  rw [if_neg (by simp)]
  by_cases hq : u.qty < 0 ∨ 1000000 < u.qty
  · have rw_q : (decide (u.qty < 0) || decide (1000000 < u.qty)) = true := by simp; omega
    refine enter1 func80 rfl ntmps80 rfl fun a S => wp_seq_k fun _ hK1 => wp_region_lit (st_m (op_box S (.t rfl) rfl fun g1 a w S => run S (.ac rfl <| .z) fun a w S => st_nil (then_normal (hK1 _ _ (wp_seq_k fun _ hK1 => wp_block (wp_seq_k fun _ hK2 => wp_region_lit (run S (.fa underlying60 sizeOf9 0 rfl rfl rfl <| .ld gt9 0 rfl rfl rfl <| .xx (ys_call call142 (.cons (.t rfl) .nil) (fun hp w W => c142 _ _)) rfl <| .z) fun a w S => ?_)))))))
    rw [rw_k] at S
    refine run S (.nt rfl <| .mv rfl <| .gy rfl rfl (ys_fieldN (FieldT.mk underlying60 rfl sizeOf9 rfl) (.t rfl) (i' := 4) rfl) <| .gy rfl rfl (ys_ld ⟨isAgg9, sizeOf9⟩ (.t rfl) (k := 0) rfl rfl) <| .gx rfl rfl (ys_call call142 (.cons (.t rfl) .nil) (fun hp w W => c142 _ _)) <| .z) fun a w S => ?_
    rw [rw_i] at S
    refine run S (.gy rfl rfl (ys_not (.t rfl)) <| .yy (ys_pickF (.t rfl) (.t rfl)) rfl <| .as rfl <| .z) fun a w S => st_nil (then_normal (hK2 _ _ (st_else S (.t rfl) (wp_seq_k fun _ hK2 => wp_region_lit (run S (.fa underlying60 sizeOf3 5 rfl rfl rfl <| .ld gt3 0 rfl rfl rfl <| .yy (ys_lss (.t rfl) Ev.c) rfl <| .mv rfl <| .z) fun a w S => st_yf S rfl rfl (Yr.ys (ys_fieldN (FieldT.mk underlying60 rfl sizeOf3 rfl) (.t rfl) (i' := 5) rfl)) rfl fun a w S => st_yf S rfl rfl (Yr.ys (ys_ld ⟨isAgg3, sizeOf3⟩ (Ev.g rfl) (k := 0) rfl rfl)) rfl fun a w S => st_yf S rfl rfl (Yr.ys (ys_gtr (Ev.g rfl) Ev.c)) rfl fun a w S => run S (.yy (ys_or (.t rfl) Ev.c (Ev.g rfl)) rfl <| .z) fun a w S => ?_)))))
    rw [rw_q] at S
    refine run S (.as rfl <| .z) fun a w S => st_nil (then_normal (hK2 _ _ (st_then S (.t rfl) (sg S (.ac rfl <| .z) fun a w S => wp_ret (in_ret (then_ret (st_ret S (results1 S results80 (Rv.tmp rfl)) ?_)))))))
    exact ⟨by rw [if_pos hq], S.wd.below⟩
  have rw_q : (decide (u.qty < 0) || decide (1000000 < u.qty)) = false := by simp; omega
  rw [if_neg hq]
  cases rw_p : priceB u.price with
  | false =>
    refine enter1 func80 rfl ntmps80 rfl fun a S => wp_seq_k fun _ hK1 => wp_region_lit (st_m (op_box S (.t rfl) rfl fun g1 a w S => run S (.ac rfl <| .z) fun a w S => st_nil (then_normal (hK1 _ _ (wp_seq_k fun _ hK1 => wp_block (wp_seq_k fun _ hK2 => wp_region_lit (run S (.fa underlying60 sizeOf9 0 rfl rfl rfl <| .ld gt9 0 rfl rfl rfl <| .xx (ys_call call142 (.cons (.t rfl) .nil) (fun hp w W => c142 _ _)) rfl <| .z) fun a w S => ?_)))))))
    rw [rw_k] at S
    refine run S (.nt rfl <| .mv rfl <| .gy rfl rfl (ys_fieldN (FieldT.mk underlying60 rfl sizeOf9 rfl) (.t rfl) (i' := 4) rfl) <| .gy rfl rfl (ys_ld ⟨isAgg9, sizeOf9⟩ (.t rfl) (k := 0) rfl rfl) <| .gx rfl rfl (ys_call call142 (.cons (.t rfl) .nil) (fun hp w W => c142 _ _)) <| .z) fun a w S => ?_
    rw [rw_i] at S
    refine run S (.gy rfl rfl (ys_not (.t rfl)) <| .yy (ys_pickF (.t rfl) (.t rfl)) rfl <| .as rfl <| .z) fun a w S => st_nil (then_normal (hK2 _ _ (st_else S (.t rfl) (sg S (.fa underlying60 sizeOf3 5 rfl rfl rfl <| .ld gt3 0 rfl rfl rfl <| .yy (ys_F (by omega) (ys_lss (.t rfl) Ev.c)) rfl <| .mv rfl <| .gy rfl rfl (ys_fieldN (FieldT.mk underlying60 rfl sizeOf3 rfl) (.t rfl) (i' := 5) rfl) <| .gy rfl rfl (ys_ld ⟨isAgg3, sizeOf3⟩ (.t rfl) (k := 0) rfl rfl) <| .gy rfl rfl (ys_F (by omega) (ys_gtr (.t rfl) Ev.c)) <| .yy (ys_pickF (.t rfl) (.t rfl)) rfl <| .as rfl <| .z) fun a w S => st_else S (.t rfl) (wp_seq_k fun _ hK2 => wp_region_lit (run S (.fa underlying60 sizeOf27 6 rfl rfl rfl <| .ld gt27 0 rfl rfl rfl <| .xx (ys_call call143 (.cons (.t rfl) .nil) (fun hp w W => c143 _ _)) rfl <| .z) fun a w S => ?_))))))
    rw [rw_p] at S
    refine run S (.nt rfl <| .mv rfl <| .sk rfl rfl rfl <| .sk rfl rfl rfl <| .sk rfl rfl rfl <| .sk rfl rfl rfl <| .s0 rfl rfl <| .s0 rfl rfl <| .s0 rfl rfl <| .sk rfl rfl rfl <| .yy (ys_pickT (.t rfl) Ev.c) rfl <| .as rfl <| .z) fun a w S => st_nil (then_normal (hK2 _ _ (st_then S (.t rfl) (sg S (.ac rfl <| .z) fun a w S => wp_ret (in_ret (then_ret (st_ret S (results1 S results80 (Rv.tmp rfl)) ?_)))))))
    exact ⟨by rw [if_pos (.inl rfl)], S.wd.below⟩
  | true =>
  by_cases hz : u.qty = 0 ∧ u.price.toNat ≠ 0
  · have rw_z : (decide (u.qty = 0) && decide ((u.price.toNat : Int) ≠ 0)) = true := by simp; omega
    refine enter1 func80 rfl ntmps80 rfl fun a S => wp_seq_k fun _ hK1 => wp_region_lit (st_m (op_box S (.t rfl) rfl fun g1 a w S => run S (.ac rfl <| .z) fun a w S => st_nil (then_normal (hK1 _ _ (wp_seq_k fun _ hK1 => wp_block (wp_seq_k fun _ hK2 => wp_region_lit (run S (.fa underlying60 sizeOf9 0 rfl rfl rfl <| .ld gt9 0 rfl rfl rfl <| .xx (ys_call call142 (.cons (.t rfl) .nil) (fun hp w W => c142 _ _)) rfl <| .z) fun a w S => ?_)))))))
    rw [rw_k] at S
    refine run S (.nt rfl <| .mv rfl <| .gy rfl rfl (ys_fieldN (FieldT.mk underlying60 rfl sizeOf9 rfl) (.t rfl) (i' := 4) rfl) <| .gy rfl rfl (ys_ld ⟨isAgg9, sizeOf9⟩ (.t rfl) (k := 0) rfl rfl) <| .gx rfl rfl (ys_call call142 (.cons (.t rfl) .nil) (fun hp w W => c142 _ _)) <| .z) fun a w S => ?_
    rw [rw_i] at S
    refine run S (.gy rfl rfl (ys_not (.t rfl)) <| .yy (ys_pickF (.t rfl) (.t rfl)) rfl <| .as rfl <| .z) fun a w S => st_nil (then_normal (hK2 _ _ (st_else S (.t rfl) (sg S (.fa underlying60 sizeOf3 5 rfl rfl rfl <| .ld gt3 0 rfl rfl rfl <| .yy (ys_F (by omega) (ys_lss (.t rfl) Ev.c)) rfl <| .mv rfl <| .gy rfl rfl (ys_fieldN (FieldT.mk underlying60 rfl sizeOf3 rfl) (.t rfl) (i' := 5) rfl) <| .gy rfl rfl (ys_ld ⟨isAgg3, sizeOf3⟩ (.t rfl) (k := 0) rfl rfl) <| .gy rfl rfl (ys_F (by omega) (ys_gtr (.t rfl) Ev.c)) <| .yy (ys_pickF (.t rfl) (.t rfl)) rfl <| .as rfl <| .z) fun a w S => st_else S (.t rfl) (wp_seq_k fun _ hK2 => wp_region_lit (run S (.fa underlying60 sizeOf27 6 rfl rfl rfl <| .ld gt27 0 rfl rfl rfl <| .xx (ys_call call143 (.cons (.t rfl) .nil) (fun hp w W => c143 _ _)) rfl <| .z) fun a w S => ?_))))))
    rw [rw_p] at S
    refine run S (.nt rfl <| .mv rfl <| .gy rfl rfl (ys_fieldN (FieldT.mk underlying60 rfl sizeOf3 rfl) (.t rfl) (i' := 5) rfl) <| .gy rfl rfl (ys_ld ⟨isAgg3, sizeOf3⟩ (.t rfl) (k := 0) rfl rfl) <| .gy rfl rfl (ys_T (by omega) (ys_eql (.t rfl) Ev.c)) <| .gy rfl rfl (ys_move (.t rfl)) <| .gy rfl rfl (ys_fieldN (FieldT.mk underlying60 rfl sizeOf27 rfl) (.t rfl) (i' := 6) rfl) <| .gy rfl rfl (ys_ld ⟨isAgg27, sizeOf27⟩ (.t rfl) (k := 0) rfl rfl) <| .gy rfl rfl (ys_T (by omega) (ys_neq (.t rfl) Ev.c)) <| .gy rfl rfl (ys_pickT (.t rfl) (.t rfl)) <| .yy (ys_pickF (.t rfl) (.t rfl)) rfl <| .as rfl <| .z) fun a w S => st_nil (then_normal (hK2 _ _ (st_then S (.t rfl) (sg S (.ac rfl <| .z) fun a w S => wp_ret (in_ret (then_ret (st_ret S (results1 S results80 (Rv.tmp rfl)) ?_)))))))
    exact ⟨by rw [if_pos (.inr hz)], S.wd.below⟩
  have rw_z : (decide (u.qty = 0) && decide ((u.price.toNat : Int) ≠ 0)) = false := by
    by_cases h0 : u.qty = 0
    · have : u.price.toNat = 0 := Decidable.byContradiction fun h => hz ⟨h0, h⟩
      simp [this]
    · simp [h0]
  rw [if_neg (by rintro (h | h); cases h; exact hz h)]
  by_cases he : canE u.seen = 0
  rotate_left
  · refine enter1 func80 rfl ntmps80 rfl fun a S => wp_seq_k fun _ hK1 => wp_region_lit (st_m (op_box S (.t rfl) rfl fun g1 a w S => run S (.ac rfl <| .z) fun a w S => st_nil (then_normal (hK1 _ _ (wp_seq_k fun _ hK1 => wp_block (wp_seq_k fun _ hK2 => wp_region_lit (run S (.fa underlying60 sizeOf9 0 rfl rfl rfl <| .ld gt9 0 rfl rfl rfl <| .xx (ys_call call142 (.cons (.t rfl) .nil) (fun hp w W => c142 _ _)) rfl <| .z) fun a w S => ?_)))))))
    rw [rw_k] at S
    refine run S (.nt rfl <| .mv rfl <| .gy rfl rfl (ys_fieldN (FieldT.mk underlying60 rfl sizeOf9 rfl) (.t rfl) (i' := 4) rfl) <| .gy rfl rfl (ys_ld ⟨isAgg9, sizeOf9⟩ (.t rfl) (k := 0) rfl rfl) <| .gx rfl rfl (ys_call call142 (.cons (.t rfl) .nil) (fun hp w W => c142 _ _)) <| .z) fun a w S => ?_
    rw [rw_i] at S
    refine run S (.gy rfl rfl (ys_not (.t rfl)) <| .yy (ys_pickF (.t rfl) (.t rfl)) rfl <| .as rfl <| .z) fun a w S => st_nil (then_normal (hK2 _ _ (st_else S (.t rfl) (sg S (.fa underlying60 sizeOf3 5 rfl rfl rfl <| .ld gt3 0 rfl rfl rfl <| .yy (ys_F (by omega) (ys_lss (.t rfl) Ev.c)) rfl <| .mv rfl <| .gy rfl rfl (ys_fieldN (FieldT.mk underlying60 rfl sizeOf3 rfl) (.t rfl) (i' := 5) rfl) <| .gy rfl rfl (ys_ld ⟨isAgg3, sizeOf3⟩ (.t rfl) (k := 0) rfl rfl) <| .gy rfl rfl (ys_F (by omega) (ys_gtr (.t rfl) Ev.c)) <| .yy (ys_pickF (.t rfl) (.t rfl)) rfl <| .as rfl <| .z) fun a w S => st_else S (.t rfl) (wp_seq_k fun _ hK2 => wp_region_lit (run S (.fa underlying60 sizeOf27 6 rfl rfl rfl <| .ld gt27 0 rfl rfl rfl <| .xx (ys_call call143 (.cons (.t rfl) .nil) (fun hp w W => c143 _ _)) rfl <| .z) fun a w S => ?_))))))
    rw [rw_p] at S
    refine run S (.nt rfl <| .mv rfl <| .gy rfl rfl (ys_fieldN (FieldT.mk underlying60 rfl sizeOf3 rfl) (.t rfl) (i' := 5) rfl) <| .gy rfl rfl (ys_ld ⟨isAgg3, sizeOf3⟩ (.t rfl) (k := 0) rfl rfl) <| .gy rfl rfl (ys_eql (.t rfl) Ev.c) <| .gy rfl rfl (ys_move (.t rfl)) <| .z) fun a w S => st_yg S rfl rfl (Yr.ys (ys_fieldN (FieldT.mk underlying60 rfl sizeOf27 rfl) (.t rfl) (i' := 6) rfl)) rfl fun a w S => st_yg S rfl rfl (Yr.ys (ys_ld ⟨isAgg27, sizeOf27⟩ (Ev.g rfl) (k := 0) rfl rfl)) rfl fun a w S => st_yg S rfl rfl (Yr.ys (ys_neq (Ev.g rfl) Ev.c)) rfl fun a w S => run S (.gy rfl rfl (ys_and2 (.t rfl) (Ev.g rfl) Ev.c) <| .z) fun a w S => ?_
    rw [rw_z] at S
    refine run S (.yy (ys_pickF (.t rfl) (.t rfl)) rfl <| .as rfl <| .z) fun a w S => st_nil (then_normal (hK2 _ _ (st_else S (.t rfl) (wp_skip (in_normal (then_normal (hK1 _ _ (sg S (.fa underlying60 sizeOf39 7 rfl rfl rfl <| .la gt39 0 rfl rfl rfl <| .xx (ys_call call52 (.cons (.t rfl) .nil) (fun hp w W => c52 _ _ _ _ _ (by exact .old W (by assumption)) (by exact .old W (by assumption)))) rfl <| .as rfl <| .z) fun a w S => wp_seq_k fun _ hK1 => sg S (.mv rfl <| .yy (ys_T (by omega) (ys_neq (.t rfl) Ev.c)) rfl <| .z) fun a w S => st_then S (.t rfl) (sg S (.mv rfl <| .as rfl <| .z) fun a w S => wp_ret (then_ret (st_ret S (results1 S results80 (Rv.tmp rfl)) ?_)))))))))))
    exact ⟨by rw [if_neg he], S.wd.below⟩
  have rw_e := he
  rw [if_pos he]
  have hn1 := norm_one (d := u.dot)
  cases hd : mayD u.dot with
  | false =>
    have rw_n : (normalL [] [⟨u.dot.node, u.dot.life, u.dot.count⟩]).2 = 1 := by rw [hd] at hn1; exact hn1
    refine enter1 func80 rfl ntmps80 rfl fun a S => wp_seq_k fun _ hK1 => wp_region_lit (st_m (op_box S (.t rfl) rfl fun g1 a w S => run S (.ac rfl <| .z) fun a w S => st_nil (then_normal (hK1 _ _ (wp_seq_k fun _ hK1 => wp_block (wp_seq_k fun _ hK2 => wp_region_lit (run S (.fa underlying60 sizeOf9 0 rfl rfl rfl <| .ld gt9 0 rfl rfl rfl <| .xx (ys_call call142 (.cons (.t rfl) .nil) (fun hp w W => c142 _ _)) rfl <| .z) fun a w S => ?_)))))))
    rw [rw_k] at S
    refine run S (.nt rfl <| .mv rfl <| .gy rfl rfl (ys_fieldN (FieldT.mk underlying60 rfl sizeOf9 rfl) (.t rfl) (i' := 4) rfl) <| .gy rfl rfl (ys_ld ⟨isAgg9, sizeOf9⟩ (.t rfl) (k := 0) rfl rfl) <| .gx rfl rfl (ys_call call142 (.cons (.t rfl) .nil) (fun hp w W => c142 _ _)) <| .z) fun a w S => ?_
    rw [rw_i] at S
    refine run S (.gy rfl rfl (ys_not (.t rfl)) <| .yy (ys_pickF (.t rfl) (.t rfl)) rfl <| .as rfl <| .z) fun a w S => st_nil (then_normal (hK2 _ _ (st_else S (.t rfl) (sg S (.fa underlying60 sizeOf3 5 rfl rfl rfl <| .ld gt3 0 rfl rfl rfl <| .yy (ys_F (by omega) (ys_lss (.t rfl) Ev.c)) rfl <| .mv rfl <| .gy rfl rfl (ys_fieldN (FieldT.mk underlying60 rfl sizeOf3 rfl) (.t rfl) (i' := 5) rfl) <| .gy rfl rfl (ys_ld ⟨isAgg3, sizeOf3⟩ (.t rfl) (k := 0) rfl rfl) <| .gy rfl rfl (ys_F (by omega) (ys_gtr (.t rfl) Ev.c)) <| .yy (ys_pickF (.t rfl) (.t rfl)) rfl <| .as rfl <| .z) fun a w S => st_else S (.t rfl) (wp_seq_k fun _ hK2 => wp_region_lit (run S (.fa underlying60 sizeOf27 6 rfl rfl rfl <| .ld gt27 0 rfl rfl rfl <| .xx (ys_call call143 (.cons (.t rfl) .nil) (fun hp w W => c143 _ _)) rfl <| .z) fun a w S => ?_))))))
    rw [rw_p] at S
    refine run S (.nt rfl <| .mv rfl <| .gy rfl rfl (ys_fieldN (FieldT.mk underlying60 rfl sizeOf3 rfl) (.t rfl) (i' := 5) rfl) <| .gy rfl rfl (ys_ld ⟨isAgg3, sizeOf3⟩ (.t rfl) (k := 0) rfl rfl) <| .gy rfl rfl (ys_eql (.t rfl) Ev.c) <| .gy rfl rfl (ys_move (.t rfl)) <| .z) fun a w S => st_yg S rfl rfl (Yr.ys (ys_fieldN (FieldT.mk underlying60 rfl sizeOf27 rfl) (.t rfl) (i' := 6) rfl)) rfl fun a w S => st_yg S rfl rfl (Yr.ys (ys_ld ⟨isAgg27, sizeOf27⟩ (Ev.g rfl) (k := 0) rfl rfl)) rfl fun a w S => st_yg S rfl rfl (Yr.ys (ys_neq (Ev.g rfl) Ev.c)) rfl fun a w S => run S (.gy rfl rfl (ys_and2 (.t rfl) (Ev.g rfl) Ev.c) <| .z) fun a w S => ?_
    rw [rw_z] at S
    refine run S (.yy (ys_pickF (.t rfl) (.t rfl)) rfl <| .as rfl <| .z) fun a w S => st_nil (then_normal (hK2 _ _ (st_else S (.t rfl) (wp_skip (in_normal (then_normal (hK1 _ _ (wp_seq_k fun _ hK1 => wp_region_lit (run S (.fa underlying60 sizeOf39 7 rfl rfl rfl <| .la gt39 0 rfl rfl rfl <| .xx (ys_call call52 (.cons (.t rfl) .nil) (fun hp w W => c52 _ _ _ _ _ (by exact .old W (by assumption)) (by exact .old W (by assumption)))) rfl <| .z) fun a w S => ?_)))))))))
    rw [rw_e] at S
    refine run S (.as rfl <| .z) fun a w S => st_nil (then_normal (hK1 _ _ (wp_seq_k fun _ hK1 => sg S (.mv rfl <| .yy (ys_F (by omega) (ys_neq (.t rfl) Ev.c)) rfl <| .z) fun a w S => st_else S (.t rfl) (wp_skip (then_normal (hK1 _ _ (wp_seq_k fun _ hK1 => wp_region_lit (run S (.fa underlying60 sizeOf58 1 rfl rfl rfl <| .la gt58 0 rfl rfl rfl <| .z) fun a w S => st_m (op_bslice1 S underlying35 inf58 rfl rfl rfl (.t rfl) rfl rfl rfl fun g2 a w S => ?_)))))))))
    (refine st_m (op_calls S call144 (.cons Ev.c (.cons (.t rfl) .nil)) (c144 _ _ _ _ _ (by exact Sl.nil_) (by exact sl_y1 S.wd (k := 0) rfl) (by (simp; done)) (by (simp; done))) rfl ?_); clear S a w; rintro _ _ ⟨A11, c11, A21, c21, rfl, rfl⟩ a w S)
    rw [rw_n] at S
    refine run S (.mv rfl <| .ex rfl rfl <| .ex rfl rfl <| .as rfl <| .z) fun a w S => st_nil (then_normal (hK1 _ _ (wp_seq_k fun _ hK1 => sg S (.mv rfl <| .yy (ys_T (by omega) (ys_neq (.t rfl) Ev.c)) rfl <| .mv rfl <| .sk rfl rfl rfl <| .sk rfl rfl rfl <| .sk rfl rfl rfl <| .sk rfl rfl rfl <| .sk rfl rfl rfl <| .sk rfl rfl rfl <| .yy (ys_pickT (.t rfl) Ev.c) rfl <| .z) fun a w S => st_then S (.t rfl) (sg S (.ac rfl <| .z) fun a w S => wp_ret (then_ret (st_ret S (results1 S results80 (Rv.tmp rfl)) ?_))))))
    exact ⟨by rw [if_pos (.inl rfl)], S.wd.below⟩
  | true =>
    have rw_n : (normalL [] [⟨u.dot.node, u.dot.life, u.dot.count⟩]).2 = 0 := by rw [hd] at hn1; exact hn1
    cases hc : u.seen.ctx.covers u.dot with
    | true =>
      have rw_c : u.seen.ctx.covers ⟨u.dot.node, u.dot.life, u.dot.count⟩ = true := hc
      refine enter1 func80 rfl ntmps80 rfl fun a S => wp_seq_k fun _ hK1 => wp_region_lit (st_m (op_box S (.t rfl) rfl fun g1 a w S => run S (.ac rfl <| .z) fun a w S => st_nil (then_normal (hK1 _ _ (wp_seq_k fun _ hK1 => wp_block (wp_seq_k fun _ hK2 => wp_region_lit (run S (.fa underlying60 sizeOf9 0 rfl rfl rfl <| .ld gt9 0 rfl rfl rfl <| .xx (ys_call call142 (.cons (.t rfl) .nil) (fun hp w W => c142 _ _)) rfl <| .z) fun a w S => ?_)))))))
      rw [rw_k] at S
      refine run S (.nt rfl <| .mv rfl <| .gy rfl rfl (ys_fieldN (FieldT.mk underlying60 rfl sizeOf9 rfl) (.t rfl) (i' := 4) rfl) <| .gy rfl rfl (ys_ld ⟨isAgg9, sizeOf9⟩ (.t rfl) (k := 0) rfl rfl) <| .gx rfl rfl (ys_call call142 (.cons (.t rfl) .nil) (fun hp w W => c142 _ _)) <| .z) fun a w S => ?_
      rw [rw_i] at S
      refine run S (.gy rfl rfl (ys_not (.t rfl)) <| .yy (ys_pickF (.t rfl) (.t rfl)) rfl <| .as rfl <| .z) fun a w S => st_nil (then_normal (hK2 _ _ (st_else S (.t rfl) (sg S (.fa underlying60 sizeOf3 5 rfl rfl rfl <| .ld gt3 0 rfl rfl rfl <| .yy (ys_F (by omega) (ys_lss (.t rfl) Ev.c)) rfl <| .mv rfl <| .gy rfl rfl (ys_fieldN (FieldT.mk underlying60 rfl sizeOf3 rfl) (.t rfl) (i' := 5) rfl) <| .gy rfl rfl (ys_ld ⟨isAgg3, sizeOf3⟩ (.t rfl) (k := 0) rfl rfl) <| .gy rfl rfl (ys_F (by omega) (ys_gtr (.t rfl) Ev.c)) <| .yy (ys_pickF (.t rfl) (.t rfl)) rfl <| .as rfl <| .z) fun a w S => st_else S (.t rfl) (wp_seq_k fun _ hK2 => wp_region_lit (run S (.fa underlying60 sizeOf27 6 rfl rfl rfl <| .ld gt27 0 rfl rfl rfl <| .xx (ys_call call143 (.cons (.t rfl) .nil) (fun hp w W => c143 _ _)) rfl <| .z) fun a w S => ?_))))))
      rw [rw_p] at S
      refine run S (.nt rfl <| .mv rfl <| .gy rfl rfl (ys_fieldN (FieldT.mk underlying60 rfl sizeOf3 rfl) (.t rfl) (i' := 5) rfl) <| .gy rfl rfl (ys_ld ⟨isAgg3, sizeOf3⟩ (.t rfl) (k := 0) rfl rfl) <| .gy rfl rfl (ys_eql (.t rfl) Ev.c) <| .gy rfl rfl (ys_move (.t rfl)) <| .z) fun a w S => st_yg S rfl rfl (Yr.ys (ys_fieldN (FieldT.mk underlying60 rfl sizeOf27 rfl) (.t rfl) (i' := 6) rfl)) rfl fun a w S => st_yg S rfl rfl (Yr.ys (ys_ld ⟨isAgg27, sizeOf27⟩ (Ev.g rfl) (k := 0) rfl rfl)) rfl fun a w S => st_yg S rfl rfl (Yr.ys (ys_neq (Ev.g rfl) Ev.c)) rfl fun a w S => run S (.gy rfl rfl (ys_and2 (.t rfl) (Ev.g rfl) Ev.c) <| .z) fun a w S => ?_
      rw [rw_z] at S
      refine run S (.yy (ys_pickF (.t rfl) (.t rfl)) rfl <| .as rfl <| .z) fun a w S => st_nil (then_normal (hK2 _ _ (st_else S (.t rfl) (wp_skip (in_normal (then_normal (hK1 _ _ (wp_seq_k fun _ hK1 => wp_region_lit (run S (.fa underlying60 sizeOf39 7 rfl rfl rfl <| .la gt39 0 rfl rfl rfl <| .xx (ys_call call52 (.cons (.t rfl) .nil) (fun hp w W => c52 _ _ _ _ _ (by exact .old W (by assumption)) (by exact .old W (by assumption)))) rfl <| .z) fun a w S => ?_)))))))))
      rw [rw_e] at S
      refine run S (.as rfl <| .z) fun a w S => st_nil (then_normal (hK1 _ _ (wp_seq_k fun _ hK1 => sg S (.mv rfl <| .yy (ys_F (by omega) (ys_neq (.t rfl) Ev.c)) rfl <| .z) fun a w S => st_else S (.t rfl) (wp_skip (then_normal (hK1 _ _ (wp_seq_k fun _ hK1 => wp_region_lit (run S (.fa underlying60 sizeOf58 1 rfl rfl rfl <| .la gt58 0 rfl rfl rfl <| .z) fun a w S => st_m (op_bslice1 S underlying35 inf58 rfl rfl rfl (.t rfl) rfl rfl rfl fun g2 a w S => ?_)))))))))
      (refine st_m (op_calls S call144 (.cons Ev.c (.cons (.t rfl) .nil)) (c144 _ _ _ _ _ (by exact Sl.nil_) (by exact sl_y1 S.wd (k := 0) rfl) (by (simp; done)) (by (simp; done))) rfl ?_); clear S a w; rintro _ _ ⟨A11, c11, A21, c21, rfl, rfl⟩ a w S)
      rw [rw_n] at S
      refine run S (.mv rfl <| .ex rfl rfl <| .ex rfl rfl <| .as rfl <| .z) fun a w S => st_nil (then_normal (hK1 _ _ (wp_seq_k fun _ hK1 => wp_seq_k fun _ hK2 => wp_region_lit (run S (.mv rfl <| .yy (ys_F (by omega) (ys_neq (.t rfl) Ev.c)) rfl <| .mv rfl <| .gy rfl rfl (ys_fieldN (FieldT.mk underlying60 rfl sizeOf39 rfl) (.t rfl) (i' := 7) rfl) <| .gy rfl rfl (ys_fieldN (FieldT.mk underlying39 rfl sizeOf37 rfl) (.t rfl) (i' := 8) rfl) <| .gy rfl rfl (ys_ldA ⟨isAgg37, sizeOf37⟩ (.t rfl) (k := 3) rfl rfl) <| .gy rfl rfl (ys_fieldN (FieldT.mk underlying60 rfl sizeOf58 rfl) (.t rfl) (i' := 1) rfl) <| .gy rfl rfl (ys_ldA ⟨isAgg58, sizeOf58⟩ (.t rfl) (k := 3) rfl rfl) <| .gx rfl rfl (ys_call call101 (.cons (.t rfl) (.cons (.t rfl) .nil)) (fun hp w W => c101 _ _ _ _ _ _ _ (by exact .old W (by assumption)))) <| .z) fun a w S => ?_))))
      rw [rw_c] at S
      refine run S (.yy (ys_pickF (.t rfl) (.t rfl)) rfl <| .z) fun a w S => st_nil (then_normal (hK2 _ _ (st_then S (.t rfl) (sg S (.ac rfl <| .z) fun a w S => wp_ret (then_ret (st_ret S (results1 S results80 (Rv.tmp rfl)) ?_))))))
      exact ⟨by rw [if_pos (.inr rfl)], S.wd.below⟩
    | false =>
      have rw_c : u.seen.ctx.covers ⟨u.dot.node, u.dot.life, u.dot.count⟩ = false := hc
      refine enter1 func80 rfl ntmps80 rfl fun a S => wp_seq_k fun _ hK1 => wp_region_lit (st_m (op_box S (.t rfl) rfl fun g1 a w S => run S (.ac rfl <| .z) fun a w S => st_nil (then_normal (hK1 _ _ (wp_seq_k fun _ hK1 => wp_block (wp_seq_k fun _ hK2 => wp_region_lit (run S (.fa underlying60 sizeOf9 0 rfl rfl rfl <| .ld gt9 0 rfl rfl rfl <| .xx (ys_call call142 (.cons (.t rfl) .nil) (fun hp w W => c142 _ _)) rfl <| .z) fun a w S => ?_)))))))
      rw [rw_k] at S
      refine run S (.nt rfl <| .mv rfl <| .gy rfl rfl (ys_fieldN (FieldT.mk underlying60 rfl sizeOf9 rfl) (.t rfl) (i' := 4) rfl) <| .gy rfl rfl (ys_ld ⟨isAgg9, sizeOf9⟩ (.t rfl) (k := 0) rfl rfl) <| .gx rfl rfl (ys_call call142 (.cons (.t rfl) .nil) (fun hp w W => c142 _ _)) <| .z) fun a w S => ?_
      rw [rw_i] at S
      refine run S (.gy rfl rfl (ys_not (.t rfl)) <| .yy (ys_pickF (.t rfl) (.t rfl)) rfl <| .as rfl <| .z) fun a w S => st_nil (then_normal (hK2 _ _ (st_else S (.t rfl) (sg S (.fa underlying60 sizeOf3 5 rfl rfl rfl <| .ld gt3 0 rfl rfl rfl <| .yy (ys_F (by omega) (ys_lss (.t rfl) Ev.c)) rfl <| .mv rfl <| .gy rfl rfl (ys_fieldN (FieldT.mk underlying60 rfl sizeOf3 rfl) (.t rfl) (i' := 5) rfl) <| .gy rfl rfl (ys_ld ⟨isAgg3, sizeOf3⟩ (.t rfl) (k := 0) rfl rfl) <| .gy rfl rfl (ys_F (by omega) (ys_gtr (.t rfl) Ev.c)) <| .yy (ys_pickF (.t rfl) (.t rfl)) rfl <| .as rfl <| .z) fun a w S => st_else S (.t rfl) (wp_seq_k fun _ hK2 => wp_region_lit (run S (.fa underlying60 sizeOf27 6 rfl rfl rfl <| .ld gt27 0 rfl rfl rfl <| .xx (ys_call call143 (.cons (.t rfl) .nil) (fun hp w W => c143 _ _)) rfl <| .z) fun a w S => ?_))))))
      rw [rw_p] at S
      refine run S (.nt rfl <| .mv rfl <| .gy rfl rfl (ys_fieldN (FieldT.mk underlying60 rfl sizeOf3 rfl) (.t rfl) (i' := 5) rfl) <| .gy rfl rfl (ys_ld ⟨isAgg3, sizeOf3⟩ (.t rfl) (k := 0) rfl rfl) <| .gy rfl rfl (ys_eql (.t rfl) Ev.c) <| .gy rfl rfl (ys_move (.t rfl)) <| .z) fun a w S => st_yg S rfl rfl (Yr.ys (ys_fieldN (FieldT.mk underlying60 rfl sizeOf27 rfl) (.t rfl) (i' := 6) rfl)) rfl fun a w S => st_yg S rfl rfl (Yr.ys (ys_ld ⟨isAgg27, sizeOf27⟩ (Ev.g rfl) (k := 0) rfl rfl)) rfl fun a w S => st_yg S rfl rfl (Yr.ys (ys_neq (Ev.g rfl) Ev.c)) rfl fun a w S => run S (.gy rfl rfl (ys_and2 (.t rfl) (Ev.g rfl) Ev.c) <| .z) fun a w S => ?_
      rw [rw_z] at S
      refine run S (.yy (ys_pickF (.t rfl) (.t rfl)) rfl <| .as rfl <| .z) fun a w S => st_nil (then_normal (hK2 _ _ (st_else S (.t rfl) (wp_skip (in_normal (then_normal (hK1 _ _ (wp_seq_k fun _ hK1 => wp_region_lit (run S (.fa underlying60 sizeOf39 7 rfl rfl rfl <| .la gt39 0 rfl rfl rfl <| .xx (ys_call call52 (.cons (.t rfl) .nil) (fun hp w W => c52 _ _ _ _ _ (by exact .old W (by assumption)) (by exact .old W (by assumption)))) rfl <| .z) fun a w S => ?_)))))))))
      rw [rw_e] at S
      refine run S (.as rfl <| .z) fun a w S => st_nil (then_normal (hK1 _ _ (wp_seq_k fun _ hK1 => sg S (.mv rfl <| .yy (ys_F (by omega) (ys_neq (.t rfl) Ev.c)) rfl <| .z) fun a w S => st_else S (.t rfl) (wp_skip (then_normal (hK1 _ _ (wp_seq_k fun _ hK1 => wp_region_lit (run S (.fa underlying60 sizeOf58 1 rfl rfl rfl <| .la gt58 0 rfl rfl rfl <| .z) fun a w S => st_m (op_bslice1 S underlying35 inf58 rfl rfl rfl (.t rfl) rfl rfl rfl fun g2 a w S => ?_)))))))))
      (refine st_m (op_calls S call144 (.cons Ev.c (.cons (.t rfl) .nil)) (c144 _ _ _ _ _ (by exact Sl.nil_) (by exact sl_y1 S.wd (k := 0) rfl) (by (simp; done)) (by (simp; done))) rfl ?_); clear S a w; rintro _ _ ⟨A11, c11, A21, c21, rfl, rfl⟩ a w S)
      rw [rw_n] at S
      refine run S (.mv rfl <| .ex rfl rfl <| .ex rfl rfl <| .as rfl <| .z) fun a w S => st_nil (then_normal (hK1 _ _ (wp_seq_k fun _ hK1 => wp_seq_k fun _ hK2 => wp_region_lit (run S (.mv rfl <| .yy (ys_F (by omega) (ys_neq (.t rfl) Ev.c)) rfl <| .mv rfl <| .gy rfl rfl (ys_fieldN (FieldT.mk underlying60 rfl sizeOf39 rfl) (.t rfl) (i' := 7) rfl) <| .gy rfl rfl (ys_fieldN (FieldT.mk underlying39 rfl sizeOf37 rfl) (.t rfl) (i' := 8) rfl) <| .gy rfl rfl (ys_ldA ⟨isAgg37, sizeOf37⟩ (.t rfl) (k := 3) rfl rfl) <| .gy rfl rfl (ys_fieldN (FieldT.mk underlying60 rfl sizeOf58 rfl) (.t rfl) (i' := 1) rfl) <| .gy rfl rfl (ys_ldA ⟨isAgg58, sizeOf58⟩ (.t rfl) (k := 3) rfl rfl) <| .gx rfl rfl (ys_call call101 (.cons (.t rfl) (.cons (.t rfl) .nil)) (fun hp w W => c101 _ _ _ _ _ _ _ (by exact .old W (by assumption)))) <| .z) fun a w S => ?_))))
      rw [rw_c] at S
      refine run S (.yy (ys_pickF (.t rfl) (.t rfl)) rfl <| .z) fun a w S => st_nil (then_normal (hK2 _ _ (st_else S (.t rfl) (wp_skip (then_normal (hK1 _ _ (sg S (.ac rfl <| .z) fun a w S => wp_ret (st_ret S (results1 S results80 (Rv.tmp rfl)) ?_))))))))
      exact ⟨by rw [if_neg (by simp)], S.wd.below⟩
theorem c85 (w0 : World) (u : Upd) (v1 v2 v3 : Value) (h : Sl Ent.enc 6 w0 w0.heap.size v1 u.seen.ents) (hr : RdCtx w0 w0.heap.size v2 v3 u.seen.ctx) :
    Calls Tryz.prog 85 #[.agg (Upd.enc u v1 v2 v3).toArray] w0 fun e w' => e = .returned (.int .i64 (mayE u)) ∧ Bel w0.heap.size w0 w' := by
  have hs := h
  have hrr := hr
  obtain ⟨A, cap, rfl, _⟩ := h
  obtain ⟨⟨A2, cap2, rfl, _⟩, ⟨A3, cap3, rfl, _⟩⟩ := hr
  unfold mayE
  cases rw_k : nameB u.key with
  | false =>
    refine enter1 func85 rfl ntmps85 rfl fun a S => wp_seq_k fun _ hK1 => wp_region_lit (st_m (op_box S (.t rfl) rfl fun g1 a w S => run S (.ac rfl <| .z) fun a w S => st_nil (then_normal (hK1 _ _ (wp_seq_k fun _ hK1 => wp_block (wp_seq_k fun _ hK2 => wp_region_lit (run S (.fa underlying60 sizeOf9 0 rfl rfl rfl <| .ld gt9 0 rfl rfl rfl <| .xx (ys_call call127 (.cons (.t rfl) .nil) (fun hp w W => c127 _ _)) rfl <| .z) fun a w S => ?_)))))))
    rw [rw_k] at S
    refine run S (.nt rfl <| .mv rfl <| .sk rfl rfl rfl <| .sk rfl rfl rfl <| .sk rfl rfl rfl <| .sk rfl rfl rfl <| .yy (ys_pickT (.t rfl) Ev.c) rfl <| .as rfl <| .z) fun a w S => st_nil (then_normal (hK2 _ _ (st_then S (.t rfl) (sg S (.ac rfl <| .z) fun a w S => wp_ret (in_ret (then_ret (st_ret S (results1 S results85 (Rv.tmp rfl)) ?_)))))))
    exact ⟨by rw [if_pos (.inl rfl)], S.wd.below⟩
  | true =>
  cases rw_i : nameB u.item with
  | false =>
    refine enter1 func85 rfl ntmps85 rfl fun a S => wp_seq_k fun _ hK1 => wp_region_lit (st_m (op_box S (.t rfl) rfl fun g1 a w S => run S (.ac rfl <| .z) fun a w S => st_nil (then_normal (hK1 _ _ (wp_seq_k fun _ hK1 => wp_block (wp_seq_k fun _ hK2 => wp_region_lit (run S (.fa underlying60 sizeOf9 0 rfl rfl rfl <| .ld gt9 0 rfl rfl rfl <| .xx (ys_call call127 (.cons (.t rfl) .nil) (fun hp w W => c127 _ _)) rfl <| .z) fun a w S => ?_)))))))
    rw [rw_k] at S
    refine run S (.nt rfl <| .mv rfl <| .gy rfl rfl (ys_fieldN (FieldT.mk underlying60 rfl sizeOf9 rfl) (.t rfl) (i' := 4) rfl) <| .gy rfl rfl (ys_ld ⟨isAgg9, sizeOf9⟩ (.t rfl) (k := 0) rfl rfl) <| .gx rfl rfl (ys_call call127 (.cons (.t rfl) .nil) (fun hp w W => c127 _ _)) <| .z) fun a w S => ?_
    rw [rw_i] at S
    refine run S (.gy rfl rfl (ys_not (.t rfl)) <| .yy (ys_pickF (.t rfl) (.t rfl)) rfl <| .as rfl <| .z) fun a w S => st_nil (then_normal (hK2 _ _ (st_then S (.t rfl) (sg S (.ac rfl <| .z) fun a w S => wp_ret (in_ret (then_ret (st_ret S (results1 S results85 (Rv.tmp rfl)) ?_)))))))
    exact ⟨by rw [if_pos (.inr rfl)], S.wd.below⟩
  | true =>
  rw [if_neg (by simp)]
  by_cases hq : u.qty < 0 ∨ 1000000 < u.qty
  · have rw_q : (decide (0 ≤ u.qty) && decide (u.qty ≤ 1000000)) = false := by simp; omega
    refine enter1 func85 rfl ntmps85 rfl fun a S => wp_seq_k fun _ hK1 => wp_region_lit (st_m (op_box S (.t rfl) rfl fun g1 a w S => run S (.ac rfl <| .z) fun a w S => st_nil (then_normal (hK1 _ _ (wp_seq_k fun _ hK1 => wp_block (wp_seq_k fun _ hK2 => wp_region_lit (run S (.fa underlying60 sizeOf9 0 rfl rfl rfl <| .ld gt9 0 rfl rfl rfl <| .xx (ys_call call127 (.cons (.t rfl) .nil) (fun hp w W => c127 _ _)) rfl <| .z) fun a w S => ?_)))))))
    rw [rw_k] at S
    refine run S (.nt rfl <| .mv rfl <| .gy rfl rfl (ys_fieldN (FieldT.mk underlying60 rfl sizeOf9 rfl) (.t rfl) (i' := 4) rfl) <| .gy rfl rfl (ys_ld ⟨isAgg9, sizeOf9⟩ (.t rfl) (k := 0) rfl rfl) <| .gx rfl rfl (ys_call call127 (.cons (.t rfl) .nil) (fun hp w W => c127 _ _)) <| .z) fun a w S => ?_
    rw [rw_i] at S
    refine run S (.gy rfl rfl (ys_not (.t rfl)) <| .yy (ys_pickF (.t rfl) (.t rfl)) rfl <| .as rfl <| .z) fun a w S => st_nil (then_normal (hK2 _ _ (st_else S (.t rfl) (wp_seq_k fun _ hK2 => wp_region_lit (run S (.fa underlying60 sizeOf3 5 rfl rfl rfl <| .ld gt3 0 rfl rfl rfl <| .xx (ys_call call128 (.cons (.t rfl) (.cons Ev.c .nil)) (fun hp w W => c128 _ _ _)) rfl <| .z) fun a w S => ?_)))))
    rw [rw_q] at S
    refine run S (.nt rfl <| .as rfl <| .z) fun a w S => st_nil (then_normal (hK2 _ _ (st_then S (.t rfl) (sg S (.ac rfl <| .z) fun a w S => wp_ret (in_ret (then_ret (st_ret S (results1 S results85 (Rv.tmp rfl)) ?_)))))))
    exact ⟨by rw [if_pos hq], S.wd.below⟩
  have rw_q : (decide (0 ≤ u.qty) && decide (u.qty ≤ 1000000)) = true := by simp; omega
  rw [if_neg hq]
  cases rw_p : priceB u.price with
  | false =>
    refine enter1 func85 rfl ntmps85 rfl fun a S => wp_seq_k fun _ hK1 => wp_region_lit (st_m (op_box S (.t rfl) rfl fun g1 a w S => run S (.ac rfl <| .z) fun a w S => st_nil (then_normal (hK1 _ _ (wp_seq_k fun _ hK1 => wp_block (wp_seq_k fun _ hK2 => wp_region_lit (run S (.fa underlying60 sizeOf9 0 rfl rfl rfl <| .ld gt9 0 rfl rfl rfl <| .xx (ys_call call127 (.cons (.t rfl) .nil) (fun hp w W => c127 _ _)) rfl <| .z) fun a w S => ?_)))))))
    rw [rw_k] at S
    refine run S (.nt rfl <| .mv rfl <| .gy rfl rfl (ys_fieldN (FieldT.mk underlying60 rfl sizeOf9 rfl) (.t rfl) (i' := 4) rfl) <| .gy rfl rfl (ys_ld ⟨isAgg9, sizeOf9⟩ (.t rfl) (k := 0) rfl rfl) <| .gx rfl rfl (ys_call call127 (.cons (.t rfl) .nil) (fun hp w W => c127 _ _)) <| .z) fun a w S => ?_
    rw [rw_i] at S
    refine run S (.gy rfl rfl (ys_not (.t rfl)) <| .yy (ys_pickF (.t rfl) (.t rfl)) rfl <| .as rfl <| .z) fun a w S => st_nil (then_normal (hK2 _ _ (st_else S (.t rfl) (wp_seq_k fun _ hK2 => wp_region_lit (run S (.fa underlying60 sizeOf3 5 rfl rfl rfl <| .ld gt3 0 rfl rfl rfl <| .xx (ys_call call128 (.cons (.t rfl) (.cons Ev.c .nil)) (fun hp w W => c128 _ _ _)) rfl <| .z) fun a w S => ?_)))))
    rw [rw_q] at S
    refine run S (.nt rfl <| .as rfl <| .z) fun a w S => st_nil (then_normal (hK2 _ _ (st_else S (.t rfl) (wp_seq_k fun _ hK2 => wp_region_lit (run S (.fa underlying60 sizeOf27 6 rfl rfl rfl <| .ld gt27 0 rfl rfl rfl <| .xx (ys_call call129 (.cons (.t rfl) .nil) (fun hp w W => c129 _ _)) rfl <| .z) fun a w S => ?_)))))
    rw [rw_p] at S
    refine run S (.nt rfl <| .mv rfl <| .sk rfl rfl rfl <| .sk rfl rfl rfl <| .sk rfl rfl rfl <| .sk rfl rfl rfl <| .s0 rfl rfl <| .s0 rfl rfl <| .s0 rfl rfl <| .sk rfl rfl rfl <| .yy (ys_pickT (.t rfl) Ev.c) rfl <| .as rfl <| .z) fun a w S => st_nil (then_normal (hK2 _ _ (st_then S (.t rfl) (sg S (.ac rfl <| .z) fun a w S => wp_ret (in_ret (then_ret (st_ret S (results1 S results85 (Rv.tmp rfl)) ?_)))))))
    exact ⟨by rw [if_pos (.inl rfl)], S.wd.below⟩
  | true =>
  by_cases hz : u.qty = 0 ∧ u.price.toNat ≠ 0
  · have rw_z : (decide (u.qty = 0) && decide ((u.price.toNat : Int) ≠ 0)) = true := by simp; omega
    refine enter1 func85 rfl ntmps85 rfl fun a S => wp_seq_k fun _ hK1 => wp_region_lit (st_m (op_box S (.t rfl) rfl fun g1 a w S => run S (.ac rfl <| .z) fun a w S => st_nil (then_normal (hK1 _ _ (wp_seq_k fun _ hK1 => wp_block (wp_seq_k fun _ hK2 => wp_region_lit (run S (.fa underlying60 sizeOf9 0 rfl rfl rfl <| .ld gt9 0 rfl rfl rfl <| .xx (ys_call call127 (.cons (.t rfl) .nil) (fun hp w W => c127 _ _)) rfl <| .z) fun a w S => ?_)))))))
    rw [rw_k] at S
    refine run S (.nt rfl <| .mv rfl <| .gy rfl rfl (ys_fieldN (FieldT.mk underlying60 rfl sizeOf9 rfl) (.t rfl) (i' := 4) rfl) <| .gy rfl rfl (ys_ld ⟨isAgg9, sizeOf9⟩ (.t rfl) (k := 0) rfl rfl) <| .gx rfl rfl (ys_call call127 (.cons (.t rfl) .nil) (fun hp w W => c127 _ _)) <| .z) fun a w S => ?_
    rw [rw_i] at S
    refine run S (.gy rfl rfl (ys_not (.t rfl)) <| .yy (ys_pickF (.t rfl) (.t rfl)) rfl <| .as rfl <| .z) fun a w S => st_nil (then_normal (hK2 _ _ (st_else S (.t rfl) (wp_seq_k fun _ hK2 => wp_region_lit (run S (.fa underlying60 sizeOf3 5 rfl rfl rfl <| .ld gt3 0 rfl rfl rfl <| .xx (ys_call call128 (.cons (.t rfl) (.cons Ev.c .nil)) (fun hp w W => c128 _ _ _)) rfl <| .z) fun a w S => ?_)))))
    rw [rw_q] at S
    refine run S (.nt rfl <| .as rfl <| .z) fun a w S => st_nil (then_normal (hK2 _ _ (st_else S (.t rfl) (wp_seq_k fun _ hK2 => wp_region_lit (run S (.fa underlying60 sizeOf27 6 rfl rfl rfl <| .ld gt27 0 rfl rfl rfl <| .xx (ys_call call129 (.cons (.t rfl) .nil) (fun hp w W => c129 _ _)) rfl <| .z) fun a w S => ?_)))))
    rw [rw_p] at S
    refine run S (.nt rfl <| .mv rfl <| .gy rfl rfl (ys_fieldN (FieldT.mk underlying60 rfl sizeOf3 rfl) (.t rfl) (i' := 5) rfl) <| .gy rfl rfl (ys_ld ⟨isAgg3, sizeOf3⟩ (.t rfl) (k := 0) rfl rfl) <| .gy rfl rfl (ys_T (by omega) (ys_eql (.t rfl) Ev.c)) <| .gy rfl rfl (ys_move (.t rfl)) <| .gy rfl rfl (ys_fieldN (FieldT.mk underlying60 rfl sizeOf27 rfl) (.t rfl) (i' := 6) rfl) <| .gy rfl rfl (ys_ld ⟨isAgg27, sizeOf27⟩ (.t rfl) (k := 0) rfl rfl) <| .gy rfl rfl (ys_T (by omega) (ys_neq (.t rfl) Ev.c)) <| .gy rfl rfl (ys_pickT (.t rfl) (.t rfl)) <| .yy (ys_pickF (.t rfl) (.t rfl)) rfl <| .as rfl <| .z) fun a w S => st_nil (then_normal (hK2 _ _ (st_then S (.t rfl) (sg S (.ac rfl <| .z) fun a w S => wp_ret (in_ret (then_ret (st_ret S (results1 S results85 (Rv.tmp rfl)) ?_)))))))
    exact ⟨by rw [if_pos (.inr hz)], S.wd.below⟩
  have rw_z : (decide (u.qty = 0) && decide ((u.price.toNat : Int) ≠ 0)) = false := by
    by_cases h0 : u.qty = 0
    · have : u.price.toNat = 0 := Decidable.byContradiction fun h => hz ⟨h0, h⟩
      simp [this]
    · simp [h0]
  rw [if_neg (by rintro (h | h); cases h; exact hz h)]
  by_cases he : canE u.seen = 0
  rotate_left
  · refine enter1 func85 rfl ntmps85 rfl fun a S => wp_seq_k fun _ hK1 => wp_region_lit (st_m (op_box S (.t rfl) rfl fun g1 a w S => run S (.ac rfl <| .z) fun a w S => st_nil (then_normal (hK1 _ _ (wp_seq_k fun _ hK1 => wp_block (wp_seq_k fun _ hK2 => wp_region_lit (run S (.fa underlying60 sizeOf9 0 rfl rfl rfl <| .ld gt9 0 rfl rfl rfl <| .xx (ys_call call127 (.cons (.t rfl) .nil) (fun hp w W => c127 _ _)) rfl <| .z) fun a w S => ?_)))))))
    rw [rw_k] at S
    refine run S (.nt rfl <| .mv rfl <| .gy rfl rfl (ys_fieldN (FieldT.mk underlying60 rfl sizeOf9 rfl) (.t rfl) (i' := 4) rfl) <| .gy rfl rfl (ys_ld ⟨isAgg9, sizeOf9⟩ (.t rfl) (k := 0) rfl rfl) <| .gx rfl rfl (ys_call call127 (.cons (.t rfl) .nil) (fun hp w W => c127 _ _)) <| .z) fun a w S => ?_
    rw [rw_i] at S
    refine run S (.gy rfl rfl (ys_not (.t rfl)) <| .yy (ys_pickF (.t rfl) (.t rfl)) rfl <| .as rfl <| .z) fun a w S => st_nil (then_normal (hK2 _ _ (st_else S (.t rfl) (wp_seq_k fun _ hK2 => wp_region_lit (run S (.fa underlying60 sizeOf3 5 rfl rfl rfl <| .ld gt3 0 rfl rfl rfl <| .xx (ys_call call128 (.cons (.t rfl) (.cons Ev.c .nil)) (fun hp w W => c128 _ _ _)) rfl <| .z) fun a w S => ?_)))))
    rw [rw_q] at S
    refine run S (.nt rfl <| .as rfl <| .z) fun a w S => st_nil (then_normal (hK2 _ _ (st_else S (.t rfl) (wp_seq_k fun _ hK2 => wp_region_lit (run S (.fa underlying60 sizeOf27 6 rfl rfl rfl <| .ld gt27 0 rfl rfl rfl <| .xx (ys_call call129 (.cons (.t rfl) .nil) (fun hp w W => c129 _ _)) rfl <| .z) fun a w S => ?_)))))
    rw [rw_p] at S
    refine run S (.nt rfl <| .mv rfl <| .gy rfl rfl (ys_fieldN (FieldT.mk underlying60 rfl sizeOf3 rfl) (.t rfl) (i' := 5) rfl) <| .gy rfl rfl (ys_ld ⟨isAgg3, sizeOf3⟩ (.t rfl) (k := 0) rfl rfl) <| .gy rfl rfl (ys_eql (.t rfl) Ev.c) <| .gy rfl rfl (ys_move (.t rfl)) <| .z) fun a w S => st_yg S rfl rfl (Yr.ys (ys_fieldN (FieldT.mk underlying60 rfl sizeOf27 rfl) (.t rfl) (i' := 6) rfl)) rfl fun a w S => st_yg S rfl rfl (Yr.ys (ys_ld ⟨isAgg27, sizeOf27⟩ (Ev.g rfl) (k := 0) rfl rfl)) rfl fun a w S => st_yg S rfl rfl (Yr.ys (ys_neq (Ev.g rfl) Ev.c)) rfl fun a w S => run S (.gy rfl rfl (ys_and2 (.t rfl) (Ev.g rfl) Ev.c) <| .z) fun a w S => ?_
    rw [rw_z] at S
    refine run S (.yy (ys_pickF (.t rfl) (.t rfl)) rfl <| .as rfl <| .z) fun a w S => st_nil (then_normal (hK2 _ _ (st_else S (.t rfl) (wp_skip (in_normal (then_normal (hK1 _ _ (wp_seq_k fun _ hK1 => sg S (.fa underlying60 sizeOf39 7 rfl rfl rfl <| .la gt39 0 rfl rfl rfl <| .xx (ys_call call66 (.cons (.t rfl) .nil) (fun hp w W => c66 _ _ _ _ _ (by exact .old W (by assumption)) (by exact .old W (by assumption)))) rfl <| .as rfl <| .z) fun a w S => sg S (.mv rfl <| .yy (ys_T (by omega) (ys_neq (.t rfl) Ev.c)) rfl <| .z) fun a w S => st_then S (.t rfl) (sg S (.mv rfl <| .as rfl <| .z) fun a w S => wp_ret (then_ret (st_ret S (results1 S results85 (Rv.tmp rfl)) ?_)))))))))))
    exact ⟨by rw [if_neg he], S.wd.below⟩
  have rw_e := he
  rw [if_pos he]
  have rw_cov := can_covers (can_ctx he)
  cases hd : mayD u.dot with
  | false =>
    have rw_d : mayD ⟨u.dot.node, u.dot.life, u.dot.count⟩ = false := hd
    refine enter1 func85 rfl ntmps85 rfl fun a S => wp_seq_k fun _ hK1 => wp_region_lit (st_m (op_box S (.t rfl) rfl fun g1 a w S => run S (.ac rfl <| .z) fun a w S => st_nil (then_normal (hK1 _ _ (wp_seq_k fun _ hK1 => wp_block (wp_seq_k fun _ hK2 => wp_region_lit (run S (.fa underlying60 sizeOf9 0 rfl rfl rfl <| .ld gt9 0 rfl rfl rfl <| .xx (ys_call call127 (.cons (.t rfl) .nil) (fun hp w W => c127 _ _)) rfl <| .z) fun a w S => ?_)))))))
    rw [rw_k] at S
    refine run S (.nt rfl <| .mv rfl <| .gy rfl rfl (ys_fieldN (FieldT.mk underlying60 rfl sizeOf9 rfl) (.t rfl) (i' := 4) rfl) <| .gy rfl rfl (ys_ld ⟨isAgg9, sizeOf9⟩ (.t rfl) (k := 0) rfl rfl) <| .gx rfl rfl (ys_call call127 (.cons (.t rfl) .nil) (fun hp w W => c127 _ _)) <| .z) fun a w S => ?_
    rw [rw_i] at S
    refine run S (.gy rfl rfl (ys_not (.t rfl)) <| .yy (ys_pickF (.t rfl) (.t rfl)) rfl <| .as rfl <| .z) fun a w S => st_nil (then_normal (hK2 _ _ (st_else S (.t rfl) (wp_seq_k fun _ hK2 => wp_region_lit (run S (.fa underlying60 sizeOf3 5 rfl rfl rfl <| .ld gt3 0 rfl rfl rfl <| .xx (ys_call call128 (.cons (.t rfl) (.cons Ev.c .nil)) (fun hp w W => c128 _ _ _)) rfl <| .z) fun a w S => ?_)))))
    rw [rw_q] at S
    refine run S (.nt rfl <| .as rfl <| .z) fun a w S => st_nil (then_normal (hK2 _ _ (st_else S (.t rfl) (wp_seq_k fun _ hK2 => wp_region_lit (run S (.fa underlying60 sizeOf27 6 rfl rfl rfl <| .ld gt27 0 rfl rfl rfl <| .xx (ys_call call129 (.cons (.t rfl) .nil) (fun hp w W => c129 _ _)) rfl <| .z) fun a w S => ?_)))))
    rw [rw_p] at S
    refine run S (.nt rfl <| .mv rfl <| .gy rfl rfl (ys_fieldN (FieldT.mk underlying60 rfl sizeOf3 rfl) (.t rfl) (i' := 5) rfl) <| .gy rfl rfl (ys_ld ⟨isAgg3, sizeOf3⟩ (.t rfl) (k := 0) rfl rfl) <| .gy rfl rfl (ys_eql (.t rfl) Ev.c) <| .gy rfl rfl (ys_move (.t rfl)) <| .z) fun a w S => st_yg S rfl rfl (Yr.ys (ys_fieldN (FieldT.mk underlying60 rfl sizeOf27 rfl) (.t rfl) (i' := 6) rfl)) rfl fun a w S => st_yg S rfl rfl (Yr.ys (ys_ld ⟨isAgg27, sizeOf27⟩ (Ev.g rfl) (k := 0) rfl rfl)) rfl fun a w S => st_yg S rfl rfl (Yr.ys (ys_neq (Ev.g rfl) Ev.c)) rfl fun a w S => run S (.gy rfl rfl (ys_and2 (.t rfl) (Ev.g rfl) Ev.c) <| .z) fun a w S => ?_
    rw [rw_z] at S
    refine run S (.yy (ys_pickF (.t rfl) (.t rfl)) rfl <| .as rfl <| .z) fun a w S => st_nil (then_normal (hK2 _ _ (st_else S (.t rfl) (wp_skip (in_normal (then_normal (hK1 _ _ (wp_seq_k fun _ hK1 => wp_seq_k fun _ hK2 => wp_region_lit (run S (.fa underlying60 sizeOf39 7 rfl rfl rfl <| .la gt39 0 rfl rfl rfl <| .xx (ys_call call66 (.cons (.t rfl) .nil) (fun hp w W => c66 _ _ _ _ _ (by exact .old W (by assumption)) (by exact .old W (by assumption)))) rfl <| .z) fun a w S => ?_)))))))))
    rw [rw_e] at S
    refine run S (.as rfl <| .z) fun a w S => st_nil (then_normal (hK2 _ _ (sg S (.mv rfl <| .yy (ys_F (by omega) (ys_neq (.t rfl) Ev.c)) rfl <| .z) fun a w S => st_else S (.t rfl) (wp_skip (then_normal (hK1 _ _ (wp_seq_k fun _ hK1 => wp_seq_k fun _ hK2 => wp_region_lit (run S (.fa underlying60 sizeOf58 1 rfl rfl rfl <| .la gt58 0 rfl rfl rfl <| .xx (ys_call call149 (.cons (.t rfl) .nil) (fun hp w W => c149 _ _ _ _)) rfl <| .z) fun a w S => ?_))))))))
    rw [rw_d] at S
    refine run S (.nt rfl <| .mv rfl <| .sk rfl rfl rfl <| .sk rfl rfl rfl <| .sk rfl rfl rfl <| .sk rfl rfl rfl <| .sk rfl rfl rfl <| .sk rfl rfl rfl <| .yy (ys_pickT (.t rfl) Ev.c) rfl <| .z) fun a w S => st_nil (then_normal (hK2 _ _ (st_then S (.t rfl) (sg S (.ac rfl <| .z) fun a w S => wp_ret (then_ret (st_ret S (results1 S results85 (Rv.tmp rfl)) ?_))))))
    exact ⟨by rw [if_pos (.inl rfl)], S.wd.below⟩
  | true =>
    have rw_d : mayD ⟨u.dot.node, u.dot.life, u.dot.count⟩ = true := hd
    cases hc : u.seen.ctx.covers u.dot with
    | true =>
      have rw_c : u.seen.ctx.covers ⟨u.dot.node, u.dot.life, u.dot.count⟩ = true := hc
      refine enter1 func85 rfl ntmps85 rfl fun a S => wp_seq_k fun _ hK1 => wp_region_lit (st_m (op_box S (.t rfl) rfl fun g1 a w S => run S (.ac rfl <| .z) fun a w S => st_nil (then_normal (hK1 _ _ (wp_seq_k fun _ hK1 => wp_block (wp_seq_k fun _ hK2 => wp_region_lit (run S (.fa underlying60 sizeOf9 0 rfl rfl rfl <| .ld gt9 0 rfl rfl rfl <| .xx (ys_call call127 (.cons (.t rfl) .nil) (fun hp w W => c127 _ _)) rfl <| .z) fun a w S => ?_)))))))
      rw [rw_k] at S
      refine run S (.nt rfl <| .mv rfl <| .gy rfl rfl (ys_fieldN (FieldT.mk underlying60 rfl sizeOf9 rfl) (.t rfl) (i' := 4) rfl) <| .gy rfl rfl (ys_ld ⟨isAgg9, sizeOf9⟩ (.t rfl) (k := 0) rfl rfl) <| .gx rfl rfl (ys_call call127 (.cons (.t rfl) .nil) (fun hp w W => c127 _ _)) <| .z) fun a w S => ?_
      rw [rw_i] at S
      refine run S (.gy rfl rfl (ys_not (.t rfl)) <| .yy (ys_pickF (.t rfl) (.t rfl)) rfl <| .as rfl <| .z) fun a w S => st_nil (then_normal (hK2 _ _ (st_else S (.t rfl) (wp_seq_k fun _ hK2 => wp_region_lit (run S (.fa underlying60 sizeOf3 5 rfl rfl rfl <| .ld gt3 0 rfl rfl rfl <| .xx (ys_call call128 (.cons (.t rfl) (.cons Ev.c .nil)) (fun hp w W => c128 _ _ _)) rfl <| .z) fun a w S => ?_)))))
      rw [rw_q] at S
      refine run S (.nt rfl <| .as rfl <| .z) fun a w S => st_nil (then_normal (hK2 _ _ (st_else S (.t rfl) (wp_seq_k fun _ hK2 => wp_region_lit (run S (.fa underlying60 sizeOf27 6 rfl rfl rfl <| .ld gt27 0 rfl rfl rfl <| .xx (ys_call call129 (.cons (.t rfl) .nil) (fun hp w W => c129 _ _)) rfl <| .z) fun a w S => ?_)))))
      rw [rw_p] at S
      refine run S (.nt rfl <| .mv rfl <| .gy rfl rfl (ys_fieldN (FieldT.mk underlying60 rfl sizeOf3 rfl) (.t rfl) (i' := 5) rfl) <| .gy rfl rfl (ys_ld ⟨isAgg3, sizeOf3⟩ (.t rfl) (k := 0) rfl rfl) <| .gy rfl rfl (ys_eql (.t rfl) Ev.c) <| .gy rfl rfl (ys_move (.t rfl)) <| .z) fun a w S => st_yg S rfl rfl (Yr.ys (ys_fieldN (FieldT.mk underlying60 rfl sizeOf27 rfl) (.t rfl) (i' := 6) rfl)) rfl fun a w S => st_yg S rfl rfl (Yr.ys (ys_ld ⟨isAgg27, sizeOf27⟩ (Ev.g rfl) (k := 0) rfl rfl)) rfl fun a w S => st_yg S rfl rfl (Yr.ys (ys_neq (Ev.g rfl) Ev.c)) rfl fun a w S => run S (.gy rfl rfl (ys_and2 (.t rfl) (Ev.g rfl) Ev.c) <| .z) fun a w S => ?_
      rw [rw_z] at S
      refine run S (.yy (ys_pickF (.t rfl) (.t rfl)) rfl <| .as rfl <| .z) fun a w S => st_nil (then_normal (hK2 _ _ (st_else S (.t rfl) (wp_skip (in_normal (then_normal (hK1 _ _ (wp_seq_k fun _ hK1 => wp_seq_k fun _ hK2 => wp_region_lit (run S (.fa underlying60 sizeOf39 7 rfl rfl rfl <| .la gt39 0 rfl rfl rfl <| .xx (ys_call call66 (.cons (.t rfl) .nil) (fun hp w W => c66 _ _ _ _ _ (by exact .old W (by assumption)) (by exact .old W (by assumption)))) rfl <| .z) fun a w S => ?_)))))))))
      rw [rw_e] at S
      refine run S (.as rfl <| .z) fun a w S => st_nil (then_normal (hK2 _ _ (sg S (.mv rfl <| .yy (ys_F (by omega) (ys_neq (.t rfl) Ev.c)) rfl <| .z) fun a w S => st_else S (.t rfl) (wp_skip (then_normal (hK1 _ _ (wp_seq_k fun _ hK1 => wp_seq_k fun _ hK2 => wp_region_lit (run S (.fa underlying60 sizeOf58 1 rfl rfl rfl <| .la gt58 0 rfl rfl rfl <| .xx (ys_call call149 (.cons (.t rfl) .nil) (fun hp w W => c149 _ _ _ _)) rfl <| .z) fun a w S => ?_))))))))
      rw [rw_d] at S
      refine run S (.nt rfl <| .mv rfl <| .gy rfl rfl (ys_fieldN (FieldT.mk underlying60 rfl sizeOf39 rfl) (.t rfl) (i' := 7) rfl) <| .gy rfl rfl (ys_fieldN (FieldT.mk underlying39 rfl sizeOf37 rfl) (.t rfl) (i' := 8) rfl) <| .gy rfl rfl (ys_ldA ⟨isAgg37, sizeOf37⟩ (.t rfl) (k := 0) rfl rfl) <| .gy rfl rfl (ys_fieldN (FieldT.mk underlying60 rfl sizeOf58 rfl) (.t rfl) (i' := 1) rfl) <| .gy rfl rfl (ys_ldA ⟨isAgg58, sizeOf58⟩ (.t rfl) (k := 0) rfl rfl) <| .gx rfl rfl (ys_call call37 (.cons (.t rfl) (.cons (.t rfl) .nil)) (fun hp w W => c37 _ _ _ _ _ _ _ (by exact .old W (by assumption)))) <| .z) fun a w S => ?_
      rw [rw_cov] at S
      rw [rw_c] at S
      refine run S (.yy (ys_pickF (.t rfl) (.t rfl)) rfl <| .z) fun a w S => st_nil (then_normal (hK2 _ _ (st_then S (.t rfl) (sg S (.ac rfl <| .z) fun a w S => wp_ret (then_ret (st_ret S (results1 S results85 (Rv.tmp rfl)) ?_))))))
      exact ⟨by rw [if_pos (.inr rfl)], S.wd.below⟩
    | false =>
      have rw_c : u.seen.ctx.covers ⟨u.dot.node, u.dot.life, u.dot.count⟩ = false := hc
      refine enter1 func85 rfl ntmps85 rfl fun a S => wp_seq_k fun _ hK1 => wp_region_lit (st_m (op_box S (.t rfl) rfl fun g1 a w S => run S (.ac rfl <| .z) fun a w S => st_nil (then_normal (hK1 _ _ (wp_seq_k fun _ hK1 => wp_block (wp_seq_k fun _ hK2 => wp_region_lit (run S (.fa underlying60 sizeOf9 0 rfl rfl rfl <| .ld gt9 0 rfl rfl rfl <| .xx (ys_call call127 (.cons (.t rfl) .nil) (fun hp w W => c127 _ _)) rfl <| .z) fun a w S => ?_)))))))
      rw [rw_k] at S
      refine run S (.nt rfl <| .mv rfl <| .gy rfl rfl (ys_fieldN (FieldT.mk underlying60 rfl sizeOf9 rfl) (.t rfl) (i' := 4) rfl) <| .gy rfl rfl (ys_ld ⟨isAgg9, sizeOf9⟩ (.t rfl) (k := 0) rfl rfl) <| .gx rfl rfl (ys_call call127 (.cons (.t rfl) .nil) (fun hp w W => c127 _ _)) <| .z) fun a w S => ?_
      rw [rw_i] at S
      refine run S (.gy rfl rfl (ys_not (.t rfl)) <| .yy (ys_pickF (.t rfl) (.t rfl)) rfl <| .as rfl <| .z) fun a w S => st_nil (then_normal (hK2 _ _ (st_else S (.t rfl) (wp_seq_k fun _ hK2 => wp_region_lit (run S (.fa underlying60 sizeOf3 5 rfl rfl rfl <| .ld gt3 0 rfl rfl rfl <| .xx (ys_call call128 (.cons (.t rfl) (.cons Ev.c .nil)) (fun hp w W => c128 _ _ _)) rfl <| .z) fun a w S => ?_)))))
      rw [rw_q] at S
      refine run S (.nt rfl <| .as rfl <| .z) fun a w S => st_nil (then_normal (hK2 _ _ (st_else S (.t rfl) (wp_seq_k fun _ hK2 => wp_region_lit (run S (.fa underlying60 sizeOf27 6 rfl rfl rfl <| .ld gt27 0 rfl rfl rfl <| .xx (ys_call call129 (.cons (.t rfl) .nil) (fun hp w W => c129 _ _)) rfl <| .z) fun a w S => ?_)))))
      rw [rw_p] at S
      refine run S (.nt rfl <| .mv rfl <| .gy rfl rfl (ys_fieldN (FieldT.mk underlying60 rfl sizeOf3 rfl) (.t rfl) (i' := 5) rfl) <| .gy rfl rfl (ys_ld ⟨isAgg3, sizeOf3⟩ (.t rfl) (k := 0) rfl rfl) <| .gy rfl rfl (ys_eql (.t rfl) Ev.c) <| .gy rfl rfl (ys_move (.t rfl)) <| .z) fun a w S => st_yg S rfl rfl (Yr.ys (ys_fieldN (FieldT.mk underlying60 rfl sizeOf27 rfl) (.t rfl) (i' := 6) rfl)) rfl fun a w S => st_yg S rfl rfl (Yr.ys (ys_ld ⟨isAgg27, sizeOf27⟩ (Ev.g rfl) (k := 0) rfl rfl)) rfl fun a w S => st_yg S rfl rfl (Yr.ys (ys_neq (Ev.g rfl) Ev.c)) rfl fun a w S => run S (.gy rfl rfl (ys_and2 (.t rfl) (Ev.g rfl) Ev.c) <| .z) fun a w S => ?_
      rw [rw_z] at S
      refine run S (.yy (ys_pickF (.t rfl) (.t rfl)) rfl <| .as rfl <| .z) fun a w S => st_nil (then_normal (hK2 _ _ (st_else S (.t rfl) (wp_skip (in_normal (then_normal (hK1 _ _ (wp_seq_k fun _ hK1 => wp_seq_k fun _ hK2 => wp_region_lit (run S (.fa underlying60 sizeOf39 7 rfl rfl rfl <| .la gt39 0 rfl rfl rfl <| .xx (ys_call call66 (.cons (.t rfl) .nil) (fun hp w W => c66 _ _ _ _ _ (by exact .old W (by assumption)) (by exact .old W (by assumption)))) rfl <| .z) fun a w S => ?_)))))))))
      rw [rw_e] at S
      refine run S (.as rfl <| .z) fun a w S => st_nil (then_normal (hK2 _ _ (sg S (.mv rfl <| .yy (ys_F (by omega) (ys_neq (.t rfl) Ev.c)) rfl <| .z) fun a w S => st_else S (.t rfl) (wp_skip (then_normal (hK1 _ _ (wp_seq_k fun _ hK1 => wp_seq_k fun _ hK2 => wp_region_lit (run S (.fa underlying60 sizeOf58 1 rfl rfl rfl <| .la gt58 0 rfl rfl rfl <| .xx (ys_call call149 (.cons (.t rfl) .nil) (fun hp w W => c149 _ _ _ _)) rfl <| .z) fun a w S => ?_))))))))
      rw [rw_d] at S
      refine run S (.nt rfl <| .mv rfl <| .gy rfl rfl (ys_fieldN (FieldT.mk underlying60 rfl sizeOf39 rfl) (.t rfl) (i' := 7) rfl) <| .gy rfl rfl (ys_fieldN (FieldT.mk underlying39 rfl sizeOf37 rfl) (.t rfl) (i' := 8) rfl) <| .gy rfl rfl (ys_ldA ⟨isAgg37, sizeOf37⟩ (.t rfl) (k := 0) rfl rfl) <| .gy rfl rfl (ys_fieldN (FieldT.mk underlying60 rfl sizeOf58 rfl) (.t rfl) (i' := 1) rfl) <| .gy rfl rfl (ys_ldA ⟨isAgg58, sizeOf58⟩ (.t rfl) (k := 0) rfl rfl) <| .gx rfl rfl (ys_call call37 (.cons (.t rfl) (.cons (.t rfl) .nil)) (fun hp w W => c37 _ _ _ _ _ _ _ (by exact .old W (by assumption)))) <| .z) fun a w S => ?_
      rw [rw_cov] at S
      rw [rw_c] at S
      refine run S (.yy (ys_pickF (.t rfl) (.t rfl)) rfl <| .z) fun a w S => st_nil (then_normal (hK2 _ _ (st_else S (.t rfl) (wp_skip (then_normal (hK1 _ _ (sg S (.ac rfl <| .z) fun a w S => wp_ret (st_ret S (results1 S results85 (Rv.tmp rfl)) ?_))))))))
      exact ⟨by rw [if_neg (by simp)], S.wd.below⟩
end Go.Proofs.YtfblmkocmnbdcaaGreat
set_option linter.unusedVariables false
set_option linter.unusedSimpArgs false
set_option maxRecDepth 100000
namespace Go.Proofs.YtfblmkocmnbdcaaGreat
open Go.Fw Go.Proofs Go.RowKit Go.ChangeShapes Go.WideShapes Go.ChangeAt Go.Deep Go.Joins Go.Proofs.Tryz
section
variable {H : Type} {enc : TypeId × Value → H} {w : World}
theorem Rdr.dot {t : TypeId} {i1 i2 i3 : TypeId} {k : IntKind} {f1 f2 f3 : Field} (ht : Tryz.prog.underlying t = some (.struct #[f1, f2, f3])) (ho : offs Tryz.prog [f1, f2, f3] 0 (Tryz.prog.cellsOf t) = true) (h1 : Tryz.prog.underlying f1.type = some (.int .i64)) (h2 : Tryz.prog.underlying f2.type = some (.int .i64)) (h3 : Tryz.prog.underlying f3.type = some (.int .i64)) :
    Rdr enc Tryz.prog w t fun cs _ => ∃ d : Dot, cs = Dot.enc d ∧ True := by
  refine (Rdr.struct ht ho (.cons (Rdr.int h1) (.cons (Rdr.int h2) (.cons (Rdr.int h3) .nil)))).mono ?_
  rintro cs b ⟨_, _, rfl, ⟨_, _, x, rfl, _⟩, _, _, rfl, ⟨_, _, y, rfl, _⟩, _, _, rfl, ⟨_, _, z, rfl, _⟩, rfl⟩
  exact ⟨⟨x, y, z⟩, rfl, trivial⟩
theorem u64_wf {n : Int} (h : (Lit.int .u64 n).wf = true) : ∃ p : UInt64, n = (p.toNat : Int) := by
  simp only [Lit.wf, IntKind.min, IntKind.max, IntKind.signed, IntKind.bits, Bool.and_eq_true, decide_eq_true_eq, Bool.false_eq_true, if_false] at h
  have h2 : n.toNat < 18446744073709551616 := by omega
  refine ⟨UInt64.ofNat n.toNat, ?_⟩
  rw [UInt64.toNat_ofNat', Nat.mod_eq_of_lt h2]
  omega
end
end Go.Proofs.YtfblmkocmnbdcaaGreat
set_option linter.unusedVariables false
set_option linter.unusedSimpArgs false
namespace Go.Fw
open Go.RowKit
def SlIn {α : Type} (enc : α → List Value) (size : Nat) (w1 : World) (bs : List Nat) (v : Value) (l : List α) : Prop :=
  ∃ A cap, v = .slice A l.length cap ∧ l.length ≤ cap ∧ cap ≤ 9223372036854775807 ∧ (0 < l.length → ∃ g o, A = some ⟨g, o, none⟩ ∧ g ∈ bs ∧ ∀ k x, l[k]? = some x → ∀ j u, (enc x)[j]? = some u → w1.cell? ⟨g, o + k * size + j, none⟩ = some u)
def Chunk.blocks : Chunk → List Nat
  | .blk b _ => [b]
  | .row _ _ A _ cap _ => if cap = 0 then [] else (A.map (·.block)).toList
  | .ice _ bs => bs
theorem Chunk.mem_blocks {c : Chunk} {b : Nat} : b ∈ c.blocks ↔ c.own b := by
  cases c with
  | blk b' o => simp [Chunk.blocks, Chunk.own]
  | row e size A n cap xs =>
    unfold Chunk.blocks Chunk.own
    by_cases h : cap = 0
    · simp [h]
    · simp [h]
  | ice w1 bs => rfl
section
variable {w0 w w1 : World} {L cs : List Chunk} {k e size : Nat} {bs bs' : List Nat}
theorem Wd.freeze (h : Wd w0 (cs ++ L) w) : Wd w0 (.ice w (cs.flatMap Chunk.blocks) :: L) w := by
  obtain ⟨h1, h2, h3⟩ := h
  rw [List.pairwise_append] at h3
  have key : ∀ b ∈ cs.flatMap Chunk.blocks, ∃ c ∈ cs, c.own b := fun b hb => by
    obtain ⟨c, hc, hb⟩ := List.mem_flatMap.1 hb
    exact ⟨c, hc, Chunk.mem_blocks.1 hb⟩
  refine ⟨h1, fun x hx => ?_, List.Pairwise.cons (fun x hx b hb hxb => ?_) h3.2.1⟩
  · rcases List.mem_cons.1 hx with rfl | hx
    · intro b hb
      obtain ⟨c, hc, hb⟩ := key b hb
      have := (h2 c (List.mem_append_left _ hc)).lt hb
      exact ⟨this.1, this.2, rfl⟩
    · exact h2 x (List.mem_append_right _ hx)
  · obtain ⟨c, hc, hb⟩ := key b hb
    exact h3.2.2 c hc x hx b hb hxb
variable {α : Type} {enc : α → List Value} {v : Value} {l : List α}
theorem ice_cell (W : Wd w0 L w) (hk : L[k]? = some (.ice w1 bs)) {g o : Nat} (hg : g ∈ bs) : w.cell? ⟨g, o, none⟩ = w1.cell? ⟨g, o, none⟩ := by
  have h := (W.get hk g hg).2.2
  simp only [World.cell?, h]
theorem SlIn.sl (h : SlIn enc size w1 bs v l) (W : Wd w0 L w) (hk : L[k]? = some (.ice w1 bs)) : Sl enc size w w.heap.size v l := by
  obtain ⟨A, cap, rfl, h1, h2, h3⟩ := h
  refine ⟨A, cap, rfl, h1, h2, fun hp => ?_⟩
  obtain ⟨g, o, rfl, hg, hc⟩ := h3 hp
  exact ⟨g, o, rfl, (W.get hk g hg).2.1, fun k x hx j u hu => (ice_cell W hk hg).trans (hc k x hx j u hu)⟩
theorem SlIn.anew (h : SlIn enc size w1 bs v l) (W : Wd w0 L w) (hk : L[k]? = some (.ice w1 bs)) (hb : ∀ b ∈ bs, b ∈ bs') : SlIn enc size w bs' v l := by
  obtain ⟨A, cap, rfl, h1, h2, h3⟩ := h
  refine ⟨A, cap, rfl, h1, h2, fun hp => ?_⟩
  obtain ⟨g, o, rfl, hg, hc⟩ := h3 hp
  exact ⟨g, o, rfl, hb g hg, fun k x hx j u hu => (ice_cell W hk hg).trans (hc k x hx j u hu)⟩
theorem SlIn.row {A : Option Addr} {cap : Nat} (W : Wd w0 L w) (hk : L[k]? = some (rowOf e size enc A cap l)) (he : ∀ x, (enc x).length = size) (hb : ∀ b ∈ Chunk.blocks (rowOf e size enc A cap l), b ∈ bs') : SlIn enc size w bs' (.slice A l.length cap) l := by
  obtain ⟨A', cap', hv, h1, h2, h3⟩ := Sl.of_own W hk he
  cases hv
  refine ⟨A, cap, rfl, h1, h2, fun hp => ?_⟩
  obtain ⟨g, o, rfl, hg, hc⟩ := h3 hp
  exact ⟨g, o, rfl, hb g (by simp [Chunk.blocks, rowOf, show cap ≠ 0 by omega]), hc⟩
theorem SlIn.nil_ {c : Nat} : SlIn enc size w1 bs (.slice none 0 0) [] := ⟨none, 0, rfl, by simp, by simp, fun h => by simp at h⟩
end
structure Sls3 where
  a1 : Option Addr
  n1 : Nat
  c1 : Nat
  a2 : Option Addr
  n2 : Nat
  c2 : Nat
  a3 : Option Addr
  n3 : Nat
  c3 : Nat
abbrev SCart := Cart × Sls3
abbrev SUpd := Upd × Sls3
abbrev SCart.enc (p : SCart) : List Value := [.slice p.2.a1 p.2.n1 p.2.c1, .slice p.2.a2 p.2.n2 p.2.c2, .slice p.2.a3 p.2.n3 p.2.c3]
theorem SCart.enc_len (p : SCart) : (SCart.enc p).length = 3 := rfl
theorem SCart.enc_one (p : SCart) : ∀ u ∈ SCart.enc p, u.oneCell' = true := fun u hu => by simp [SCart.enc] at hu; rcases hu with rfl | rfl | rfl <;> rfl
abbrev SUpd.enc (p : SUpd) : List Value := Upd.enc p.1 (.slice p.2.a1 p.2.n1 p.2.c1) (.slice p.2.a2 p.2.n2 p.2.c2) (.slice p.2.a3 p.2.n3 p.2.c3)
theorem SUpd.enc_len (p : SUpd) : (SUpd.enc p).length = 10 := rfl
theorem SUpd.enc_one (p : SUpd) : ∀ u ∈ SUpd.enc p, u.oneCell' = true := fun u hu => by simp [SUpd.enc, Upd.enc] at hu; rcases hu with rfl | rfl | rfl | rfl | rfl | rfl | rfl | rfl | rfl | rfl <;> rfl
structure CartIn (w1 : World) (bs : List Nat) (X : Cart) (s : Sls3) : Prop where
  ents : SlIn Ent.enc 6 w1 bs (.slice s.a1 s.n1 s.c1) X.ents
  marks : SlIn Dot.enc 3 w1 bs (.slice s.a2 s.n2 s.c2) X.ctx.marks
  cloud : SlIn Dot.enc 3 w1 bs (.slice s.a3 s.n3 s.c3) X.ctx.cloud
structure CartRd (w : World) (X : Cart) (s : Sls3) : Prop where
  ents : Sl Ent.enc 6 w w.heap.size (.slice s.a1 s.n1 s.c1) X.ents
  marks : Sl Dot.enc 3 w w.heap.size (.slice s.a2 s.n2 s.c2) X.ctx.marks
  cloud : Sl Dot.enc 3 w w.heap.size (.slice s.a3 s.n3 s.c3) X.ctx.cloud
section
variable {w0 w w1 : World} {L : List Chunk} {k : Nat} {bs bs' : List Nat} {X : Cart} {s : Sls3}
theorem CartIn.rd (h : CartIn w1 bs X s) (W : Wd w0 L w) (hk : L[k]? = some (.ice w1 bs)) : CartRd w X s := ⟨h.ents.sl W hk, h.marks.sl W hk, h.cloud.sl W hk⟩
theorem CartIn.anew (h : CartIn w1 bs X s) (W : Wd w0 L w) (hk : L[k]? = some (.ice w1 bs)) (hb : ∀ b ∈ bs, b ∈ bs') : CartIn w bs' X s := ⟨h.ents.anew W hk hb, h.marks.anew W hk hb, h.cloud.anew W hk hb⟩
theorem CartRd.ctx (h : CartRd w X s) : RdCtx w w.heap.size (.slice s.a2 s.n2 s.c2) (.slice s.a3 s.n3 s.c3) X.ctx := ⟨h.marks, h.cloud⟩
theorem carts_rd {l : List SCart} (h : ∀ p ∈ l, CartIn w1 bs p.1 p.2) (W : Wd w0 L w) (hk : L[k]? = some (.ice w1 bs)) : ∀ p ∈ l, CartRd w p.1 p.2 := fun p hp => (h p hp).rd W hk
end
end Go.Fw
set_option linter.unusedVariables false
set_option linter.unusedSimpArgs false
namespace Go.Fw
open Go.RowKit Go.Sort Go.Proofs
abbrev MEnt := {e : Ent // mayD e.dot = true}
instance : Inhabited MEnt := ⟨⟨⟨[], ⟨0, 1, 1⟩, 0, 0⟩, rfl⟩⟩
abbrev MEnt.enc (e : MEnt) : List Value := Ent.enc e.1
theorem not_ltE {a b : Ent} : ¬ ltE a b ↔ ltE b a ∨ (a.item = b.item ∧ a.dot = b.dot) := by
  constructor
  · intro h
    by_cases e : a.item = b.item
    · by_cases ed : a.dot = b.dot
      · exact .inr ⟨e, ed⟩
      · exact .inl ((ltE_total ed).resolve_left h)
    · rcases less_total e with h1 | h1
      · exact absurd (.inl h1) h
      · exact .inl (.inl h1)
  · rintro (h | ⟨h1, h2⟩) h'
    · exact ltE_asymm h h'
    · rcases h' with h' | ⟨_, h'⟩
      · rw [h1, less_irr] at h'; cases h'
      · rw [h2] at h'; exact ltC_irr _ h'
theorem swoE : SWO (ltOf fun x y : MEnt => ordE x.1 y.1) where
  irrefl x := by
    simp only [ltOf, decide_eq_false_iff_not, ordE_iff]
    exact ltE_irr _
  trans x y z h1 h2 := by
    simp only [ltOf, decide_eq_true_eq, ordE_iff] at *
    exact ltE_trans h1 h2
  ntrans x y z h1 h2 := by
    simp only [ltOf, decide_eq_false_iff_not, ordE_iff] at *
    rcases not_ltE.1 h1 with a | ⟨a1, a2⟩
    · rcases not_ltE.1 h2 with b | ⟨b1, b2⟩
      · exact fun h => ltE_asymm h (ltE_trans b a)
      · intro h
        refine ltE_irr x.1 (ltE_trans h ?_)
        rcases a with a | ⟨a1, a2⟩
        · exact .inl (b1 ▸ a)
        · exact .inr ⟨b1 ▸ a1, b2 ▸ a2⟩
    · intro h
      refine h2 ?_
      rcases h with h | ⟨e1, e2⟩
      · exact .inl (a1 ▸ h)
      · exact .inr ⟨a1 ▸ e1, a2 ▸ e2⟩
theorem encE_map (ls : List MEnt) : ls.flatMap MEnt.enc = (ls.map (·.1)).flatMap Ent.enc := by
  induction ls with
  | nil => rfl
  | cons x r ih => simp only [List.flatMap_cons, List.map_cons, ih]
theorem sortE {l l' r : List Ent} (hp : l'.Perm l) (hs : l'.Pairwise fun a b => ¬ ordE b a < 0) (hd : (l.map (·.dot)).Nodup) (hr : r.Pairwise ltE) (hm : ∀ x, x ∈ r ↔ x ∈ l) : l' = r := by
  have hd' : (l'.map (·.dot)).Nodup := (hp.map _).nodup_iff.2 hd
  refine sorted_uniq ?_ hr fun x => by rw [hp.mem_iff, hm]
  have h2 : l'.Pairwise fun a b => a.dot ≠ b.dot := by rw [List.Nodup, List.pairwise_map] at hd'; exact hd'
  refine (hs.and h2).imp fun ⟨h1, h3⟩ => ?_
  rw [ordE_iff] at h1
  rcases not_ltE.1 h1 with h | ⟨_, h⟩
  · exact h
  · exact absurd h.symm h3
end Go.Fw
set_option linter.unusedVariables false
set_option linter.unusedSimpArgs false
namespace Go.Ft
open Go.RowKit
abbrev bs (l : List UInt8) : ByteArray := ⟨l.toArray⟩
section ops
variable {P : Program} {n : Nat} {w0 : World} {K : KL} {L : List Chunk} {b : Bool} {dst : Option Tmp} {ty : TypeId} {pos : String} {aft : Array Edge} {gd : Option (Nat × Bool)}
end ops
section
variable {P : Program} {n : Nat} {w0 : World} {K : KL} {L : List Chunk} {ty : TypeId} {pos : String} {aft : Array Edge} {gd : Option (Nat × Bool)} {a : Act} {w : World} {Z : Act → World → Prop} {Q : Exit → Act → World → Prop} {d : Nat}
end
section
variable {P : Program} {n : Nat} {w0 : World} {K : KL} {L : List Chunk} {ty : TypeId} {pos : String} {aft : Array Edge} {gd : Option (Nat × Bool)} {a : Act} {w : World} {Z : Act → World → Prop} {Q : Exit → Act → World → Prop} {d : Nat}
end
section
variable {P : Program} {n : Nat} {w0 : World} {K : KL} {L : List Chunk} {ty : TypeId} {pos : String} {aft : Array Edge} {gd : Option (Nat × Bool)} {a : Act} {w : World} {Z : Act → World → Prop} {Q : Exit → Act → World → Prop} {d : Nat}
end
section
variable {P : Program} {Q : Exit → Act → World → Prop} {J : Act → World → Prop} {l i : Nat} {a : Act} {w : World}
theorem st_rounds {c : Code} (n : Nat) (h : Code.rounds P c Q n a w) : (Code.loop c).wp P Q a w := wp_loop_rounds n h
theorem st_round {c : Code} {n : Nat} (h : c.wp P (Exit.then (fun a w => Code.rounds P c Q n a w) Q) a w) : Code.rounds P c Q (n + 1) a w := h
end
section ops
variable {P : Program} {n : Nat} {w0 : World} {K : KL} {L : List Chunk} {b : Bool} {dst : Option Tmp} {ty : TypeId} {pos : String} {aft : Array Edge} {gd : Option (Nat × Bool)}
end ops
end Go.Ft
set_option linter.unusedVariables false
set_option linter.unusedSimpArgs false
namespace Go.Ft
open Go.RowKit
theorem flat_len {α : Type} {enc : α → List Value} {size : Nat} (he : ∀ x, (enc x).length = size) (l : List α) : (l.flatMap enc).length = l.length * size := by
  induction l with
  | nil => simp
  | cons x r ih => simp [he, ih, Nat.add_mul, Nat.add_comm]
theorem flat_get {α : Type} {enc : α → List Value} {size : Nat} (he : ∀ x, (enc x).length = size) (hs : 0 < size) : ∀ (l : List α) (j : Nat) (x : α), l[j / size]? = some x → (l.flatMap enc)[j]? = (enc x)[j % size]?
  | [], j, x, h => by simp at h
  | y :: r, j, x, h => by
    rw [List.flatMap_cons, List.getElem?_append, he]
    split
    · rename_i hlt
      rw [Nat.div_eq_of_lt hlt] at h
      simp at h
      subst h
      rw [Nat.mod_eq_of_lt hlt]
    · rename_i hge
      have hge' : size ≤ j := by omega
      rw [show j / size = (j - size) / size + 1 from Nat.div_eq_sub_div hs hge'] at h
      rw [Nat.mod_eq_sub_mod hge']
      exact flat_get he hs r (j - size) x (by simpa using h)
section
variable {w0 w w' : World} {L : List Chunk}
end
end Go.Ft
set_option linter.unusedVariables false
set_option linter.unusedSimpArgs false
namespace Go.Ft
open Go.RowKit
section ops
variable {P : Program} {n : Nat} {w0 : World} {K : KL} {L : List Chunk} {b : Bool} {dst : Option Tmp} {ty : TypeId} {pos : String} {aft : Array Edge} {gd : Option (Nat × Bool)}
end ops
section
variable {n : Nat} {w0 : World} {K : KL} {L : List Chunk} {a : Act} {w : World} {c : Chunk}
end
theorem Wd.cell {w0 w : World} {L : List Chunk} (W : Wd w0 L w) {k g i : Nat} {cs : List Value} {e : TypeId} {fr : Nat × Nat} {v : Value} (hk : L[k]? = some (.blk g (.cells cs.toArray e fr))) (hc : nth cs i = some v) : w.cell? ⟨g, i, none⟩ = some v := by
  rw [cell_of_row w g i _ e fr (W.get hk).2]
  rw [nth_eq] at hc
  simpa using hc
section split
variable {P : Program} {Q : Exit → Act → World → Prop} {n : Nat} {w0 : World} {K : KL} {L Lr : List Chunk} {a : Act} {w : World} {ops : Array Oper} {fuel : Nat} {listed : Array Bool} {md : Region.Mode}
end split
def zrep (len : Nat) (z : Value) : List Value := (List.replicate len ()).flatMap fun _ => z.cells.toList
theorem zrep_eq {z : Value} {sz : Nat} (len : Nat) (hz : z.cells.size = sz) : (Array.range (len * sz)).map (fun i => (if len * sz = 0 then #[] else z.cells)[i % (if len * sz = 0 then (#[] : Array Value) else z.cells).size]!) = (zrep len z).toArray := by
  have hl : (zrep len z).length = len * sz := by
    unfold zrep
    rw [flat_len (size := sz) (fun _ => by simpa using hz)]; simp
  apply Array.ext
  · simp [hl]
  · intro i h1 h2
    have hi : i < len * sz := by simpa using h1
    have hs : 0 < sz := by rcases Nat.eq_zero_or_pos sz with h | h; rw [h] at hi; simp at hi; exact h
    have hx : (List.replicate len ())[i / sz]? = some () := by
      rw [List.getElem?_replicate, if_pos ((Nat.div_lt_iff_lt_mul hs).2 hi)]
    have h3 := flat_get (enc := fun (_ : Unit) => z.cells.toList) (size := sz) (fun _ => by simpa using hz) hs (List.replicate len ()) i () hx
    have h4 : i % sz < z.cells.size := by rw [hz]; exact Nat.mod_lt _ hs
    rw [Array.getElem_map, Array.getElem_range, if_neg (by omega), hz, getElem!_pos z.cells _ h4]
    have h5 : (zrep len z)[i]? = some z.cells[i % sz] := by
      unfold zrep
      rw [h3, Array.getElem?_toList, Array.getElem?_eq_getElem h4]
    rw [List.getElem_toArray]
    exact (Option.some.inj ((List.getElem?_eq_getElem (by rw [hl]; exact hi)).symm.trans h5)).symm
section
variable {P : Program} {n : Nat} {w0 : World} {K : KL} {L : List Chunk} {ty : TypeId} {pos : String} {aft : Array Edge} {gd : Option (Nat × Bool)} {a : Act} {w : World} {Z : Act → World → Prop} {Q : Exit → Act → World → Prop} {d : Nat}
theorem op_bsliceZ {t e sz len : Nat} {z : Value} {ps : List (Nat × Operand)} {vs us : List Value} (S : St n w0 K L a w) (ht : P.underlying t = some (.slice e)) (hsz : ∀ w, (sizeOf e).run P w = .ok sz w) (hz : ∀ w, (zeroValue e).run P w = .ok z w)
    (hzc : z.cells.size = sz) (hmax : Nat.ble (len * sz) 16777216 = true) (hx : EvL n true K (ps.map (·.2)) vs) (hr : fillL (fun i => some (i * sz, sz)) (zrep len z) ((ps.map (·.1)).zip vs) = some us) (hd : Nat.blt d n = true)
    (next : ∀ g a w, St n w0 ((d, true, .slice (some ⟨g, 0, none⟩) len len) :: K) (.blk g (.cells us.toArray e) :: L) a w → Z a w) :
    Oper.wp P ⟨some d, .buildSlice t len ps.toArray, ty, pos, aft, gd⟩ a w Z Q := op_bslice (zrep len z) S ht hsz hz (zrep_eq len hzc) hmax hx hr hd next
end
end Go.Ft
set_option linter.unusedVariables false
set_option linter.unusedSimpArgs false
namespace Go.Ft
open Go.Proofs Go.RowKit
section
variable {P : Program} {n : Nat} {w0 : World} {K : KL} {L : List Chunk} {ty : TypeId} {pos : String} {aft : Array Edge} {gd : Option (Nat × Bool)} {a : Act} {w : World} {Z : Act → World → Prop} {Q : Exit → Act → World → Prop} {d : Nat} {dst : Option Tmp} {b : Bool}
variable {K' : Act → World → Prop} {i : Nat} {ps : List PanicEntry}
end
section
variable {P : Program} {f : FuncId} {fn : Func} {c : Code} {R : Ending → World → Prop} {w0 w : World} {L : List Chunk} {v0 v1 v2 v3 v4 v5 v6 v7 v8 : Value}
end
theorem Sl.sub {w : World} {α : Type} {enc : α → List Value} {size B : Nat} {A : Option Addr} {l : List α} {cap : Nat} (h : Sl enc size w B (.slice A l.length cap) l) (lo hi : Nat) (hlo : lo ≤ hi) (hhi : hi ≤ l.length) :
    Sl enc size w B (.slice (if cap = lo then A else A.map (·.add (lo * size))) (hi - lo) (cap - lo)) ((l.drop lo).take (hi - lo)) := by
  obtain ⟨A', cap', hv, h2, h3, h4⟩ := h
  simp only [Value.slice.injEq, true_and] at hv
  obtain ⟨rfl, rfl⟩ := hv
  have hl : ((l.drop lo).take (hi - lo)).length = hi - lo := by simp; omega
  refine ⟨if cap = lo then A else A.map (·.add (lo * size)), cap - lo, by rw [hl], by rw [hl]; omega, by omega, fun hp => ?_⟩
  rw [hl] at hp
  obtain ⟨g, o, rfl, hg, hc⟩ := h4 (by omega)
  rw [if_neg (by omega)]
  refine ⟨g, o + lo * size, by simp [Addr.add_mid], hg, fun k x hx j u hu => ?_⟩
  rw [List.getElem?_take] at hx
  split at hx
  · rw [List.getElem?_drop] at hx
    have := hc _ x hx j u hu
    rw [Nat.add_mul] at this
    rw [show o + lo * size + k * size + j = o + (lo * size + k * size) + j by omega]
    exact this
  · cases hx
theorem Src.subS {P : Program} {w : World} {α : Type} {enc : α → List Value} {size B : Nat} {A : Option Addr} {l : List α} {cap lo hi c : Nat} (h : Sl enc size w B (.slice A l.length cap) l) (hsz : 0 < size) (he : ∀ x, (enc x).length = size) (h1 : ∀ x, ∀ u ∈ enc x, u.oneCell' = true) (hlo : lo ≤ hi) (hhi : hi ≤ l.length) :
    Src P w size (.slice (if cap = lo then A else A.map (·.add (lo * size))) (hi - lo) c) ((l.drop lo).take (hi - lo)).length (((l.drop lo).take (hi - lo)).flatMap enc) := by
  have hl : ((l.drop lo).take (hi - lo)).length = hi - lo := by simp; omega
  have h' : Sl enc size w B (.slice (if cap = lo then A else A.map (·.add (lo * size))) ((l.drop lo).take (hi - lo)).length (cap - lo)) ((l.drop lo).take (hi - lo)) := by rw [hl]; exact h.sub lo hi hlo hhi
  have := Src.sl (P := P) (c := c) h' hsz he h1
  rw [hl] at this
  rw [hl]
  exact this
theorem Src.sub {P : Program} {α : Type} {enc : α → List Value} {size e cap k lo hi c : Nat} {w w0 : World} {L : List Chunk} {A : Option Addr} {l : List α} (W : Wd w0 L w) (hk : L[k]? = some (rowOf e size enc A cap l)) (hsz : 0 < size) (he : ∀ x, (enc x).length = size) (h1 : ∀ x, ∀ u ∈ enc x, u.oneCell' = true) (hlo : lo ≤ hi) (hhi : hi ≤ l.length) :
    Src P w size (.slice (if cap = lo then A else A.map (·.add (lo * size))) (hi - lo) c) ((l.drop lo).take (hi - lo)).length (((l.drop lo).take (hi - lo)).flatMap enc) :=
  Src.subS (Sl.of_own W hk he) hsz he h1 hlo hhi
end Go.Ft
set_option linter.unusedVariables false
set_option linter.unusedSimpArgs false
namespace Go.Ft
open Go.RowKit
def cmpB (a b : List UInt8) : Int := if Op.bytesLess a b then -1 else if a = b then 0 else 1
end Go.Ft
set_option linter.unusedVariables false
set_option linter.unusedSimpArgs false
namespace Go.Ft
open Go.Proofs Go.RowKit Go.ChangeMaps
section
variable {P : Program} {n : Nat} {w0 : World} {K : KL} {L : List Chunk} {b : Bool} {dst : Option Tmp} {ty : TypeId} {pos : String} {aft : Array Edge} {gd : Option (Nat × Bool)}
theorem ys_extern {f : FuncId} {fn : Func} {F : Array Value → Sem Value} {xs : List Operand} {ts : Array TypeId} {vs : List Value} {v : Value} (hf : P.funcs[f]? = some fn) (hname : (fn.name == "runtime.NumGoroutine") = false)
    (hb : fn.body.isNone = true) (hn : Extern.findNext fn = none) (he : Extern.find fn = some F) (hx : EvL n b K xs vs) (hr : ∀ w, (F vs.toArray).run P w = .ok v w) :
    Yr P ⟨dst, .call ⟨.value (.func f), xs.toArray, ts⟩, ty, pos, aft, gd⟩ n K w0 L b v := fun a w hbt hkn hw => by
  have h := run_callFunc_extern hf hname hb hn he vs.toArray w
  rw [hr] at h
  have e : (xs.toArray.map a.eval) = vs.toArray := by rw [List.map_toArray, hx a hbt hkn]
  simp only [execOp, resolve, e]
  simp [Act.eval, Deferred.ofValue, invoke, h]
section
variable {t t' : TypeId} {x y : Operand} {k : FloatKind} {p q : Nat} (hx : Ev n b K x (.float k p)) (hy : Ev n b K y (.float k q))
include hx hy
end
end
theorem cmpL_eq : ∀ (l m : List UInt8), Lib.compareBytes l m = if Op.bytesLess l m = true then -1 else if l = m then 0 else 1 := by
  intro l
  induction l with
  | nil =>
    intro m
    cases m with
    | nil => simp [Lib.compareBytes, Op.bytesLess]
    | cons y r => simp [Lib.compareBytes, Op.bytesLess]
  | cons x l ih =>
    intro m
    cases m with
    | nil => simp [Lib.compareBytes, Op.bytesLess]
    | cons y r =>
      have h := ih r
      simp only [Lib.compareBytes, Op.bytesLess, List.cons.injEq]
      by_cases e : x = y
      · subst e
        simp [UInt8.lt_irrefl, h]
      · rcases UInt8.lt_or_lt_of_ne e with c | c
        · simp [c]
        · have h1 : ¬ x < y := UInt8.lt_asymm c
          simp [h1, e, c]
end Go.Ft
set_option linter.unusedVariables false
set_option linter.unusedSimpArgs false
namespace Go.Ft
open Go.RowKit
def ltM (a b : Dot) : Prop := a.node < b.node ∨ (a.node = b.node ∧ a.life < b.life)
def ltC (a b : Dot) : Prop := a.node < b.node ∨ (a.node = b.node ∧ (a.life < b.life ∨ (a.life = b.life ∧ a.count < b.count)))
theorem belowC_iff (a b : Dot) : belowD a b = true ↔ ltC a b := by
  simp only [belowD, ltC]
  split
  · simp; omega
  · split <;> simp <;> omega
structure Nf (C : Ctx) : Prop where
  marks : C.marks.Pairwise ltM
  cloud : C.cloud.Pairwise ltC
  mayM : ∀ x ∈ C.marks, mayD x = true
  mayC : ∀ x ∈ C.cloud, mayD x = true
  gap : ∀ x ∈ C.cloud, markOf C.marks x.node x.life + 1 < x.count
end Go.Ft
set_option linter.unusedVariables false
set_option linter.unusedSimpArgs false
namespace Go.Ft
open Go.RowKit
structure Ent where
  item : List UInt8
  dot : Dot
  qty : Int
  price : UInt64
deriving DecidableEq
abbrev Ent.enc (e : Ent) : List Value := [.string (bs e.item), .int .i64 e.dot.node, .int .i64 e.dot.life, .int .i64 e.dot.count, .int .i64 e.qty, .int .u64 (e.price.toNat : Int)]
structure Cart where
  ents : List Ent
  ctx : Ctx
deriving DecidableEq
abbrev Cart.zero : Cart := ⟨[], ⟨[], []⟩⟩
structure Line where
  item : List UInt8
  qty : Int
  price : UInt64
deriving DecidableEq
abbrev Line.enc (e : Line) : List Value := [.string (bs e.item), .int .i64 e.qty, .int .u64 (e.price.toNat : Int)]
def ltE (a b : Ent) : Prop := Op.bytesLess a.item b.item = true ∨ (a.item = b.item ∧ ltC a.dot b.dot)
instance (a b : Ent) : Decidable (ltE a b) := decidable_of_iff (Op.bytesLess a.item b.item = true ∨ (a.item = b.item ∧ belowD a.dot b.dot = true)) (by rw [belowC_iff]; rfl)
def ordE (a b : Ent) : Int := if Op.bytesLess a.item b.item then -1 else if a.item = b.item then orderD a.dot b.dot else 1
def clashE (a b : Cart) : Prop := ∃ x ∈ a.ents, ∃ y ∈ b.ents, x.dot = y.dot ∧ x ≠ y
instance (a b : Cart) : Decidable (clashE a b) := by unfold clashE; infer_instance
end Go.Ft
set_option linter.unusedVariables false
set_option linter.unusedSimpArgs false
set_option maxRecDepth 100000
set_option maxHeartbeats 4000000
namespace Go.Proofs.YtfblmkocmnbdcaaGreat.Tk
open Go.Ft Go.Proofs Go.RowKit
section
variable {n : Nat} {w0 : World} {K : KL} {L : List Chunk} {b : Bool} {dst : Option Tmp} {ty : TypeId} {pos : String} {aft : Array Edge} {gd : Option (Nat × Bool)} {ts : Array TypeId}
theorem y206 {x y : Operand} {l m : List UInt8} (hx : Ev n b K x (.string (bs l))) (hy : Ev n b K y (.string (bs m))) : Yr Tryz.prog ⟨dst, .call ⟨.value (.func 206), #[x, y], ts⟩, ty, pos, aft, gd⟩ n K w0 L b (.int .i64 (cmpB l m)) :=
  ys_extern (F := Extern.BytealgCompare.compare) Tryz.func206 (by kernel_rfl) (by kernel_rfl) (by kernel_rfl) (by kernel_rfl) (EvL.cons hx (EvL.cons hy EvL.nil)) (fun w => by
    have h := Lib.run_compareString (P := Tryz.prog) (bs l) (bs m) w
    rw [cmpL_eq] at h
    exact h)
end
theorem c187 (w0 : World) (l m : List UInt8) : Calls Tryz.prog 187 #[.string (bs l), .string (bs m)] w0 fun e w' => e = .returned (.int .i64 (cmpB l m)) ∧ Bel w0.heap.size w0 w' := by
  refine enter2 Tryz.func187 rfl Tryz.ntmps187 rfl fun a S => ?_
  refine wp_seq_k fun _ hK1 => ?_
  refine wp_region_lit ?_
  (refine st_y S (Yr.ys (ys_assign Ev.c)) rfl ?_; clear S a; intro a w S)
  refine st_nil ?_
  (refine (then_normal (hK1 _ _ ?_)); clear hK1)
  refine wp_seq_k fun _ hK1 => ?_
  refine wp_region_lit ?_
  (refine st_y S (Yr.ys (ys_move (Ev.t rfl))) rfl ?_; clear S a w; intro a w S)
  (refine st_y S (Yr.ys (ys_move (Ev.t rfl))) rfl ?_; clear S a w; intro a w S)
  (refine st_y S (Yr.ys (y206 (Ev.t rfl) (Ev.t rfl))) rfl ?_; clear S a w; intro a w S)
  (refine st_y S (Yr.ys (ys_assign (Ev.t rfl))) rfl ?_; clear S a w; intro a w S)
  refine st_nil ?_
  (refine (then_normal (hK1 _ _ ?_)); clear hK1)
  refine wp_ret ?_
  refine st_ret S (results1 S Tryz.results187 (Rv.tmp rfl)) ?_
  exact ⟨rfl, S.wd.below⟩
theorem c148 (w0 : World) (l m : List UInt8) : Calls Tryz.prog 148 #[.string (bs l), .string (bs m)] w0 fun e w' => e = .returned (.int .i64 (cmpB l m)) ∧ Bel w0.heap.size w0 w' := by
  refine enter2 Tryz.func148 rfl Tryz.ntmps148 rfl fun a S => ?_
  refine wp_seq_k fun _ hK1 => ?_
  refine wp_region_lit ?_
  (refine st_y S (Yr.ys (ys_assign Ev.c)) rfl ?_; clear S a; intro a w S)
  refine st_nil ?_
  (refine (then_normal (hK1 _ _ ?_)); clear hK1)
  refine wp_seq_k fun _ hK1 => ?_
  refine wp_region_lit ?_
  (refine st_y S (Yr.ys (ys_move (Ev.t rfl))) rfl ?_; clear S a w; intro a w S)
  (refine st_y S (Yr.ys (ys_move (Ev.t rfl))) rfl ?_; clear S a w; intro a w S)
  (refine st_y S (ys_call Tryz.call187 (EvL.cons (Ev.t rfl) (EvL.cons (Ev.t rfl) EvL.nil)) (fun hp w W => c187 _ _ _)) rfl ?_; clear S a w; intro a w S)
  (refine st_y S (Yr.ys (ys_assign (Ev.t rfl))) rfl ?_; clear S a w; intro a w S)
  refine st_nil ?_
  (refine (then_normal (hK1 _ _ ?_)); clear hK1)
  refine wp_ret ?_
  refine st_ret S (results1 S Tryz.results148 (Rv.tmp rfl)) ?_
  exact ⟨rfl, S.wd.below⟩
theorem c83 (w0 : World) (a b : Ent) (ha : mayD a.dot = true) (hb : mayD b.dot = true) : Calls Tryz.prog 83 #[.agg (Ent.enc a).toArray, .agg (Ent.enc b).toArray] w0 fun e w' => e = .returned (.int .i64 (ordE a b)) ∧ Bel w0.heap.size w0 w' := by
  obtain ⟨s, ⟨d1, d2, d3⟩, q, p⟩ := a
  obtain ⟨s', ⟨e1, e2, e3⟩, q', p'⟩ := b
  have hl := may_lim ha
  have hl' := may_lim hb
  dsimp only at hl hl'
  dsimp only [Ent.enc]
  unfold ordE orderD
  dsimp only
  have hc : cmpB s s' = if Op.bytesLess s s' = true then -1 else if s = s' then 0 else 1 := rfl
  have rw_1 : (0 : Int) + 1 = ((1 : Nat) : Int) := rfl
  have rw_2 : ((1 : Nat) : Int) + 1 = ((2 : Nat) : Int) := rfl
  have rw_3 : ((2 : Nat) : Int) + 1 = ((3 : Nat) : Int) := rfl
  generalize rw_c : cmpB s s' = c at *
  by_cases hc0 : c = 0
  rotate_left
  · have e : c = if Op.bytesLess s s' = true then -1 else if s = s' then (if d1 ≠ e1 then d1 - e1 else if d2 ≠ e2 then d2 - e2 else d3 - e3) else 1 := by
      rw [hc] at hc0 ⊢
      by_cases h1 : Op.bytesLess s s' = true
      · rw [if_pos h1, if_pos h1]
      · by_cases h2 : s = s'
        · rw [if_neg h1, if_pos h2] at hc0; exact absurd rfl hc0
        · rw [if_neg h1, if_neg h2, if_neg h1, if_neg h2]
    rw [← e]
    clear e hc
    refine enter2 Tryz.func83 rfl Tryz.ntmps83 rfl fun a S => ?_
    refine wp_seq_k fun _ hK1 => ?_
    refine wp_region_lit ?_
    (refine st_m (op_box S (Ev.t rfl) rfl ?_); clear S a; intro g1 a w S)
    (refine st_m (op_box S (Ev.t rfl) rfl ?_); clear S a w; intro g2 a w S)
    (refine st_y S (Yr.ys (ys_assign Ev.c)) rfl ?_; clear S a w; intro a w S)
    refine st_nil ?_
    (refine (then_normal (hK1 _ _ ?_)); clear hK1)
    refine wp_seq_k fun _ hK1 => ?_
    refine wp_region_lit ?_
    (refine st_y S (Yr.ys (ys_fieldN (FieldT.mk Tryz.underlying71 rfl Tryz.sizeOf9 rfl) (Ev.t rfl) (i' := 0) rfl)) rfl ?_; clear S a w; intro a w S)
    (refine st_y S (Yr.ys (ys_ld ⟨Tryz.isAgg9, Tryz.sizeOf9⟩ (Ev.t rfl) (k := 1) rfl rfl)) rfl ?_; clear S a w; intro a w S)
    (refine st_y S (Yr.ys (ys_fieldN (FieldT.mk Tryz.underlying71 rfl Tryz.sizeOf9 rfl) (Ev.t rfl) (i' := 0) rfl)) rfl ?_; clear S a w; intro a w S)
    (refine st_y S (Yr.ys (ys_ld ⟨Tryz.isAgg9, Tryz.sizeOf9⟩ (Ev.t rfl) (k := 0) rfl rfl)) rfl ?_; clear S a w; intro a w S)
    (refine st_y S (ys_call Tryz.call148 (EvL.cons (Ev.t rfl) (EvL.cons (Ev.t rfl) EvL.nil)) (fun hp w W => c148 _ _ _)) rfl ?_; clear S a w; intro a w S)
    rw [rw_c] at S
    (refine st_y S (Yr.ys (ys_assign (Ev.t rfl))) rfl ?_; clear S a w; intro a w S)
    refine st_nil ?_
    (refine (then_normal (hK1 _ _ ?_)); clear hK1)
    refine wp_seq_k fun _ hK1 => ?_
    refine wp_seq_k fun _ hK2 => ?_
    refine wp_region_lit ?_
    (refine st_y S (Yr.ys (ys_fieldN (FieldT.mk Tryz.underlying71 rfl Tryz.sizeOf58 rfl) (Ev.t rfl) (i' := 1) rfl)) rfl ?_; clear S a w; intro a w S)
    (refine st_y S (Yr.ys (ys_fieldN (FieldT.mk Tryz.underlying58 rfl Tryz.sizeOf3 rfl) (Ev.t rfl) (i' := 1) rfl)) rfl ?_; clear S a w; intro a w S)
    (refine st_y S (Yr.ys (ys_ld ⟨Tryz.isAgg3, Tryz.sizeOf3⟩ (Ev.t rfl) (k := 1) rfl rfl)) rfl ?_; clear S a w; intro a w S)
    (refine st_y S (Yr.ys (ys_fieldN (FieldT.mk Tryz.underlying71 rfl Tryz.sizeOf58 rfl) (Ev.t rfl) (i' := 1) rfl)) rfl ?_; clear S a w; intro a w S)
    (refine st_y S (Yr.ys (ys_fieldN (FieldT.mk Tryz.underlying58 rfl Tryz.sizeOf3 rfl) (Ev.t rfl) (i' := 1) rfl)) rfl ?_; clear S a w; intro a w S)
    (refine st_y S (Yr.ys (ys_ld ⟨Tryz.isAgg3, Tryz.sizeOf3⟩ (Ev.t rfl) (k := 0) rfl rfl)) rfl ?_; clear S a w; intro a w S)
    (refine st_y S (Yr.ys (ys_subI (Ev.t rfl) (Ev.t rfl) (fun _ => by unfold I64; omega))) rfl ?_; clear S a w; intro a w S)
    (refine st_y S (Yr.ys (ys_fieldN (FieldT.mk Tryz.underlying71 rfl Tryz.sizeOf58 rfl) (Ev.t rfl) (i' := 1) rfl)) rfl ?_; clear S a w; intro a w S)
    (refine st_y S (Yr.ys (ys_fieldN (FieldT.mk Tryz.underlying58 rfl Tryz.sizeOf3 rfl) (Ev.t rfl) (i' := 2) rfl)) rfl ?_; clear S a w; intro a w S)
    (refine st_y S (Yr.ys (ys_ld ⟨Tryz.isAgg3, Tryz.sizeOf3⟩ (Ev.t rfl) (k := 1) rfl rfl)) rfl ?_; clear S a w; intro a w S)
    (refine st_y S (Yr.ys (ys_fieldN (FieldT.mk Tryz.underlying71 rfl Tryz.sizeOf58 rfl) (Ev.t rfl) (i' := 1) rfl)) rfl ?_; clear S a w; intro a w S)
    (refine st_y S (Yr.ys (ys_fieldN (FieldT.mk Tryz.underlying58 rfl Tryz.sizeOf3 rfl) (Ev.t rfl) (i' := 2) rfl)) rfl ?_; clear S a w; intro a w S)
    (refine st_y S (Yr.ys (ys_ld ⟨Tryz.isAgg3, Tryz.sizeOf3⟩ (Ev.t rfl) (k := 0) rfl rfl)) rfl ?_; clear S a w; intro a w S)
    (refine st_y S (Yr.ys (ys_subI (Ev.t rfl) (Ev.t rfl) (fun _ => by unfold I64; omega))) rfl ?_; clear S a w; intro a w S)
    (refine st_y S (Yr.ys (ys_fieldN (FieldT.mk Tryz.underlying71 rfl Tryz.sizeOf58 rfl) (Ev.t rfl) (i' := 1) rfl)) rfl ?_; clear S a w; intro a w S)
    (refine st_y S (Yr.ys (ys_fieldN (FieldT.mk Tryz.underlying58 rfl Tryz.sizeOf3 rfl) (Ev.t rfl) (i' := 3) rfl)) rfl ?_; clear S a w; intro a w S)
    (refine st_y S (Yr.ys (ys_ld ⟨Tryz.isAgg3, Tryz.sizeOf3⟩ (Ev.t rfl) (k := 1) rfl rfl)) rfl ?_; clear S a w; intro a w S)
    (refine st_y S (Yr.ys (ys_fieldN (FieldT.mk Tryz.underlying71 rfl Tryz.sizeOf58 rfl) (Ev.t rfl) (i' := 1) rfl)) rfl ?_; clear S a w; intro a w S)
    (refine st_y S (Yr.ys (ys_fieldN (FieldT.mk Tryz.underlying58 rfl Tryz.sizeOf3 rfl) (Ev.t rfl) (i' := 3) rfl)) rfl ?_; clear S a w; intro a w S)
    (refine st_y S (Yr.ys (ys_ld ⟨Tryz.isAgg3, Tryz.sizeOf3⟩ (Ev.t rfl) (k := 0) rfl rfl)) rfl ?_; clear S a w; intro a w S)
    (refine st_y S (Yr.ys (ys_subI (Ev.t rfl) (Ev.t rfl) (fun _ => by unfold I64; omega))) rfl ?_; clear S a w; intro a w S)
    (refine st_m (op_bsliceZ (ps := [(0, Go.Operand.tmp 19), (1, Go.Operand.tmp 26), (2, Go.Operand.tmp 33)]) (us := [_, _, _]) S Tryz.underlying23 Tryz.sizeOf3 Tryz.zeroValue3 rfl rfl (EvL.cons (Ev.t rfl) (EvL.cons (Ev.t rfl) (EvL.cons (Ev.t rfl) EvL.nil))) rfl rfl ?_); clear S a w; intro g3 a w S)
    (refine st_y S (Yr.ys (ys_lenS Tryz.underlying23 (Ev.t rfl))) rfl ?_; clear S a w; intro a w S)
    (refine st_y S (Yr.ys (ys_move Ev.c)) rfl ?_; clear S a w; intro a w S)
    refine st_nil ?_
    (refine (then_normal (hK2 _ _ ?_)); clear hK2)
    refine wp_block ?_
    refine st_rounds 4 (st_round ?_)
    refine wp_seq_k fun _ hK2 => ?_
    refine wp_region_lit ?_
    (refine st_y S (Yr.ys (ys_T (by omega) (ys_lss (Ev.t rfl) (Ev.t rfl)))) rfl ?_; clear S a w; intro a w S)
    refine st_nil ?_
    (refine (then_normal (hK2 _ _ ?_)); clear hK2)
    refine wp_seq_k fun _ hK2 => ?_
    refine st_then S (Ev.t rfl) ?_
    refine wp_skip ?_
    (refine (then_normal (hK2 _ _ ?_)); clear hK2)
    refine wp_seq_k fun _ hK2 => ?_
    refine wp_block ?_
    refine wp_seq_k fun _ hK3 => ?_
    refine wp_region_lit ?_
    (refine st_y S (Yr.ys (ys_ixS (j := 0) Tryz.underlying23 Tryz.sizeOf3 (Ev.t rfl) (Ev.t rfl) (fun _ => by omega))) rfl ?_; clear S a w; intro a w S)
    (refine st_y S (Yr.ys (ys_ld ⟨Tryz.isAgg3, Tryz.sizeOf3⟩ (Ev.t rfl) (k := 0) rfl rfl)) rfl ?_; clear S a w; intro a w S)
    (refine st_y S (Yr.ys (ys_assign (Ev.t rfl))) rfl ?_; clear S a w; intro a w S)
    refine st_nil ?_
    (refine (then_normal (hK3 _ _ ?_)); clear hK3)
    refine wp_seq_k fun _ hK3 => ?_
    refine wp_region_lit ?_
    (refine st_y S (Yr.ys (ys_move (Ev.t rfl))) rfl ?_; clear S a w; intro a w S)
    (refine st_y S (Yr.ys (ys_F (by omega) (ys_eql (Ev.t rfl) Ev.c))) rfl ?_; clear S a w; intro a w S)
    refine st_nil ?_
    (refine (then_normal (hK3 _ _ ?_)); clear hK3)
    refine st_else S (Ev.t rfl) ?_
    refine wp_skip ?_
    (refine (in_normal (then_normal (hK2 _ _ ?_))); clear hK2)
    refine wp_region_lit ?_
    (refine st_y S (Yr.ys (ys_addI (Ev.t rfl) Ev.c (fun _ => by unfold I64; omega))) rfl ?_; clear S a w; intro a w S)
    rw [rw_1] at S
    (refine st_y S (Yr.ys (ys_move (Ev.t rfl))) rfl ?_; clear S a w; intro a w S)
    refine st_nil ?_
    refine (then_normal ?_)
    refine st_round ?_
    refine wp_seq_k fun _ hK2 => ?_
    refine wp_region_lit ?_
    (refine st_y S (Yr.ys (ys_T (by omega) (ys_lss (Ev.t rfl) (Ev.t rfl)))) rfl ?_; clear S a w; intro a w S)
    refine st_nil ?_
    (refine (then_normal (hK2 _ _ ?_)); clear hK2)
    refine wp_seq_k fun _ hK2 => ?_
    refine st_then S (Ev.t rfl) ?_
    refine wp_skip ?_
    (refine (then_normal (hK2 _ _ ?_)); clear hK2)
    refine wp_seq_k fun _ hK2 => ?_
    refine wp_block ?_
    refine wp_seq_k fun _ hK3 => ?_
    refine wp_region_lit ?_
    (refine st_y S (Yr.ys (ys_ixS (j := 1) Tryz.underlying23 Tryz.sizeOf3 (Ev.t rfl) (Ev.t rfl) (fun _ => by omega))) rfl ?_; clear S a w; intro a w S)
    (refine st_y S (Yr.ys (ys_ld ⟨Tryz.isAgg3, Tryz.sizeOf3⟩ (Ev.t rfl) (k := 0) rfl rfl)) rfl ?_; clear S a w; intro a w S)
    (refine st_y S (Yr.ys (ys_assign (Ev.t rfl))) rfl ?_; clear S a w; intro a w S)
    refine st_nil ?_
    (refine (then_normal (hK3 _ _ ?_)); clear hK3)
    refine wp_seq_k fun _ hK3 => ?_
    refine wp_region_lit ?_
    (refine st_y S (Yr.ys (ys_move (Ev.t rfl))) rfl ?_; clear S a w; intro a w S)
    (refine st_y S (Yr.ys (ys_F (by omega) (ys_eql (Ev.t rfl) Ev.c))) rfl ?_; clear S a w; intro a w S)
    refine st_nil ?_
    (refine (then_normal (hK3 _ _ ?_)); clear hK3)
    refine st_else S (Ev.t rfl) ?_
    refine wp_skip ?_
    (refine (in_normal (then_normal (hK2 _ _ ?_))); clear hK2)
    refine wp_region_lit ?_
    (refine st_y S (Yr.ys (ys_addI (Ev.t rfl) Ev.c (fun _ => by unfold I64; omega))) rfl ?_; clear S a w; intro a w S)
    rw [rw_2] at S
    (refine st_y S (Yr.ys (ys_move (Ev.t rfl))) rfl ?_; clear S a w; intro a w S)
    refine st_nil ?_
    refine (then_normal ?_)
    refine st_round ?_
    refine wp_seq_k fun _ hK2 => ?_
    refine wp_region_lit ?_
    (refine st_y S (Yr.ys (ys_T (by omega) (ys_lss (Ev.t rfl) (Ev.t rfl)))) rfl ?_; clear S a w; intro a w S)
    refine st_nil ?_
    (refine (then_normal (hK2 _ _ ?_)); clear hK2)
    refine wp_seq_k fun _ hK2 => ?_
    refine st_then S (Ev.t rfl) ?_
    refine wp_skip ?_
    (refine (then_normal (hK2 _ _ ?_)); clear hK2)
    refine wp_seq_k fun _ hK2 => ?_
    refine wp_block ?_
    refine wp_seq_k fun _ hK3 => ?_
    refine wp_region_lit ?_
    (refine st_y S (Yr.ys (ys_ixS (j := 2) Tryz.underlying23 Tryz.sizeOf3 (Ev.t rfl) (Ev.t rfl) (fun _ => by omega))) rfl ?_; clear S a w; intro a w S)
    (refine st_y S (Yr.ys (ys_ld ⟨Tryz.isAgg3, Tryz.sizeOf3⟩ (Ev.t rfl) (k := 0) rfl rfl)) rfl ?_; clear S a w; intro a w S)
    (refine st_y S (Yr.ys (ys_assign (Ev.t rfl))) rfl ?_; clear S a w; intro a w S)
    refine st_nil ?_
    (refine (then_normal (hK3 _ _ ?_)); clear hK3)
    refine wp_seq_k fun _ hK3 => ?_
    refine wp_region_lit ?_
    (refine st_y S (Yr.ys (ys_move (Ev.t rfl))) rfl ?_; clear S a w; intro a w S)
    (refine st_y S (Yr.ys (ys_F (by omega) (ys_eql (Ev.t rfl) Ev.c))) rfl ?_; clear S a w; intro a w S)
    refine st_nil ?_
    (refine (then_normal (hK3 _ _ ?_)); clear hK3)
    refine st_else S (Ev.t rfl) ?_
    refine wp_skip ?_
    (refine (in_normal (then_normal (hK2 _ _ ?_))); clear hK2)
    refine wp_region_lit ?_
    (refine st_y S (Yr.ys (ys_addI (Ev.t rfl) Ev.c (fun _ => by unfold I64; omega))) rfl ?_; clear S a w; intro a w S)
    rw [rw_3] at S
    (refine st_y S (Yr.ys (ys_move (Ev.t rfl))) rfl ?_; clear S a w; intro a w S)
    refine st_nil ?_
    refine (then_normal ?_)
    refine st_round ?_
    refine wp_seq_k fun _ hK2 => ?_
    refine wp_region_lit ?_
    (refine st_y S (Yr.ys (ys_F (by omega) (ys_lss (Ev.t rfl) (Ev.t rfl)))) rfl ?_; clear S a w; intro a w S)
    refine st_nil ?_
    (refine (then_normal (hK2 _ _ ?_)); clear hK2)
    refine wp_seq_k fun _ hK2 => ?_
    refine st_else S (Ev.t rfl) ?_
    refine wp_exit ?_
    (refine (then_exit (then_exit (in_here (then_normal (hK1 _ _ ?_))))); clear hK1)
    refine wp_seq_k fun _ hK1 => ?_
    refine wp_region_lit ?_
    (refine st_y S (Yr.ys (ys_move (Ev.t rfl))) rfl ?_; clear S a w; intro a w S)
    (refine st_y S (Yr.ys (ys_assign (Ev.t rfl))) rfl ?_; clear S a w; intro a w S)
    refine st_nil ?_
    (refine (then_normal (hK1 _ _ ?_)); clear hK1)
    refine wp_ret ?_
    refine st_ret S (results1 S Tryz.results83 (Rv.tmp rfl)) ?_
    exact ⟨rfl, S.wd.below⟩
  have hs : ¬ Op.bytesLess s s' = true ∧ s = s' := by
    rw [hc] at hc0
    by_cases h1 : Op.bytesLess s s' = true
    · rw [if_pos h1] at hc0; cases hc0
    · by_cases h2 : s = s'
      · exact ⟨h1, h2⟩
      · rw [if_neg h1, if_neg h2] at hc0; cases hc0
  rw [if_neg hs.1, if_pos hs.2]
  clear hs hc
  subst hc0
  by_cases h1 : d1 = e1
  rotate_left
  · rw [if_pos h1]
    refine enter2 Tryz.func83 rfl Tryz.ntmps83 rfl fun a S => ?_
    refine wp_seq_k fun _ hK1 => ?_
    refine wp_region_lit ?_
    (refine st_m (op_box S (Ev.t rfl) rfl ?_); clear S a; intro g1 a w S)
    (refine st_m (op_box S (Ev.t rfl) rfl ?_); clear S a w; intro g2 a w S)
    (refine st_y S (Yr.ys (ys_assign Ev.c)) rfl ?_; clear S a w; intro a w S)
    refine st_nil ?_
    (refine (then_normal (hK1 _ _ ?_)); clear hK1)
    refine wp_seq_k fun _ hK1 => ?_
    refine wp_region_lit ?_
    (refine st_y S (Yr.ys (ys_fieldN (FieldT.mk Tryz.underlying71 rfl Tryz.sizeOf9 rfl) (Ev.t rfl) (i' := 0) rfl)) rfl ?_; clear S a w; intro a w S)
    (refine st_y S (Yr.ys (ys_ld ⟨Tryz.isAgg9, Tryz.sizeOf9⟩ (Ev.t rfl) (k := 1) rfl rfl)) rfl ?_; clear S a w; intro a w S)
    (refine st_y S (Yr.ys (ys_fieldN (FieldT.mk Tryz.underlying71 rfl Tryz.sizeOf9 rfl) (Ev.t rfl) (i' := 0) rfl)) rfl ?_; clear S a w; intro a w S)
    (refine st_y S (Yr.ys (ys_ld ⟨Tryz.isAgg9, Tryz.sizeOf9⟩ (Ev.t rfl) (k := 0) rfl rfl)) rfl ?_; clear S a w; intro a w S)
    (refine st_y S (ys_call Tryz.call148 (EvL.cons (Ev.t rfl) (EvL.cons (Ev.t rfl) EvL.nil)) (fun hp w W => c148 _ _ _)) rfl ?_; clear S a w; intro a w S)
    rw [rw_c] at S
    (refine st_y S (Yr.ys (ys_assign (Ev.t rfl))) rfl ?_; clear S a w; intro a w S)
    refine st_nil ?_
    (refine (then_normal (hK1 _ _ ?_)); clear hK1)
    refine wp_seq_k fun _ hK1 => ?_
    refine wp_seq_k fun _ hK2 => ?_
    refine wp_region_lit ?_
    (refine st_y S (Yr.ys (ys_fieldN (FieldT.mk Tryz.underlying71 rfl Tryz.sizeOf58 rfl) (Ev.t rfl) (i' := 1) rfl)) rfl ?_; clear S a w; intro a w S)
    (refine st_y S (Yr.ys (ys_fieldN (FieldT.mk Tryz.underlying58 rfl Tryz.sizeOf3 rfl) (Ev.t rfl) (i' := 1) rfl)) rfl ?_; clear S a w; intro a w S)
    (refine st_y S (Yr.ys (ys_ld ⟨Tryz.isAgg3, Tryz.sizeOf3⟩ (Ev.t rfl) (k := 1) rfl rfl)) rfl ?_; clear S a w; intro a w S)
    (refine st_y S (Yr.ys (ys_fieldN (FieldT.mk Tryz.underlying71 rfl Tryz.sizeOf58 rfl) (Ev.t rfl) (i' := 1) rfl)) rfl ?_; clear S a w; intro a w S)
    (refine st_y S (Yr.ys (ys_fieldN (FieldT.mk Tryz.underlying58 rfl Tryz.sizeOf3 rfl) (Ev.t rfl) (i' := 1) rfl)) rfl ?_; clear S a w; intro a w S)
    (refine st_y S (Yr.ys (ys_ld ⟨Tryz.isAgg3, Tryz.sizeOf3⟩ (Ev.t rfl) (k := 0) rfl rfl)) rfl ?_; clear S a w; intro a w S)
    (refine st_y S (Yr.ys (ys_subI (Ev.t rfl) (Ev.t rfl) (fun _ => by unfold I64; omega))) rfl ?_; clear S a w; intro a w S)
    (refine st_y S (Yr.ys (ys_fieldN (FieldT.mk Tryz.underlying71 rfl Tryz.sizeOf58 rfl) (Ev.t rfl) (i' := 1) rfl)) rfl ?_; clear S a w; intro a w S)
    (refine st_y S (Yr.ys (ys_fieldN (FieldT.mk Tryz.underlying58 rfl Tryz.sizeOf3 rfl) (Ev.t rfl) (i' := 2) rfl)) rfl ?_; clear S a w; intro a w S)
    (refine st_y S (Yr.ys (ys_ld ⟨Tryz.isAgg3, Tryz.sizeOf3⟩ (Ev.t rfl) (k := 1) rfl rfl)) rfl ?_; clear S a w; intro a w S)
    (refine st_y S (Yr.ys (ys_fieldN (FieldT.mk Tryz.underlying71 rfl Tryz.sizeOf58 rfl) (Ev.t rfl) (i' := 1) rfl)) rfl ?_; clear S a w; intro a w S)
    (refine st_y S (Yr.ys (ys_fieldN (FieldT.mk Tryz.underlying58 rfl Tryz.sizeOf3 rfl) (Ev.t rfl) (i' := 2) rfl)) rfl ?_; clear S a w; intro a w S)
    (refine st_y S (Yr.ys (ys_ld ⟨Tryz.isAgg3, Tryz.sizeOf3⟩ (Ev.t rfl) (k := 0) rfl rfl)) rfl ?_; clear S a w; intro a w S)
    (refine st_y S (Yr.ys (ys_subI (Ev.t rfl) (Ev.t rfl) (fun _ => by unfold I64; omega))) rfl ?_; clear S a w; intro a w S)
    (refine st_y S (Yr.ys (ys_fieldN (FieldT.mk Tryz.underlying71 rfl Tryz.sizeOf58 rfl) (Ev.t rfl) (i' := 1) rfl)) rfl ?_; clear S a w; intro a w S)
    (refine st_y S (Yr.ys (ys_fieldN (FieldT.mk Tryz.underlying58 rfl Tryz.sizeOf3 rfl) (Ev.t rfl) (i' := 3) rfl)) rfl ?_; clear S a w; intro a w S)
    (refine st_y S (Yr.ys (ys_ld ⟨Tryz.isAgg3, Tryz.sizeOf3⟩ (Ev.t rfl) (k := 1) rfl rfl)) rfl ?_; clear S a w; intro a w S)
    (refine st_y S (Yr.ys (ys_fieldN (FieldT.mk Tryz.underlying71 rfl Tryz.sizeOf58 rfl) (Ev.t rfl) (i' := 1) rfl)) rfl ?_; clear S a w; intro a w S)
    (refine st_y S (Yr.ys (ys_fieldN (FieldT.mk Tryz.underlying58 rfl Tryz.sizeOf3 rfl) (Ev.t rfl) (i' := 3) rfl)) rfl ?_; clear S a w; intro a w S)
    (refine st_y S (Yr.ys (ys_ld ⟨Tryz.isAgg3, Tryz.sizeOf3⟩ (Ev.t rfl) (k := 0) rfl rfl)) rfl ?_; clear S a w; intro a w S)
    (refine st_y S (Yr.ys (ys_subI (Ev.t rfl) (Ev.t rfl) (fun _ => by unfold I64; omega))) rfl ?_; clear S a w; intro a w S)
    (refine st_m (op_bsliceZ (ps := [(0, Go.Operand.tmp 19), (1, Go.Operand.tmp 26), (2, Go.Operand.tmp 33)]) (us := [_, _, _]) S Tryz.underlying23 Tryz.sizeOf3 Tryz.zeroValue3 rfl rfl (EvL.cons (Ev.t rfl) (EvL.cons (Ev.t rfl) (EvL.cons (Ev.t rfl) EvL.nil))) rfl rfl ?_); clear S a w; intro g3 a w S)
    (refine st_y S (Yr.ys (ys_lenS Tryz.underlying23 (Ev.t rfl))) rfl ?_; clear S a w; intro a w S)
    (refine st_y S (Yr.ys (ys_move Ev.c)) rfl ?_; clear S a w; intro a w S)
    refine st_nil ?_
    (refine (then_normal (hK2 _ _ ?_)); clear hK2)
    refine wp_block ?_
    refine st_rounds 4 (st_round ?_)
    refine wp_seq_k fun _ hK2 => ?_
    refine wp_region_lit ?_
    (refine st_y S (Yr.ys (ys_T (by omega) (ys_lss (Ev.t rfl) (Ev.t rfl)))) rfl ?_; clear S a w; intro a w S)
    refine st_nil ?_
    (refine (then_normal (hK2 _ _ ?_)); clear hK2)
    refine wp_seq_k fun _ hK2 => ?_
    refine st_then S (Ev.t rfl) ?_
    refine wp_skip ?_
    (refine (then_normal (hK2 _ _ ?_)); clear hK2)
    refine wp_seq_k fun _ hK2 => ?_
    refine wp_block ?_
    refine wp_seq_k fun _ hK3 => ?_
    refine wp_region_lit ?_
    (refine st_y S (Yr.ys (ys_ixS (j := 0) Tryz.underlying23 Tryz.sizeOf3 (Ev.t rfl) (Ev.t rfl) (fun _ => by omega))) rfl ?_; clear S a w; intro a w S)
    (refine st_y S (Yr.ys (ys_ld ⟨Tryz.isAgg3, Tryz.sizeOf3⟩ (Ev.t rfl) (k := 0) rfl rfl)) rfl ?_; clear S a w; intro a w S)
    (refine st_y S (Yr.ys (ys_assign (Ev.t rfl))) rfl ?_; clear S a w; intro a w S)
    refine st_nil ?_
    (refine (then_normal (hK3 _ _ ?_)); clear hK3)
    refine wp_seq_k fun _ hK3 => ?_
    refine wp_region_lit ?_
    (refine st_y S (Yr.ys (ys_move (Ev.t rfl))) rfl ?_; clear S a w; intro a w S)
    (refine st_y S (Yr.ys (ys_T (by omega) (ys_eql (Ev.t rfl) Ev.c))) rfl ?_; clear S a w; intro a w S)
    refine st_nil ?_
    (refine (then_normal (hK3 _ _ ?_)); clear hK3)
    refine st_then S (Ev.t rfl) ?_
    refine wp_region_lit ?_
    (refine st_y S (Yr.ys (ys_move (Ev.t rfl))) rfl ?_; clear S a w; intro a w S)
    (refine st_y S (Yr.ys (ys_assign (Ev.t rfl))) rfl ?_; clear S a w; intro a w S)
    refine st_nil ?_
    (refine (in_normal (then_normal (hK2 _ _ ?_))); clear hK2)
    refine wp_region_lit ?_
    (refine st_y S (Yr.ys (ys_addI (Ev.t rfl) Ev.c (fun _ => by unfold I64; omega))) rfl ?_; clear S a w; intro a w S)
    rw [rw_1] at S
    (refine st_y S (Yr.ys (ys_move (Ev.t rfl))) rfl ?_; clear S a w; intro a w S)
    refine st_nil ?_
    refine (then_normal ?_)
    refine st_round ?_
    refine wp_seq_k fun _ hK2 => ?_
    refine wp_region_lit ?_
    (refine st_y S (Yr.ys (ys_T (by omega) (ys_lss (Ev.t rfl) (Ev.t rfl)))) rfl ?_; clear S a w; intro a w S)
    refine st_nil ?_
    (refine (then_normal (hK2 _ _ ?_)); clear hK2)
    refine wp_seq_k fun _ hK2 => ?_
    refine st_then S (Ev.t rfl) ?_
    refine wp_skip ?_
    (refine (then_normal (hK2 _ _ ?_)); clear hK2)
    refine wp_seq_k fun _ hK2 => ?_
    refine wp_block ?_
    refine wp_seq_k fun _ hK3 => ?_
    refine wp_region_lit ?_
    (refine st_y S (Yr.ys (ys_ixS (j := 1) Tryz.underlying23 Tryz.sizeOf3 (Ev.t rfl) (Ev.t rfl) (fun _ => by omega))) rfl ?_; clear S a w; intro a w S)
    (refine st_y S (Yr.ys (ys_ld ⟨Tryz.isAgg3, Tryz.sizeOf3⟩ (Ev.t rfl) (k := 0) rfl rfl)) rfl ?_; clear S a w; intro a w S)
    (refine st_y S (Yr.ys (ys_assign (Ev.t rfl))) rfl ?_; clear S a w; intro a w S)
    refine st_nil ?_
    (refine (then_normal (hK3 _ _ ?_)); clear hK3)
    refine wp_seq_k fun _ hK3 => ?_
    refine wp_region_lit ?_
    (refine st_y S (Yr.ys (ys_move (Ev.t rfl))) rfl ?_; clear S a w; intro a w S)
    (refine st_y S (Yr.ys (ys_F (by omega) (ys_eql (Ev.t rfl) Ev.c))) rfl ?_; clear S a w; intro a w S)
    refine st_nil ?_
    (refine (then_normal (hK3 _ _ ?_)); clear hK3)
    refine st_else S (Ev.t rfl) ?_
    refine wp_skip ?_
    (refine (in_normal (then_normal (hK2 _ _ ?_))); clear hK2)
    refine wp_region_lit ?_
    (refine st_y S (Yr.ys (ys_addI (Ev.t rfl) Ev.c (fun _ => by unfold I64; omega))) rfl ?_; clear S a w; intro a w S)
    rw [rw_2] at S
    (refine st_y S (Yr.ys (ys_move (Ev.t rfl))) rfl ?_; clear S a w; intro a w S)
    refine st_nil ?_
    refine (then_normal ?_)
    refine st_round ?_
    refine wp_seq_k fun _ hK2 => ?_
    refine wp_region_lit ?_
    (refine st_y S (Yr.ys (ys_T (by omega) (ys_lss (Ev.t rfl) (Ev.t rfl)))) rfl ?_; clear S a w; intro a w S)
    refine st_nil ?_
    (refine (then_normal (hK2 _ _ ?_)); clear hK2)
    refine wp_seq_k fun _ hK2 => ?_
    refine st_then S (Ev.t rfl) ?_
    refine wp_skip ?_
    (refine (then_normal (hK2 _ _ ?_)); clear hK2)
    refine wp_seq_k fun _ hK2 => ?_
    refine wp_block ?_
    refine wp_seq_k fun _ hK3 => ?_
    refine wp_region_lit ?_
    (refine st_y S (Yr.ys (ys_ixS (j := 2) Tryz.underlying23 Tryz.sizeOf3 (Ev.t rfl) (Ev.t rfl) (fun _ => by omega))) rfl ?_; clear S a w; intro a w S)
    (refine st_y S (Yr.ys (ys_ld ⟨Tryz.isAgg3, Tryz.sizeOf3⟩ (Ev.t rfl) (k := 0) rfl rfl)) rfl ?_; clear S a w; intro a w S)
    (refine st_y S (Yr.ys (ys_assign (Ev.t rfl))) rfl ?_; clear S a w; intro a w S)
    refine st_nil ?_
    (refine (then_normal (hK3 _ _ ?_)); clear hK3)
    refine wp_seq_k fun _ hK3 => ?_
    refine wp_region_lit ?_
    (refine st_y S (Yr.ys (ys_move (Ev.t rfl))) rfl ?_; clear S a w; intro a w S)
    (refine st_y S (Yr.ys (ys_F (by omega) (ys_eql (Ev.t rfl) Ev.c))) rfl ?_; clear S a w; intro a w S)
    refine st_nil ?_
    (refine (then_normal (hK3 _ _ ?_)); clear hK3)
    refine st_else S (Ev.t rfl) ?_
    refine wp_skip ?_
    (refine (in_normal (then_normal (hK2 _ _ ?_))); clear hK2)
    refine wp_region_lit ?_
    (refine st_y S (Yr.ys (ys_addI (Ev.t rfl) Ev.c (fun _ => by unfold I64; omega))) rfl ?_; clear S a w; intro a w S)
    rw [rw_3] at S
    (refine st_y S (Yr.ys (ys_move (Ev.t rfl))) rfl ?_; clear S a w; intro a w S)
    refine st_nil ?_
    refine (then_normal ?_)
    refine st_round ?_
    refine wp_seq_k fun _ hK2 => ?_
    refine wp_region_lit ?_
    (refine st_y S (Yr.ys (ys_F (by omega) (ys_lss (Ev.t rfl) (Ev.t rfl)))) rfl ?_; clear S a w; intro a w S)
    refine st_nil ?_
    (refine (then_normal (hK2 _ _ ?_)); clear hK2)
    refine wp_seq_k fun _ hK2 => ?_
    refine st_else S (Ev.t rfl) ?_
    refine wp_exit ?_
    (refine (then_exit (then_exit (in_here (then_normal (hK1 _ _ ?_))))); clear hK1)
    refine wp_seq_k fun _ hK1 => ?_
    refine wp_region_lit ?_
    (refine st_y S (Yr.ys (ys_move (Ev.t rfl))) rfl ?_; clear S a w; intro a w S)
    (refine st_y S (Yr.ys (ys_assign (Ev.t rfl))) rfl ?_; clear S a w; intro a w S)
    refine st_nil ?_
    (refine (then_normal (hK1 _ _ ?_)); clear hK1)
    refine wp_ret ?_
    refine st_ret S (results1 S Tryz.results83 (Rv.tmp rfl)) ?_
    exact ⟨rfl, S.wd.below⟩
  rw [if_neg (by omega)]
  by_cases h2 : d2 = e2
  rotate_left
  · rw [if_pos h2]
    refine enter2 Tryz.func83 rfl Tryz.ntmps83 rfl fun a S => ?_
    refine wp_seq_k fun _ hK1 => ?_
    refine wp_region_lit ?_
    (refine st_m (op_box S (Ev.t rfl) rfl ?_); clear S a; intro g1 a w S)
    (refine st_m (op_box S (Ev.t rfl) rfl ?_); clear S a w; intro g2 a w S)
    (refine st_y S (Yr.ys (ys_assign Ev.c)) rfl ?_; clear S a w; intro a w S)
    refine st_nil ?_
    (refine (then_normal (hK1 _ _ ?_)); clear hK1)
    refine wp_seq_k fun _ hK1 => ?_
    refine wp_region_lit ?_
    (refine st_y S (Yr.ys (ys_fieldN (FieldT.mk Tryz.underlying71 rfl Tryz.sizeOf9 rfl) (Ev.t rfl) (i' := 0) rfl)) rfl ?_; clear S a w; intro a w S)
    (refine st_y S (Yr.ys (ys_ld ⟨Tryz.isAgg9, Tryz.sizeOf9⟩ (Ev.t rfl) (k := 1) rfl rfl)) rfl ?_; clear S a w; intro a w S)
    (refine st_y S (Yr.ys (ys_fieldN (FieldT.mk Tryz.underlying71 rfl Tryz.sizeOf9 rfl) (Ev.t rfl) (i' := 0) rfl)) rfl ?_; clear S a w; intro a w S)
    (refine st_y S (Yr.ys (ys_ld ⟨Tryz.isAgg9, Tryz.sizeOf9⟩ (Ev.t rfl) (k := 0) rfl rfl)) rfl ?_; clear S a w; intro a w S)
    (refine st_y S (ys_call Tryz.call148 (EvL.cons (Ev.t rfl) (EvL.cons (Ev.t rfl) EvL.nil)) (fun hp w W => c148 _ _ _)) rfl ?_; clear S a w; intro a w S)
    rw [rw_c] at S
    (refine st_y S (Yr.ys (ys_assign (Ev.t rfl))) rfl ?_; clear S a w; intro a w S)
    refine st_nil ?_
    (refine (then_normal (hK1 _ _ ?_)); clear hK1)
    refine wp_seq_k fun _ hK1 => ?_
    refine wp_seq_k fun _ hK2 => ?_
    refine wp_region_lit ?_
    (refine st_y S (Yr.ys (ys_fieldN (FieldT.mk Tryz.underlying71 rfl Tryz.sizeOf58 rfl) (Ev.t rfl) (i' := 1) rfl)) rfl ?_; clear S a w; intro a w S)
    (refine st_y S (Yr.ys (ys_fieldN (FieldT.mk Tryz.underlying58 rfl Tryz.sizeOf3 rfl) (Ev.t rfl) (i' := 1) rfl)) rfl ?_; clear S a w; intro a w S)
    (refine st_y S (Yr.ys (ys_ld ⟨Tryz.isAgg3, Tryz.sizeOf3⟩ (Ev.t rfl) (k := 1) rfl rfl)) rfl ?_; clear S a w; intro a w S)
    (refine st_y S (Yr.ys (ys_fieldN (FieldT.mk Tryz.underlying71 rfl Tryz.sizeOf58 rfl) (Ev.t rfl) (i' := 1) rfl)) rfl ?_; clear S a w; intro a w S)
    (refine st_y S (Yr.ys (ys_fieldN (FieldT.mk Tryz.underlying58 rfl Tryz.sizeOf3 rfl) (Ev.t rfl) (i' := 1) rfl)) rfl ?_; clear S a w; intro a w S)
    (refine st_y S (Yr.ys (ys_ld ⟨Tryz.isAgg3, Tryz.sizeOf3⟩ (Ev.t rfl) (k := 0) rfl rfl)) rfl ?_; clear S a w; intro a w S)
    (refine st_y S (Yr.ys (ys_subI (Ev.t rfl) (Ev.t rfl) (fun _ => by unfold I64; omega))) rfl ?_; clear S a w; intro a w S)
    (refine st_y S (Yr.ys (ys_fieldN (FieldT.mk Tryz.underlying71 rfl Tryz.sizeOf58 rfl) (Ev.t rfl) (i' := 1) rfl)) rfl ?_; clear S a w; intro a w S)
    (refine st_y S (Yr.ys (ys_fieldN (FieldT.mk Tryz.underlying58 rfl Tryz.sizeOf3 rfl) (Ev.t rfl) (i' := 2) rfl)) rfl ?_; clear S a w; intro a w S)
    (refine st_y S (Yr.ys (ys_ld ⟨Tryz.isAgg3, Tryz.sizeOf3⟩ (Ev.t rfl) (k := 1) rfl rfl)) rfl ?_; clear S a w; intro a w S)
    (refine st_y S (Yr.ys (ys_fieldN (FieldT.mk Tryz.underlying71 rfl Tryz.sizeOf58 rfl) (Ev.t rfl) (i' := 1) rfl)) rfl ?_; clear S a w; intro a w S)
    (refine st_y S (Yr.ys (ys_fieldN (FieldT.mk Tryz.underlying58 rfl Tryz.sizeOf3 rfl) (Ev.t rfl) (i' := 2) rfl)) rfl ?_; clear S a w; intro a w S)
    (refine st_y S (Yr.ys (ys_ld ⟨Tryz.isAgg3, Tryz.sizeOf3⟩ (Ev.t rfl) (k := 0) rfl rfl)) rfl ?_; clear S a w; intro a w S)
    (refine st_y S (Yr.ys (ys_subI (Ev.t rfl) (Ev.t rfl) (fun _ => by unfold I64; omega))) rfl ?_; clear S a w; intro a w S)
    (refine st_y S (Yr.ys (ys_fieldN (FieldT.mk Tryz.underlying71 rfl Tryz.sizeOf58 rfl) (Ev.t rfl) (i' := 1) rfl)) rfl ?_; clear S a w; intro a w S)
    (refine st_y S (Yr.ys (ys_fieldN (FieldT.mk Tryz.underlying58 rfl Tryz.sizeOf3 rfl) (Ev.t rfl) (i' := 3) rfl)) rfl ?_; clear S a w; intro a w S)
    (refine st_y S (Yr.ys (ys_ld ⟨Tryz.isAgg3, Tryz.sizeOf3⟩ (Ev.t rfl) (k := 1) rfl rfl)) rfl ?_; clear S a w; intro a w S)
    (refine st_y S (Yr.ys (ys_fieldN (FieldT.mk Tryz.underlying71 rfl Tryz.sizeOf58 rfl) (Ev.t rfl) (i' := 1) rfl)) rfl ?_; clear S a w; intro a w S)
    (refine st_y S (Yr.ys (ys_fieldN (FieldT.mk Tryz.underlying58 rfl Tryz.sizeOf3 rfl) (Ev.t rfl) (i' := 3) rfl)) rfl ?_; clear S a w; intro a w S)
    (refine st_y S (Yr.ys (ys_ld ⟨Tryz.isAgg3, Tryz.sizeOf3⟩ (Ev.t rfl) (k := 0) rfl rfl)) rfl ?_; clear S a w; intro a w S)
    (refine st_y S (Yr.ys (ys_subI (Ev.t rfl) (Ev.t rfl) (fun _ => by unfold I64; omega))) rfl ?_; clear S a w; intro a w S)
    (refine st_m (op_bsliceZ (ps := [(0, Go.Operand.tmp 19), (1, Go.Operand.tmp 26), (2, Go.Operand.tmp 33)]) (us := [_, _, _]) S Tryz.underlying23 Tryz.sizeOf3 Tryz.zeroValue3 rfl rfl (EvL.cons (Ev.t rfl) (EvL.cons (Ev.t rfl) (EvL.cons (Ev.t rfl) EvL.nil))) rfl rfl ?_); clear S a w; intro g3 a w S)
    (refine st_y S (Yr.ys (ys_lenS Tryz.underlying23 (Ev.t rfl))) rfl ?_; clear S a w; intro a w S)
    (refine st_y S (Yr.ys (ys_move Ev.c)) rfl ?_; clear S a w; intro a w S)
    refine st_nil ?_
    (refine (then_normal (hK2 _ _ ?_)); clear hK2)
    refine wp_block ?_
    refine st_rounds 4 (st_round ?_)
    refine wp_seq_k fun _ hK2 => ?_
    refine wp_region_lit ?_
    (refine st_y S (Yr.ys (ys_T (by omega) (ys_lss (Ev.t rfl) (Ev.t rfl)))) rfl ?_; clear S a w; intro a w S)
    refine st_nil ?_
    (refine (then_normal (hK2 _ _ ?_)); clear hK2)
    refine wp_seq_k fun _ hK2 => ?_
    refine st_then S (Ev.t rfl) ?_
    refine wp_skip ?_
    (refine (then_normal (hK2 _ _ ?_)); clear hK2)
    refine wp_seq_k fun _ hK2 => ?_
    refine wp_block ?_
    refine wp_seq_k fun _ hK3 => ?_
    refine wp_region_lit ?_
    (refine st_y S (Yr.ys (ys_ixS (j := 0) Tryz.underlying23 Tryz.sizeOf3 (Ev.t rfl) (Ev.t rfl) (fun _ => by omega))) rfl ?_; clear S a w; intro a w S)
    (refine st_y S (Yr.ys (ys_ld ⟨Tryz.isAgg3, Tryz.sizeOf3⟩ (Ev.t rfl) (k := 0) rfl rfl)) rfl ?_; clear S a w; intro a w S)
    (refine st_y S (Yr.ys (ys_assign (Ev.t rfl))) rfl ?_; clear S a w; intro a w S)
    refine st_nil ?_
    (refine (then_normal (hK3 _ _ ?_)); clear hK3)
    refine wp_seq_k fun _ hK3 => ?_
    refine wp_region_lit ?_
    (refine st_y S (Yr.ys (ys_move (Ev.t rfl))) rfl ?_; clear S a w; intro a w S)
    (refine st_y S (Yr.ys (ys_T (by omega) (ys_eql (Ev.t rfl) Ev.c))) rfl ?_; clear S a w; intro a w S)
    refine st_nil ?_
    (refine (then_normal (hK3 _ _ ?_)); clear hK3)
    refine st_then S (Ev.t rfl) ?_
    refine wp_region_lit ?_
    (refine st_y S (Yr.ys (ys_move (Ev.t rfl))) rfl ?_; clear S a w; intro a w S)
    (refine st_y S (Yr.ys (ys_assign (Ev.t rfl))) rfl ?_; clear S a w; intro a w S)
    refine st_nil ?_
    (refine (in_normal (then_normal (hK2 _ _ ?_))); clear hK2)
    refine wp_region_lit ?_
    (refine st_y S (Yr.ys (ys_addI (Ev.t rfl) Ev.c (fun _ => by unfold I64; omega))) rfl ?_; clear S a w; intro a w S)
    rw [rw_1] at S
    (refine st_y S (Yr.ys (ys_move (Ev.t rfl))) rfl ?_; clear S a w; intro a w S)
    refine st_nil ?_
    refine (then_normal ?_)
    refine st_round ?_
    refine wp_seq_k fun _ hK2 => ?_
    refine wp_region_lit ?_
    (refine st_y S (Yr.ys (ys_T (by omega) (ys_lss (Ev.t rfl) (Ev.t rfl)))) rfl ?_; clear S a w; intro a w S)
    refine st_nil ?_
    (refine (then_normal (hK2 _ _ ?_)); clear hK2)
    refine wp_seq_k fun _ hK2 => ?_
    refine st_then S (Ev.t rfl) ?_
    refine wp_skip ?_
    (refine (then_normal (hK2 _ _ ?_)); clear hK2)
    refine wp_seq_k fun _ hK2 => ?_
    refine wp_block ?_
    refine wp_seq_k fun _ hK3 => ?_
    refine wp_region_lit ?_
    (refine st_y S (Yr.ys (ys_ixS (j := 1) Tryz.underlying23 Tryz.sizeOf3 (Ev.t rfl) (Ev.t rfl) (fun _ => by omega))) rfl ?_; clear S a w; intro a w S)
    (refine st_y S (Yr.ys (ys_ld ⟨Tryz.isAgg3, Tryz.sizeOf3⟩ (Ev.t rfl) (k := 0) rfl rfl)) rfl ?_; clear S a w; intro a w S)
    (refine st_y S (Yr.ys (ys_assign (Ev.t rfl))) rfl ?_; clear S a w; intro a w S)
    refine st_nil ?_
    (refine (then_normal (hK3 _ _ ?_)); clear hK3)
    refine wp_seq_k fun _ hK3 => ?_
    refine wp_region_lit ?_
    (refine st_y S (Yr.ys (ys_move (Ev.t rfl))) rfl ?_; clear S a w; intro a w S)
    (refine st_y S (Yr.ys (ys_T (by omega) (ys_eql (Ev.t rfl) Ev.c))) rfl ?_; clear S a w; intro a w S)
    refine st_nil ?_
    (refine (then_normal (hK3 _ _ ?_)); clear hK3)
    refine st_then S (Ev.t rfl) ?_
    refine wp_region_lit ?_
    (refine st_y S (Yr.ys (ys_move (Ev.t rfl))) rfl ?_; clear S a w; intro a w S)
    (refine st_y S (Yr.ys (ys_assign (Ev.t rfl))) rfl ?_; clear S a w; intro a w S)
    refine st_nil ?_
    (refine (in_normal (then_normal (hK2 _ _ ?_))); clear hK2)
    refine wp_region_lit ?_
    (refine st_y S (Yr.ys (ys_addI (Ev.t rfl) Ev.c (fun _ => by unfold I64; omega))) rfl ?_; clear S a w; intro a w S)
    rw [rw_2] at S
    (refine st_y S (Yr.ys (ys_move (Ev.t rfl))) rfl ?_; clear S a w; intro a w S)
    refine st_nil ?_
    refine (then_normal ?_)
    refine st_round ?_
    refine wp_seq_k fun _ hK2 => ?_
    refine wp_region_lit ?_
    (refine st_y S (Yr.ys (ys_T (by omega) (ys_lss (Ev.t rfl) (Ev.t rfl)))) rfl ?_; clear S a w; intro a w S)
    refine st_nil ?_
    (refine (then_normal (hK2 _ _ ?_)); clear hK2)
    refine wp_seq_k fun _ hK2 => ?_
    refine st_then S (Ev.t rfl) ?_
    refine wp_skip ?_
    (refine (then_normal (hK2 _ _ ?_)); clear hK2)
    refine wp_seq_k fun _ hK2 => ?_
    refine wp_block ?_
    refine wp_seq_k fun _ hK3 => ?_
    refine wp_region_lit ?_
    (refine st_y S (Yr.ys (ys_ixS (j := 2) Tryz.underlying23 Tryz.sizeOf3 (Ev.t rfl) (Ev.t rfl) (fun _ => by omega))) rfl ?_; clear S a w; intro a w S)
    (refine st_y S (Yr.ys (ys_ld ⟨Tryz.isAgg3, Tryz.sizeOf3⟩ (Ev.t rfl) (k := 0) rfl rfl)) rfl ?_; clear S a w; intro a w S)
    (refine st_y S (Yr.ys (ys_assign (Ev.t rfl))) rfl ?_; clear S a w; intro a w S)
    refine st_nil ?_
    (refine (then_normal (hK3 _ _ ?_)); clear hK3)
    refine wp_seq_k fun _ hK3 => ?_
    refine wp_region_lit ?_
    (refine st_y S (Yr.ys (ys_move (Ev.t rfl))) rfl ?_; clear S a w; intro a w S)
    (refine st_y S (Yr.ys (ys_F (by omega) (ys_eql (Ev.t rfl) Ev.c))) rfl ?_; clear S a w; intro a w S)
    refine st_nil ?_
    (refine (then_normal (hK3 _ _ ?_)); clear hK3)
    refine st_else S (Ev.t rfl) ?_
    refine wp_skip ?_
    (refine (in_normal (then_normal (hK2 _ _ ?_))); clear hK2)
    refine wp_region_lit ?_
    (refine st_y S (Yr.ys (ys_addI (Ev.t rfl) Ev.c (fun _ => by unfold I64; omega))) rfl ?_; clear S a w; intro a w S)
    rw [rw_3] at S
    (refine st_y S (Yr.ys (ys_move (Ev.t rfl))) rfl ?_; clear S a w; intro a w S)
    refine st_nil ?_
    refine (then_normal ?_)
    refine st_round ?_
    refine wp_seq_k fun _ hK2 => ?_
    refine wp_region_lit ?_
    (refine st_y S (Yr.ys (ys_F (by omega) (ys_lss (Ev.t rfl) (Ev.t rfl)))) rfl ?_; clear S a w; intro a w S)
    refine st_nil ?_
    (refine (then_normal (hK2 _ _ ?_)); clear hK2)
    refine wp_seq_k fun _ hK2 => ?_
    refine st_else S (Ev.t rfl) ?_
    refine wp_exit ?_
    (refine (then_exit (then_exit (in_here (then_normal (hK1 _ _ ?_))))); clear hK1)
    refine wp_seq_k fun _ hK1 => ?_
    refine wp_region_lit ?_
    (refine st_y S (Yr.ys (ys_move (Ev.t rfl))) rfl ?_; clear S a w; intro a w S)
    (refine st_y S (Yr.ys (ys_assign (Ev.t rfl))) rfl ?_; clear S a w; intro a w S)
    refine st_nil ?_
    (refine (then_normal (hK1 _ _ ?_)); clear hK1)
    refine wp_ret ?_
    refine st_ret S (results1 S Tryz.results83 (Rv.tmp rfl)) ?_
    exact ⟨rfl, S.wd.below⟩
  · rw [if_neg (by omega)]
    refine enter2 Tryz.func83 rfl Tryz.ntmps83 rfl fun a S => ?_
    refine wp_seq_k fun _ hK1 => ?_
    refine wp_region_lit ?_
    (refine st_m (op_box S (Ev.t rfl) rfl ?_); clear S a; intro g1 a w S)
    (refine st_m (op_box S (Ev.t rfl) rfl ?_); clear S a w; intro g2 a w S)
    (refine st_y S (Yr.ys (ys_assign Ev.c)) rfl ?_; clear S a w; intro a w S)
    refine st_nil ?_
    (refine (then_normal (hK1 _ _ ?_)); clear hK1)
    refine wp_seq_k fun _ hK1 => ?_
    refine wp_region_lit ?_
    (refine st_y S (Yr.ys (ys_fieldN (FieldT.mk Tryz.underlying71 rfl Tryz.sizeOf9 rfl) (Ev.t rfl) (i' := 0) rfl)) rfl ?_; clear S a w; intro a w S)
    (refine st_y S (Yr.ys (ys_ld ⟨Tryz.isAgg9, Tryz.sizeOf9⟩ (Ev.t rfl) (k := 1) rfl rfl)) rfl ?_; clear S a w; intro a w S)
    (refine st_y S (Yr.ys (ys_fieldN (FieldT.mk Tryz.underlying71 rfl Tryz.sizeOf9 rfl) (Ev.t rfl) (i' := 0) rfl)) rfl ?_; clear S a w; intro a w S)
    (refine st_y S (Yr.ys (ys_ld ⟨Tryz.isAgg9, Tryz.sizeOf9⟩ (Ev.t rfl) (k := 0) rfl rfl)) rfl ?_; clear S a w; intro a w S)
    (refine st_y S (ys_call Tryz.call148 (EvL.cons (Ev.t rfl) (EvL.cons (Ev.t rfl) EvL.nil)) (fun hp w W => c148 _ _ _)) rfl ?_; clear S a w; intro a w S)
    rw [rw_c] at S
    (refine st_y S (Yr.ys (ys_assign (Ev.t rfl))) rfl ?_; clear S a w; intro a w S)
    refine st_nil ?_
    (refine (then_normal (hK1 _ _ ?_)); clear hK1)
    refine wp_seq_k fun _ hK1 => ?_
    refine wp_seq_k fun _ hK2 => ?_
    refine wp_region_lit ?_
    (refine st_y S (Yr.ys (ys_fieldN (FieldT.mk Tryz.underlying71 rfl Tryz.sizeOf58 rfl) (Ev.t rfl) (i' := 1) rfl)) rfl ?_; clear S a w; intro a w S)
    (refine st_y S (Yr.ys (ys_fieldN (FieldT.mk Tryz.underlying58 rfl Tryz.sizeOf3 rfl) (Ev.t rfl) (i' := 1) rfl)) rfl ?_; clear S a w; intro a w S)
    (refine st_y S (Yr.ys (ys_ld ⟨Tryz.isAgg3, Tryz.sizeOf3⟩ (Ev.t rfl) (k := 1) rfl rfl)) rfl ?_; clear S a w; intro a w S)
    (refine st_y S (Yr.ys (ys_fieldN (FieldT.mk Tryz.underlying71 rfl Tryz.sizeOf58 rfl) (Ev.t rfl) (i' := 1) rfl)) rfl ?_; clear S a w; intro a w S)
    (refine st_y S (Yr.ys (ys_fieldN (FieldT.mk Tryz.underlying58 rfl Tryz.sizeOf3 rfl) (Ev.t rfl) (i' := 1) rfl)) rfl ?_; clear S a w; intro a w S)
    (refine st_y S (Yr.ys (ys_ld ⟨Tryz.isAgg3, Tryz.sizeOf3⟩ (Ev.t rfl) (k := 0) rfl rfl)) rfl ?_; clear S a w; intro a w S)
    (refine st_y S (Yr.ys (ys_subI (Ev.t rfl) (Ev.t rfl) (fun _ => by unfold I64; omega))) rfl ?_; clear S a w; intro a w S)
    (refine st_y S (Yr.ys (ys_fieldN (FieldT.mk Tryz.underlying71 rfl Tryz.sizeOf58 rfl) (Ev.t rfl) (i' := 1) rfl)) rfl ?_; clear S a w; intro a w S)
    (refine st_y S (Yr.ys (ys_fieldN (FieldT.mk Tryz.underlying58 rfl Tryz.sizeOf3 rfl) (Ev.t rfl) (i' := 2) rfl)) rfl ?_; clear S a w; intro a w S)
    (refine st_y S (Yr.ys (ys_ld ⟨Tryz.isAgg3, Tryz.sizeOf3⟩ (Ev.t rfl) (k := 1) rfl rfl)) rfl ?_; clear S a w; intro a w S)
    (refine st_y S (Yr.ys (ys_fieldN (FieldT.mk Tryz.underlying71 rfl Tryz.sizeOf58 rfl) (Ev.t rfl) (i' := 1) rfl)) rfl ?_; clear S a w; intro a w S)
    (refine st_y S (Yr.ys (ys_fieldN (FieldT.mk Tryz.underlying58 rfl Tryz.sizeOf3 rfl) (Ev.t rfl) (i' := 2) rfl)) rfl ?_; clear S a w; intro a w S)
    (refine st_y S (Yr.ys (ys_ld ⟨Tryz.isAgg3, Tryz.sizeOf3⟩ (Ev.t rfl) (k := 0) rfl rfl)) rfl ?_; clear S a w; intro a w S)
    (refine st_y S (Yr.ys (ys_subI (Ev.t rfl) (Ev.t rfl) (fun _ => by unfold I64; omega))) rfl ?_; clear S a w; intro a w S)
    (refine st_y S (Yr.ys (ys_fieldN (FieldT.mk Tryz.underlying71 rfl Tryz.sizeOf58 rfl) (Ev.t rfl) (i' := 1) rfl)) rfl ?_; clear S a w; intro a w S)
    (refine st_y S (Yr.ys (ys_fieldN (FieldT.mk Tryz.underlying58 rfl Tryz.sizeOf3 rfl) (Ev.t rfl) (i' := 3) rfl)) rfl ?_; clear S a w; intro a w S)
    (refine st_y S (Yr.ys (ys_ld ⟨Tryz.isAgg3, Tryz.sizeOf3⟩ (Ev.t rfl) (k := 1) rfl rfl)) rfl ?_; clear S a w; intro a w S)
    (refine st_y S (Yr.ys (ys_fieldN (FieldT.mk Tryz.underlying71 rfl Tryz.sizeOf58 rfl) (Ev.t rfl) (i' := 1) rfl)) rfl ?_; clear S a w; intro a w S)
    (refine st_y S (Yr.ys (ys_fieldN (FieldT.mk Tryz.underlying58 rfl Tryz.sizeOf3 rfl) (Ev.t rfl) (i' := 3) rfl)) rfl ?_; clear S a w; intro a w S)
    (refine st_y S (Yr.ys (ys_ld ⟨Tryz.isAgg3, Tryz.sizeOf3⟩ (Ev.t rfl) (k := 0) rfl rfl)) rfl ?_; clear S a w; intro a w S)
    (refine st_y S (Yr.ys (ys_subI (Ev.t rfl) (Ev.t rfl) (fun _ => by unfold I64; omega))) rfl ?_; clear S a w; intro a w S)
    (refine st_m (op_bsliceZ (ps := [(0, Go.Operand.tmp 19), (1, Go.Operand.tmp 26), (2, Go.Operand.tmp 33)]) (us := [_, _, _]) S Tryz.underlying23 Tryz.sizeOf3 Tryz.zeroValue3 rfl rfl (EvL.cons (Ev.t rfl) (EvL.cons (Ev.t rfl) (EvL.cons (Ev.t rfl) EvL.nil))) rfl rfl ?_); clear S a w; intro g3 a w S)
    (refine st_y S (Yr.ys (ys_lenS Tryz.underlying23 (Ev.t rfl))) rfl ?_; clear S a w; intro a w S)
    (refine st_y S (Yr.ys (ys_move Ev.c)) rfl ?_; clear S a w; intro a w S)
    refine st_nil ?_
    (refine (then_normal (hK2 _ _ ?_)); clear hK2)
    refine wp_block ?_
    refine st_rounds 4 (st_round ?_)
    refine wp_seq_k fun _ hK2 => ?_
    refine wp_region_lit ?_
    (refine st_y S (Yr.ys (ys_T (by omega) (ys_lss (Ev.t rfl) (Ev.t rfl)))) rfl ?_; clear S a w; intro a w S)
    refine st_nil ?_
    (refine (then_normal (hK2 _ _ ?_)); clear hK2)
    refine wp_seq_k fun _ hK2 => ?_
    refine st_then S (Ev.t rfl) ?_
    refine wp_skip ?_
    (refine (then_normal (hK2 _ _ ?_)); clear hK2)
    refine wp_seq_k fun _ hK2 => ?_
    refine wp_block ?_
    refine wp_seq_k fun _ hK3 => ?_
    refine wp_region_lit ?_
    (refine st_y S (Yr.ys (ys_ixS (j := 0) Tryz.underlying23 Tryz.sizeOf3 (Ev.t rfl) (Ev.t rfl) (fun _ => by omega))) rfl ?_; clear S a w; intro a w S)
    (refine st_y S (Yr.ys (ys_ld ⟨Tryz.isAgg3, Tryz.sizeOf3⟩ (Ev.t rfl) (k := 0) rfl rfl)) rfl ?_; clear S a w; intro a w S)
    (refine st_y S (Yr.ys (ys_assign (Ev.t rfl))) rfl ?_; clear S a w; intro a w S)
    refine st_nil ?_
    (refine (then_normal (hK3 _ _ ?_)); clear hK3)
    refine wp_seq_k fun _ hK3 => ?_
    refine wp_region_lit ?_
    (refine st_y S (Yr.ys (ys_move (Ev.t rfl))) rfl ?_; clear S a w; intro a w S)
    (refine st_y S (Yr.ys (ys_T (by omega) (ys_eql (Ev.t rfl) Ev.c))) rfl ?_; clear S a w; intro a w S)
    refine st_nil ?_
    (refine (then_normal (hK3 _ _ ?_)); clear hK3)
    refine st_then S (Ev.t rfl) ?_
    refine wp_region_lit ?_
    (refine st_y S (Yr.ys (ys_move (Ev.t rfl))) rfl ?_; clear S a w; intro a w S)
    (refine st_y S (Yr.ys (ys_assign (Ev.t rfl))) rfl ?_; clear S a w; intro a w S)
    refine st_nil ?_
    (refine (in_normal (then_normal (hK2 _ _ ?_))); clear hK2)
    refine wp_region_lit ?_
    (refine st_y S (Yr.ys (ys_addI (Ev.t rfl) Ev.c (fun _ => by unfold I64; omega))) rfl ?_; clear S a w; intro a w S)
    rw [rw_1] at S
    (refine st_y S (Yr.ys (ys_move (Ev.t rfl))) rfl ?_; clear S a w; intro a w S)
    refine st_nil ?_
    refine (then_normal ?_)
    refine st_round ?_
    refine wp_seq_k fun _ hK2 => ?_
    refine wp_region_lit ?_
    (refine st_y S (Yr.ys (ys_T (by omega) (ys_lss (Ev.t rfl) (Ev.t rfl)))) rfl ?_; clear S a w; intro a w S)
    refine st_nil ?_
    (refine (then_normal (hK2 _ _ ?_)); clear hK2)
    refine wp_seq_k fun _ hK2 => ?_
    refine st_then S (Ev.t rfl) ?_
    refine wp_skip ?_
    (refine (then_normal (hK2 _ _ ?_)); clear hK2)
    refine wp_seq_k fun _ hK2 => ?_
    refine wp_block ?_
    refine wp_seq_k fun _ hK3 => ?_
    refine wp_region_lit ?_
    (refine st_y S (Yr.ys (ys_ixS (j := 1) Tryz.underlying23 Tryz.sizeOf3 (Ev.t rfl) (Ev.t rfl) (fun _ => by omega))) rfl ?_; clear S a w; intro a w S)
    (refine st_y S (Yr.ys (ys_ld ⟨Tryz.isAgg3, Tryz.sizeOf3⟩ (Ev.t rfl) (k := 0) rfl rfl)) rfl ?_; clear S a w; intro a w S)
    (refine st_y S (Yr.ys (ys_assign (Ev.t rfl))) rfl ?_; clear S a w; intro a w S)
    refine st_nil ?_
    (refine (then_normal (hK3 _ _ ?_)); clear hK3)
    refine wp_seq_k fun _ hK3 => ?_
    refine wp_region_lit ?_
    (refine st_y S (Yr.ys (ys_move (Ev.t rfl))) rfl ?_; clear S a w; intro a w S)
    (refine st_y S (Yr.ys (ys_T (by omega) (ys_eql (Ev.t rfl) Ev.c))) rfl ?_; clear S a w; intro a w S)
    refine st_nil ?_
    (refine (then_normal (hK3 _ _ ?_)); clear hK3)
    refine st_then S (Ev.t rfl) ?_
    refine wp_region_lit ?_
    (refine st_y S (Yr.ys (ys_move (Ev.t rfl))) rfl ?_; clear S a w; intro a w S)
    (refine st_y S (Yr.ys (ys_assign (Ev.t rfl))) rfl ?_; clear S a w; intro a w S)
    refine st_nil ?_
    (refine (in_normal (then_normal (hK2 _ _ ?_))); clear hK2)
    refine wp_region_lit ?_
    (refine st_y S (Yr.ys (ys_addI (Ev.t rfl) Ev.c (fun _ => by unfold I64; omega))) rfl ?_; clear S a w; intro a w S)
    rw [rw_2] at S
    (refine st_y S (Yr.ys (ys_move (Ev.t rfl))) rfl ?_; clear S a w; intro a w S)
    refine st_nil ?_
    refine (then_normal ?_)
    refine st_round ?_
    refine wp_seq_k fun _ hK2 => ?_
    refine wp_region_lit ?_
    (refine st_y S (Yr.ys (ys_T (by omega) (ys_lss (Ev.t rfl) (Ev.t rfl)))) rfl ?_; clear S a w; intro a w S)
    refine st_nil ?_
    (refine (then_normal (hK2 _ _ ?_)); clear hK2)
    refine wp_seq_k fun _ hK2 => ?_
    refine st_then S (Ev.t rfl) ?_
    refine wp_skip ?_
    (refine (then_normal (hK2 _ _ ?_)); clear hK2)
    refine wp_seq_k fun _ hK2 => ?_
    refine wp_block ?_
    refine wp_seq_k fun _ hK3 => ?_
    refine wp_region_lit ?_
    (refine st_y S (Yr.ys (ys_ixS (j := 2) Tryz.underlying23 Tryz.sizeOf3 (Ev.t rfl) (Ev.t rfl) (fun _ => by omega))) rfl ?_; clear S a w; intro a w S)
    (refine st_y S (Yr.ys (ys_ld ⟨Tryz.isAgg3, Tryz.sizeOf3⟩ (Ev.t rfl) (k := 0) rfl rfl)) rfl ?_; clear S a w; intro a w S)
    (refine st_y S (Yr.ys (ys_assign (Ev.t rfl))) rfl ?_; clear S a w; intro a w S)
    refine st_nil ?_
    (refine (then_normal (hK3 _ _ ?_)); clear hK3)
    refine wp_seq_k fun _ hK3 => ?_
    refine wp_region_lit ?_
    (refine st_y S (Yr.ys (ys_move (Ev.t rfl))) rfl ?_; clear S a w; intro a w S)
    (refine st_y S (Yr.ys (ys_T (by omega) (ys_eql (Ev.t rfl) Ev.c))) rfl ?_; clear S a w; intro a w S)
    refine st_nil ?_
    (refine (then_normal (hK3 _ _ ?_)); clear hK3)
    refine st_then S (Ev.t rfl) ?_
    refine wp_region_lit ?_
    (refine st_y S (Yr.ys (ys_move (Ev.t rfl))) rfl ?_; clear S a w; intro a w S)
    (refine st_y S (Yr.ys (ys_assign (Ev.t rfl))) rfl ?_; clear S a w; intro a w S)
    refine st_nil ?_
    (refine (in_normal (then_normal (hK2 _ _ ?_))); clear hK2)
    refine wp_region_lit ?_
    (refine st_y S (Yr.ys (ys_addI (Ev.t rfl) Ev.c (fun _ => by unfold I64; omega))) rfl ?_; clear S a w; intro a w S)
    rw [rw_3] at S
    (refine st_y S (Yr.ys (ys_move (Ev.t rfl))) rfl ?_; clear S a w; intro a w S)
    refine st_nil ?_
    refine (then_normal ?_)
    refine st_round ?_
    refine wp_seq_k fun _ hK2 => ?_
    refine wp_region_lit ?_
    (refine st_y S (Yr.ys (ys_F (by omega) (ys_lss (Ev.t rfl) (Ev.t rfl)))) rfl ?_; clear S a w; intro a w S)
    refine st_nil ?_
    (refine (then_normal (hK2 _ _ ?_)); clear hK2)
    refine wp_seq_k fun _ hK2 => ?_
    refine st_else S (Ev.t rfl) ?_
    refine wp_exit ?_
    (refine (then_exit (then_exit (in_here (then_normal (hK1 _ _ ?_))))); clear hK1)
    refine wp_seq_k fun _ hK1 => ?_
    refine wp_region_lit ?_
    (refine st_y S (Yr.ys (ys_move (Ev.t rfl))) rfl ?_; clear S a w; intro a w S)
    (refine st_y S (Yr.ys (ys_assign (Ev.t rfl))) rfl ?_; clear S a w; intro a w S)
    refine st_nil ?_
    (refine (then_normal (hK1 _ _ ?_)); clear hK1)
    refine wp_ret ?_
    refine st_ret S (results1 S Tryz.results83 (Rv.tmp rfl)) ?_
    exact ⟨rfl, S.wd.below⟩
end Go.Proofs.YtfblmkocmnbdcaaGreat.Tk
namespace Go.Proofs
open Go.Shelf
def Tryz.sortEnts_ren : Go.Shelf.Ren := ⟨fun | 6 => 82 | 15 => 147 | 14 => 146 | 28 => 185 | 29 => 186 | 20 => 177 | 21 => 178 | 22 => 179 | 23 => 180 | 24 => 181 | 25 => 182 | 26 => 183 | 27 => 184 | 46 => 201 | 47 => 202 | 48 => 203 | 49 => 204 | 50 => 205 | 57 => 221 | n => n, fun | 22 => 33 | 24 => 71 | 25 => 119 | 3 => 3 | 39 => 87 | 0 => 0 | 53 => 189 | 55 => 27 | 4 => 4 | 46 => 199 | 45 => 198 | 50 => 203 | 5 => 5 | 9 => 9 | 66 => 223 | 70 => 148 | 76 => 236 | 77 => 237 | n => n, fun | n => n⟩
theorem Tryz.sortEnts : Go.Proofs.SlLaysF0.n6 Tryz.prog Tryz.sortEnts_ren := {
  mixed := by kernel_rfl
  f6 := ⟨Tryz.f82.name, by decide, Tryz.func82.trans (congrArg some (by kernel_rfl))⟩
  f14 := ⟨Tryz.f146.name, by decide, Tryz.func146.trans (congrArg some (by kernel_rfl))⟩
  f15 := Tryz.func147.trans (congrArg some (by kernel_rfl))
  f20 := ⟨Tryz.f177.name, by decide, Tryz.func177.trans (congrArg some (by kernel_rfl))⟩
  f21 := ⟨Tryz.f178.name, by decide, Tryz.func178.trans (congrArg some (by kernel_rfl))⟩
  f22 := ⟨Tryz.f179.name, by decide, Tryz.func179.trans (congrArg some (by kernel_rfl))⟩
  f23 := ⟨Tryz.f180.name, by decide, Tryz.func180.trans (congrArg some (by kernel_rfl))⟩
  f24 := ⟨Tryz.f181.name, by decide, Tryz.func181.trans (congrArg some (by kernel_rfl))⟩
  f25 := ⟨Tryz.f182.name, by decide, Tryz.func182.trans (congrArg some (by kernel_rfl))⟩
  f26 := ⟨Tryz.f183.name, by decide, Tryz.func183.trans (congrArg some (by kernel_rfl))⟩
  f27 := ⟨Tryz.f184.name, by decide, Tryz.func184.trans (congrArg some (by kernel_rfl))⟩
  f28 := Tryz.func185.trans (congrArg some (by kernel_rfl))
  f29 := Tryz.func186.trans (congrArg some (by kernel_rfl))
  f46 := ⟨Tryz.f201.name, by decide, Tryz.func201.trans (congrArg some (by kernel_rfl))⟩
  f47 := Tryz.func202.trans (congrArg some (by kernel_rfl))
  f48 := Tryz.func203.trans (congrArg some (by kernel_rfl))
  f49 := ⟨Tryz.f204.name, by decide, Tryz.func204.trans (congrArg some (by kernel_rfl))⟩
  f50 := ⟨Tryz.f205.name, by decide, Tryz.func205.trans (congrArg some (by kernel_rfl))⟩
  f57 := ⟨Tryz.f221.name, by decide, Tryz.func221.trans (congrArg some (by kernel_rfl))⟩
  t0 := Tryz.underlying0
  a0 := Tryz.isAgg0
  z0 := Tryz.sizeOf0
  v0 := Tryz.zeroValue0
  t3 := Tryz.underlying3
  a3 := Tryz.isAgg3
  z3 := Tryz.sizeOf3
  v3 := Tryz.zeroValue3
  t4 := Tryz.underlying4
  a4 := Tryz.isAgg4
  z4 := Tryz.sizeOf4
  v4 := Tryz.zeroValue4
  t5 := Tryz.underlying5
  a5 := Tryz.isAgg5
  z5 := Tryz.sizeOf5
  v5 := Tryz.zeroValue5
  t9 := Tryz.underlying9
  a9 := Tryz.isAgg9
  z9 := Tryz.sizeOf9
  v9 := Tryz.zeroValue9
  t22 := Tryz.underlying33
  a22 := Tryz.isAgg33
  z22 := Tryz.sizeOf33
  v22 := Tryz.zeroValue33
  t25 := Tryz.underlying119
  a25 := Tryz.isAgg119
  z25 := Tryz.sizeOf119
  v25 := Tryz.zeroValue119
  t39 := Tryz.underlying87
  a39 := Tryz.isAgg87
  z39 := Tryz.sizeOf87
  v39 := Tryz.zeroValue87
  t45 := Tryz.underlying198
  a45 := Tryz.isAgg198
  z45 := Tryz.sizeOf198
  v45 := Tryz.zeroValue198
  t46 := Tryz.underlying199
  a46 := Tryz.isAgg199
  z46 := Tryz.sizeOf199
  v46 := Tryz.zeroValue199
  t50 := Tryz.underlying203
  a50 := Tryz.isAgg203
  z50 := Tryz.sizeOf203
  v50 := Tryz.zeroValue203
  t53 := Tryz.underlying189
  a53 := Tryz.isAgg189
  z53 := Tryz.sizeOf189
  v53 := Tryz.zeroValue189
  t55 := Tryz.underlying27
  a55 := Tryz.isAgg27
  z55 := Tryz.sizeOf27
  v55 := Tryz.zeroValue27
  t66 := Tryz.underlying223
  a66 := Tryz.isAgg223
  z66 := Tryz.sizeOf223
  v66 := Tryz.zeroValue223
  t70 := Tryz.underlying148
  a70 := Tryz.isAgg148
  z70 := Tryz.sizeOf148
  v70 := Tryz.zeroValue148
  t76 := Tryz.underlying236
  a76 := Tryz.isAgg236
  z76 := Tryz.sizeOf236
  v76 := Tryz.zeroValue236
  t77 := Tryz.underlying237
  a77 := Tryz.isAgg237
  z77 := Tryz.sizeOf237
  v77 := Tryz.zeroValue237 }
end Go.Proofs
set_option linter.unusedVariables false
set_option linter.unusedSimpArgs false
set_option maxRecDepth 100000
set_option maxHeartbeats 4000000
namespace Go.Fw
theorem insE_none {e : Ent} : ∀ {l : List Ent}, (∀ y ∈ l, ¬ ltE e y) → insE e l = l ++ [e]
  | [], _ => rfl
  | x :: r, h => by
    rw [insE, if_neg (h x (by simp)), insE_none fun y hy => h y (by simp [hy])]
    rfl
theorem insE_put {e x : Ent} : ∀ {l : List Ent}, (∃ y ∈ l, ltE e y) → insE e (l ++ [x]) = insE e l ++ [x]
  | [], h => by obtain ⟨y, hy, _⟩ := h; simp at hy
  | z :: r, h => by
    rw [List.cons_append, insE, insE]
    by_cases hz : ltE e z
    · rw [if_pos hz, if_pos hz]; rfl
    · rw [if_neg hz, if_neg hz, insE_put (l := r)]
      · rfl
      · obtain ⟨y, hy, hy2⟩ := h
        rcases List.mem_cons.1 hy with rfl | hy
        · exact absurd hy2 hz
        · exact ⟨y, hy, hy2⟩
theorem insE_new {e x : Ent} : ∀ {l : List Ent}, (∀ y ∈ l, ¬ ltE e y) → ltE e x → insE e (l ++ [x]) = l ++ [e, x]
  | [], _, h => by simp [insE, h]
  | z :: r, h, hx => by
    rw [List.cons_append, insE, if_neg (h z (by simp)), insE_new (fun y hy => h y (by simp [hy])) hx]
    rfl
end Go.Fw
namespace Go.Proofs.YtfblmkocmnbdcaaGreat
open Go.Fw Go.Proofs Go.RowKit Go.Sort Go.Proofs.Tryz
theorem ordT (W : World) (x y : MEnt) : Calls Tryz.prog 83 #[.agg (MEnt.enc x).toArray, .agg (MEnt.enc y).toArray] W fun e w' => e = .returned (.int .i64 (ordE x.1 y.1)) ∧ Go.Ft.Bel W.heap.size W w' := by
  obtain ⟨⟨s, ⟨a, b, c⟩, q, p⟩, hx⟩ := x
  obtain ⟨⟨s', ⟨a', b', c'⟩, q', p'⟩, hy⟩ := y
  exact Tk.c83 W ⟨s, ⟨a, b, c⟩, q, p⟩ ⟨s', ⟨a', b', c'⟩, q', p'⟩ hx hy
theorem k82 {w0 w : World} {L : List Chunk} {A : Option Addr} {cap : Nat} {l r : List Ent} (W : Wd w0 (rowOf 71 6 Ent.enc A cap l :: L) w) (hm : ∀ x ∈ l, mayD x.dot = true) (hn : l.length ≤ 4194304)
    (hd : (l.map (·.dot)).Nodup) (hr : r.Pairwise ltE) (hlr : ∀ x, x ∈ r ↔ x ∈ l) :
    RetsO Tryz.prog 82 #[.slice A l.length cap, .func (.func 83) #[] #[]] w0 w fun v L' => v = .tuple #[] ∧ l.length = r.length ∧ L' = rowOf 71 6 Ent.enc A cap r :: L := by
  obtain ⟨ls, rfl⟩ : ∃ ls : List MEnt, ls.map (·.1) = l := ⟨l.pmap Subtype.mk hm, by simp [List.map_pmap]⟩
  have e1 : ∀ ls : List MEnt, rowOf 71 6 Ent.enc A cap (ls.map (·.1)) = rowOf 71 6 MEnt.enc A cap ls := fun ls => by
    unfold rowOf
    rw [encE_map, List.length_map]
  rw [e1] at W
  rw [List.length_map] at hn ⊢
  have h := sort_any Tryz.sortEnts 6 (by omega) isAgg71 sizeOf71 MEnt.enc (fun _ => rfl) (fun x => Ent.enc_one x.1) (fun x y => ordE x.1 y.1) swoE 83 call83
    (fun x y W => ordT W x y) W hn
  refine Calls.mono h fun e w' ⟨v, L', he, W', l', hv, hp, hs, hL⟩ => ?_
  have hl : l'.map (·.1) = r := sortE (hp.map _) (by rw [List.pairwise_map]; exact hs) hd hr hlr
  have hlen := hp.length_eq
  refine ⟨v, L', he, W', hv, ?_, ?_⟩
  · rw [← hl, List.length_map, hlen]
  · rw [hL, ← e1, hl]
theorem c88 (w0 : World) (v1 : Value) (A2 A3 : Option Addr) (n2 c2 n3 c3 : Nat) (l : List Ent) (h : Sl Ent.enc 6 w0 w0.heap.size v1 l) (hn : l.length ≤ 4194304) :
    Calls Tryz.prog 88 #[.agg #[v1, .slice A2 n2 c2, .slice A3 n3 c3]] w0 fun e w' => e = .returned (if 64 < l.length ∨ 32 < itemsN l then .tuple #[.agg #[.slice none 0 0, .slice none 0 0, .slice none 0 0], .int .i64 51] else .tuple #[.agg #[v1, .slice A2 n2 c2, .slice A3 n3 c3], .int .i64 0]) ∧ Bel w0.heap.size w0 w' := by
  have hs := h
  obtain ⟨A, cap, rfl, hl, hcap, hA⟩ := h
  by_cases h1 : 64 < l.length
  · refine enter1 func88 rfl ntmps88 rfl fun a S => wp_seq_k fun _ hK1 => wp_region_lit (st_m (op_box S (.t rfl) rfl fun g1 a w S => st_m (op_alloc S zeroValue39 (cs := _) rfl rfl fun g2 a w S => run S (.ac rfl <| .z) fun a w S => st_nil (then_normal (hK1 _ _ (wp_seq_k fun _ hK1 => sg S (.fa underlying39 sizeOf33 0 rfl rfl rfl <| .ld gt33 1 rfl rfl rfl <| .ln underlying33 rfl <| .yy (ys_T (by omega) (ys_gtr (.t rfl) Ev.c)) rfl <| .mv rfl <| .sk rfl rfl rfl <| .sk rfl rfl rfl <| .sk rfl rfl rfl <| .sk rfl rfl rfl <| .yy (ys_pickT (.t rfl) Ev.c) rfl <| .z) fun a w S => st_then S (.t rfl) (wp_seq_k fun _ hK2 => wp_region_lit (run S (.yy (ys_bld (ps := []) (us := [_, _, _]) bld39 .nil rfl) rfl <| .z) fun a w S => st_m (op_stW S sizeOf39 (.t rfl) (.t rfl) (k := 0) rfl rfl rfl (by simp [Value.oneCell']) fun a w S => run S (.ac rfl <| .z) fun a w S => st_nil (then_normal (hK2 _ _ (wp_ret (then_ret (st_ret S (results2 S results88 (Rv.cell (k := 0) ⟨isAgg39, sizeOf39⟩ rfl rfl rfl) (Rv.tmp rfl)) ?_))))))))))))))
    exact ⟨by rw [if_pos (.inl h1)], S.wd.below⟩
  by_cases h2 : 32 < itemsN l
  · refine enter1 func88 rfl ntmps88 rfl fun a S => wp_seq_k fun _ hK1 => wp_region_lit (st_m (op_box S (.t rfl) rfl fun g1 a w S => st_m (op_alloc S zeroValue39 (cs := _) rfl rfl fun g2 a w S => run S (.ac rfl <| .z) fun a w S => st_nil (then_normal (hK1 _ _ (wp_seq_k fun _ hK1 => sg S (.fa underlying39 sizeOf33 0 rfl rfl rfl <| .ld gt33 1 rfl rfl rfl <| .ln underlying33 rfl <| .yy (ys_F (by omega) (ys_gtr (.t rfl) Ev.c)) rfl <| .mv rfl <| .gy rfl rfl (ys_fieldN (FieldT.mk underlying39 rfl sizeOf33 rfl) (.t rfl) (i' := 0) rfl) <| .gy rfl rfl (ys_ld ⟨isAgg33, sizeOf33⟩ (.t rfl) (k := 1) rfl rfl) <| .gx rfl rfl (ys_call call131 (.cons (.t rfl) .nil) (fun hp w W => c131 _ _ _ (by exact .old W (by assumption)) (by assumption))) <| .gy rfl rfl (ys_T (by omega) (ys_gtr (.t rfl) Ev.c)) <| .yy (ys_pickF (.t rfl) (.t rfl)) rfl <| .z) fun a w S => st_then S (.t rfl) (wp_seq_k fun _ hK2 => wp_region_lit (run S (.yy (ys_bld (ps := []) (us := [_, _, _]) bld39 .nil rfl) rfl <| .z) fun a w S => st_m (op_stW S sizeOf39 (.t rfl) (.t rfl) (k := 0) rfl rfl rfl (by simp [Value.oneCell']) fun a w S => run S (.ac rfl <| .z) fun a w S => st_nil (then_normal (hK2 _ _ (wp_ret (then_ret (st_ret S (results2 S results88 (Rv.cell (k := 0) ⟨isAgg39, sizeOf39⟩ rfl rfl rfl) (Rv.tmp rfl)) ?_))))))))))))))
    exact ⟨by rw [if_pos (.inr h2)], S.wd.below⟩
  · refine enter1 func88 rfl ntmps88 rfl fun a S => wp_seq_k fun _ hK1 => wp_region_lit (st_m (op_box S (.t rfl) rfl fun g1 a w S => st_m (op_alloc S zeroValue39 (cs := _) rfl rfl fun g2 a w S => run S (.ac rfl <| .z) fun a w S => st_nil (then_normal (hK1 _ _ (wp_seq_k fun _ hK1 => sg S (.fa underlying39 sizeOf33 0 rfl rfl rfl <| .ld gt33 1 rfl rfl rfl <| .ln underlying33 rfl <| .yy (ys_F (by omega) (ys_gtr (.t rfl) Ev.c)) rfl <| .mv rfl <| .gy rfl rfl (ys_fieldN (FieldT.mk underlying39 rfl sizeOf33 rfl) (.t rfl) (i' := 0) rfl) <| .gy rfl rfl (ys_ld ⟨isAgg33, sizeOf33⟩ (.t rfl) (k := 1) rfl rfl) <| .gx rfl rfl (ys_call call131 (.cons (.t rfl) .nil) (fun hp w W => c131 _ _ _ (by exact .old W (by assumption)) (by assumption))) <| .gy rfl rfl (ys_F (by omega) (ys_gtr (.t rfl) Ev.c)) <| .yy (ys_pickF (.t rfl) (.t rfl)) rfl <| .z) fun a w S => st_else S (.t rfl) (wp_skip (then_normal (hK1 _ _ (wp_seq_k fun _ hK1 => wp_region_lit (run S (.la gt39 1 rfl rfl rfl <| .z) fun a w S => st_m (op_stW S sizeOf39 (.t rfl) (.t rfl) (k := 0) rfl rfl rfl (by simp [Value.oneCell']) fun a w S => run S (.ac rfl <| .z) fun a w S => st_nil (then_normal (hK1 _ _ (wp_ret (st_ret S (results2 S results88 (Rv.cell (k := 0) ⟨isAgg39, sizeOf39⟩ rfl rfl rfl) (Rv.tmp rfl)) ?_))))))))))))))))
    exact ⟨by rw [if_neg (by omega)], S.wd.below⟩
theorem c93 (w0 : World) (v1 : Value) (A2 A3 : Option Addr) (n2 c2 n3 c3 : Nat) (l : List Ent) (x : Ent) (h : Sl Ent.enc 6 w0 w0.heap.size v1 l) :
    Calls Tryz.prog 93 #[.agg #[v1, .slice A2 n2 c2, .slice A3 n3 c3], .agg (Ent.enc x).toArray] w0 fun e w' => e = .returned (.bool (decide (x ∈ l))) ∧ Bel w0.heap.size w0 w' := by
  obtain ⟨A, cap, rfl, hl, hcap, hA⟩ := h
  refine enter2 func93 rfl ntmps93 rfl fun a S => wp_seq_k fun _ hK1 => wp_region_lit (st_m (op_box S (.t rfl) rfl fun g1 a w S => st_m (op_box S (.t rfl) rfl fun g2 a w S => run S (.ac rfl <| .z) fun a w S => st_nil (then_normal (hK1 _ _ (wp_seq_k fun _ hK1 => sg S (.fa underlying39 sizeOf33 0 rfl rfl rfl <| .ld gt33 1 rfl rfl rfl <| .ln underlying33 rfl <| .mc rfl <| .z) fun a w S => wp_block ?_))))))
  refine st_lpM S [6, 10] (X := Nat) (fun k => [(10, true, .int .i64 (k : Int))]) (fun _ => [.blk g2 (.cells (Ent.enc x).toArray 71), .blk g1 (.cells #[.slice A l.length cap, .slice A2 n2 c2, .slice A3 n3 c3] 39)]) (fun k => k ≤ l.length ∧ x ∉ l.take k) (fun k => l.length - k) 0 ⟨Nat.zero_le _, by simp⟩ ?_
  clear S
  intro k a w ⟨hk, hno⟩ S
  by_cases hlt : k < l.length
  · obtain ⟨g, o, m, rfl, hm, hd, hc⟩ := row_at hA hlt
    by_cases he : m = x
    · have rw_e := decide_eq_true (ent_iff.1 he)
      refine sg S (.lt (by omega) rfl rfl <| .z) fun a w S => wp_seq_k fun _ hK2 => st_then S (.t rfl) (wp_skip (then_normal (hK2 _ _ (wp_seq_k fun _ hK2 => wp_block (wp_seq_k fun _ hK3 => wp_region_lit (run S (.ix underlying33 sizeOf71 (by omega) rfl rfl <| .yy (ys_ldOA ⟨isAgg71, sizeOf71⟩ (.t rfl) (vs := [_, _, _, _, _, _]) rfl (fun _ => hc)) rfl <| .z) fun a w S => st_m (op_alloc S zeroValue71 (cs := _) rfl rfl fun g3 a w S => st_m (op_stW S sizeOf71 (.t rfl) (.t rfl) (k := 0) rfl rfl rfl (by simp [Value.oneCell']) fun a w S => st_nil (then_normal (hK3 _ _ (wp_seq_k fun _ hK3 => wp_region_lit (run S (.la gt71 0 rfl rfl rfl <| .la gt71 1 rfl rfl rfl <| .yy (ys_eqA (.t rfl) (.t rfl) eq71) rfl <| .z) fun a w S => ?_))))))))))))
      rw [rw_e] at S
      refine st_nil (then_normal (hK3 _ _ (st_then S (.t rfl) (sg S (.ac rfl <| .z) fun a w S => wp_ret (in_ret (then_ret (then_ret (in_ret (then_ret (st_ret S (results1 S results93 (Rv.tmp rfl)) ?_))))))))))
      exact ⟨by rw [decide_eq_true (he ▸ List.mem_of_getElem? hm)], S.wd.below⟩
    · have rw_e := decide_eq_false (fun h => he (ent_iff.2 h))
      refine sg S (.lt (by omega) rfl rfl <| .z) fun a w S => wp_seq_k fun _ hK2 => st_then S (.t rfl) (wp_skip (then_normal (hK2 _ _ (wp_seq_k fun _ hK2 => wp_block (wp_seq_k fun _ hK3 => wp_region_lit (run S (.ix underlying33 sizeOf71 (by omega) rfl rfl <| .yy (ys_ldOA ⟨isAgg71, sizeOf71⟩ (.t rfl) (vs := [_, _, _, _, _, _]) rfl (fun _ => hc)) rfl <| .z) fun a w S => st_m (op_alloc S zeroValue71 (cs := _) rfl rfl fun g3 a w S => st_m (op_stW S sizeOf71 (.t rfl) (.t rfl) (k := 0) rfl rfl rfl (by simp [Value.oneCell']) fun a w S => st_nil (then_normal (hK3 _ _ (wp_seq_k fun _ hK3 => wp_region_lit (run S (.la gt71 0 rfl rfl rfl <| .la gt71 1 rfl rfl rfl <| .yy (ys_eqA (.t rfl) (.t rfl) eq71) rfl <| .z) fun a w S => ?_))))))))))))
      rw [rw_e] at S
      refine st_nil (then_normal (hK3 _ _ (st_else S (.t rfl) (wp_skip (in_normal (then_normal (hK2 _ _ (wp_region_lit (run S (.ad (by unfold I64; omega) rfl <| .mv rfl <| .z) fun a w S => st_nil (then_normal ?_))))))))))
      refine ⟨k + 1, ⟨by omega, ?_⟩, by omega, S.pk⟩
      rw [List.take_add_one, hm, Option.toList_some]
      intro h
      rcases List.mem_append.1 h with h | h
      · exact hno h
      · simp at h; exact he h.symm
  · obtain rfl : k = l.length := by omega
    rw [List.take_length] at hno
    refine sg S (.ge (by omega) rfl rfl <| .z) fun a w S => wp_seq_k fun _ hK2 => st_else S (.t rfl) (wp_exit (then_exit (then_exit (in_here (then_normal (hK1 _ _ (sg S (.ac rfl <| .z) fun a w S => wp_ret (st_ret S (results1 S results93 (Rv.tmp rfl)) ?_))))))))
    exact ⟨by rw [decide_eq_false hno], S.wd.below⟩
def outE (e : Ent) (l : List Ent) (put : Bool) : List Ent := if put then insE e l else l
theorem c86 (w0 : World) (v : Value) (l : List Ent) (e : Ent) (h : Sl Ent.enc 6 w0 w0.heap.size v l) (hn : l.length ≤ 1048576) :
    Rets Tryz.prog 86 #[v, .agg (Ent.enc e).toArray] w0 fun u L => ∃ A1 r1, u = .slice A1 (insE e l).length r1 ∧ L = [rowOf 71 6 Ent.enc A1 r1 (insE e l)] := by
  obtain ⟨A, cap, rfl, hl, hcap, hA⟩ := h
  have hil : ∀ m, (insE e m).length = m.length + 1 := fun m => insE_len e m
  unfold Go.Fw.Rets
  refine enter2 func86 rfl ntmps86 rfl fun a S => wp_seq_k fun _ hK1 => wp_region_lit (st_m (op_box S (.t rfl) rfl fun g1 a w S => run S (.ac rfl <| .z) fun a w S => st_nil (then_normal (hK1 _ _ (sg S (.ac rfl <| .z) fun a w S => sg S (.ac rfl <| .z) fun a w S => wp_seq_k fun _ hK1 => sg S (.mv rfl <| .ln underlying33 rfl <| .mc rfl <| .z) fun a w S => wp_block ?_)))))
  replace S := S.nil_ 71 6 Ent.enc none
  refine st_lpM S [5, 6, 8, 11] (X := Nat × Bool × Option Addr × Nat) (fun q => [(5, true, .slice q.2.2.1 (outE e (l.take q.1) q.2.1).length q.2.2.2), (6, true, .bool q.2.1), (11, true, .int .i64 (q.1 : Int))])
    (fun q => [rowOf 71 6 Ent.enc q.2.2.1 q.2.2.2 (outE e (l.take q.1) q.2.1), .blk g1 (.cells (Ent.enc e).toArray 71)])
    (fun q => q.1 ≤ l.length ∧ (q.2.1 = true → ∃ y ∈ l.take q.1, ltE e y) ∧ (q.2.1 = false → ∀ y ∈ l.take q.1, ¬ ltE e y)) (fun q => l.length - q.1) (0, false, none, 0) ⟨Nat.zero_le _, by simp, by simp⟩ ?_
  clear S
  rintro ⟨k, put, B, cB⟩ a w ⟨hk, hp1, hp2⟩ S
  dsimp only at hk hp1 hp2 S
  have hol : (outE e (l.take k) put).length ≤ k + 1 := by
    unfold outE
    split
    · rw [hil, List.length_take]; omega
    · rw [List.length_take]; omega
  by_cases hlt : k < l.length
  · obtain ⟨g, o, x, rfl, hx, hd, hc⟩ := row_at hA hlt
    have ht : l.take (k + 1) = l.take k ++ [x] := by rw [List.take_add_one, hx, Option.toList_some]
    cases put with
    | true =>
      have hst : outE e (l.take (k + 1)) true = outE e (l.take k) true ++ [x] := by unfold outE; rw [ht, if_pos rfl, if_pos rfl, insE_put (hp1 rfl)]
      generalize outE e (l.take k) true = O at *
      refine sg S (.lt (by omega) rfl rfl <| .z) fun a w S => wp_seq_k fun _ hK2 => st_then S (.t rfl) (wp_skip (then_normal (hK2 _ _ (wp_seq_k fun _ hK2 => wp_block (wp_seq_k fun _ hK3 => wp_region_lit (run S (.ix underlying33 sizeOf71 (by omega) rfl rfl <| .yy (ys_ldOA ⟨isAgg71, sizeOf71⟩ (.t rfl) (vs := [_, _, _, _, _, _]) rfl (fun _ => hc)) rfl <| .z) fun a w S => st_m (op_alloc S zeroValue71 (cs := _) rfl rfl fun g2 a w S => st_m (op_stW S sizeOf71 (.t rfl) (.t rfl) (k := 0) rfl rfl rfl (by simp [Value.oneCell']) fun a w S => st_nil (then_normal (hK3 _ _ (wp_seq_k fun _ hK3 => sg S (.mv rfl <| .nt rfl <| .mv rfl <| .sk rfl rfl rfl <| .sk rfl rfl rfl <| .sk rfl rfl rfl <| .yy (ys_pickF (.t rfl) Ev.c) rfl <| .z) fun a w S => st_else S (.t rfl) (wp_skip (then_normal (hK3 _ _ (wp_region_lit (run S (.mv rfl <| .la gt71 0 rfl rfl rfl <| .z) fun a w S => st_m (op_bslice1 S underlying33 inf71 rfl rfl rfl (.t rfl) rfl rfl rfl fun g3 a w S => st_m (op_push S underlying33 inf71 rfl (k := 2) (j := 0) rfl (.t rfl) (.t rfl) rfl rfl rfl rfl (by first | omega | (simp only [List.length_append, List.length_cons, List.length_nil]; omega)) rfl rfl rfl fun A1 cap1 a w S => run S (.as rfl <| .z) fun a w S => st_nil (in_normal (then_normal (hK2 _ _ (wp_region_lit ?_))))))))))))))))))))))
      refine run S (.ad (by unfold I64; omega) rfl <| .mv rfl <| .z) fun a w S => st_nil (then_normal ?_)
      refine ⟨(k + 1, true, A1, cap1), ⟨by dsimp only; omega, fun _ => ?_, fun h => by cases h⟩, by dsimp only; omega, ?_⟩
      · obtain ⟨y, hy, hy2⟩ := hp1 rfl
        exact ⟨y, by rw [ht]; exact List.mem_append_left _ hy, hy2⟩
      · dsimp only; rw [hst]; exact S.pk
    | false =>
      by_cases hex : ltE e x
      · have hst : outE e (l.take (k + 1)) true = outE e (l.take k) false ++ [e] ++ [x] := by unfold outE; rw [ht, if_pos rfl, if_neg (by simp), insE_new (hp2 rfl) hex]; simp
        have rw_l : decide (ltE e x) = true := decide_eq_true hex
        generalize outE e (l.take k) false = O at *
        refine sg S (.lt (by omega) rfl rfl <| .z) fun a w S => wp_seq_k fun _ hK2 => st_then S (.t rfl) (wp_skip (then_normal (hK2 _ _ (wp_seq_k fun _ hK2 => wp_block (wp_seq_k fun _ hK3 => wp_region_lit (run S (.ix underlying33 sizeOf71 (by omega) rfl rfl <| .yy (ys_ldOA ⟨isAgg71, sizeOf71⟩ (.t rfl) (vs := [_, _, _, _, _, _]) rfl (fun _ => hc)) rfl <| .z) fun a w S => st_m (op_alloc S zeroValue71 (cs := _) rfl rfl fun g2 a w S => st_m (op_stW S sizeOf71 (.t rfl) (.t rfl) (k := 0) rfl rfl rfl (by simp [Value.oneCell']) fun a w S => st_nil (then_normal (hK3 _ _ (wp_seq_k fun _ hK3 => wp_seq_k fun _ hK4 => wp_region_lit (run S (.mv rfl <| .nt rfl <| .mv rfl <| .gy rfl rfl (ys_ldA ⟨isAgg71, sizeOf71⟩ (.t rfl) (k := 0) rfl rfl) <| .gy rfl rfl (ys_ldA ⟨isAgg71, sizeOf71⟩ (.t rfl) (k := 2) rfl rfl) <| .gx rfl rfl (ys_call call130 (.cons (.t rfl) (.cons (.t rfl) .nil)) (fun hp w W => c130 _ _ _)) <| .z) fun a w S => ?_))))))))))))
        rw [rw_l] at S
        refine run S (.yy (ys_pickT (.t rfl) (.t rfl)) rfl <| .z) fun a w S => st_nil (then_normal (hK4 _ _ (st_then S (.t rfl) (wp_seq_k fun _ hK4 => wp_region_lit (run S (.mv rfl <| .la gt71 2 rfl rfl rfl <| .z) fun a w S => st_m (op_bslice1 S underlying33 inf71 rfl rfl rfl (.t rfl) rfl rfl rfl fun g3 a w S => st_m (op_push S underlying33 inf71 rfl (k := 2) (j := 0) rfl (.t rfl) (.t rfl) rfl rfl rfl rfl (by first | omega | (simp only [List.length_append, List.length_cons, List.length_nil]; omega)) rfl rfl rfl fun A1 cap1 a w S => run S (.as rfl <| .z) fun a w S => st_nil (then_normal (hK4 _ _ (rg S (.ac rfl <| .z) hK3 fun a w S => wp_region_lit (run S (.mv rfl <| .la gt71 1 rfl rfl rfl <| .z) fun a w S => st_m (op_bslice1 S underlying33 inf71 rfl rfl rfl (.t rfl) rfl rfl rfl fun g4 a w S => st_m (op_push S underlying33 inf71 rfl (k := 3) (j := 0) rfl (.t rfl) (.t rfl) rfl rfl rfl rfl (by first | omega | (simp only [List.length_append, List.length_cons, List.length_nil]; omega)) rfl rfl rfl fun A2 cap2 a w S => run S (.as rfl <| .z) fun a w S => st_nil (in_normal (then_normal (hK2 _ _ (wp_region_lit (run S (.ad (by unfold I64; omega) rfl <| .mv rfl <| .z) fun a w S => st_nil (then_normal ?_)))))))))))))))))))
        refine ⟨(k + 1, true, A2, cap2), ⟨by dsimp only; omega, fun _ => ⟨x, by rw [ht]; simp, hex⟩, fun h => by cases h⟩, by dsimp only; omega, ?_⟩
        dsimp only; rw [hst]; exact S.pk
      · have hst : outE e (l.take (k + 1)) false = outE e (l.take k) false ++ [x] := by unfold outE; rw [ht, if_neg (by simp), if_neg (by simp)]
        have rw_l : decide (ltE e x) = false := decide_eq_false hex
        generalize outE e (l.take k) false = O at *
        refine sg S (.lt (by omega) rfl rfl <| .z) fun a w S => wp_seq_k fun _ hK2 => st_then S (.t rfl) (wp_skip (then_normal (hK2 _ _ (wp_seq_k fun _ hK2 => wp_block (wp_seq_k fun _ hK3 => wp_region_lit (run S (.ix underlying33 sizeOf71 (by omega) rfl rfl <| .yy (ys_ldOA ⟨isAgg71, sizeOf71⟩ (.t rfl) (vs := [_, _, _, _, _, _]) rfl (fun _ => hc)) rfl <| .z) fun a w S => st_m (op_alloc S zeroValue71 (cs := _) rfl rfl fun g2 a w S => st_m (op_stW S sizeOf71 (.t rfl) (.t rfl) (k := 0) rfl rfl rfl (by simp [Value.oneCell']) fun a w S => st_nil (then_normal (hK3 _ _ (wp_seq_k fun _ hK3 => wp_seq_k fun _ hK4 => wp_region_lit (run S (.mv rfl <| .nt rfl <| .mv rfl <| .gy rfl rfl (ys_ldA ⟨isAgg71, sizeOf71⟩ (.t rfl) (k := 0) rfl rfl) <| .gy rfl rfl (ys_ldA ⟨isAgg71, sizeOf71⟩ (.t rfl) (k := 2) rfl rfl) <| .gx rfl rfl (ys_call call130 (.cons (.t rfl) (.cons (.t rfl) .nil)) (fun hp w W => c130 _ _ _)) <| .z) fun a w S => ?_))))))))))))
        rw [rw_l] at S
        refine run S (.yy (ys_pickT (.t rfl) (.t rfl)) rfl <| .z) fun a w S => st_nil (then_normal (hK4 _ _ (st_else S (.t rfl) (wp_skip (then_normal (hK3 _ _ (wp_region_lit (run S (.mv rfl <| .la gt71 0 rfl rfl rfl <| .z) fun a w S => st_m (op_bslice1 S underlying33 inf71 rfl rfl rfl (.t rfl) rfl rfl rfl fun g3 a w S => st_m (op_push S underlying33 inf71 rfl (k := 2) (j := 0) rfl (.t rfl) (.t rfl) rfl rfl rfl rfl (by first | omega | (simp only [List.length_append, List.length_cons, List.length_nil]; omega)) rfl rfl rfl fun A1 cap1 a w S => run S (.as rfl <| .z) fun a w S => st_nil (in_normal (then_normal (hK2 _ _ (wp_region_lit (run S (.ad (by unfold I64; omega) rfl <| .mv rfl <| .z) fun a w S => st_nil (then_normal ?_))))))))))))))))
        refine ⟨(k + 1, false, A1, cap1), ⟨by dsimp only; omega, (fun h => by cases h), fun _ y hy => ?_⟩, by dsimp only; omega, ?_⟩
        · rw [ht] at hy
          rcases List.mem_append.1 hy with hy | hy
          · exact hp2 rfl y hy
          · simp at hy; exact hy ▸ hex
        · dsimp only; rw [hst]; exact S.pk
  · obtain rfl : k = l.length := by omega
    rw [List.take_length] at S hp1 hp2 hol
    cases put with
    | true =>
      have hst : outE e l true = insE e l := by unfold outE; rw [if_pos rfl]
      rw [hst] at S
      refine sg S (.ge (by omega) rfl rfl <| .z) fun a w S => wp_seq_k fun _ hK2 => st_else S (.t rfl) (wp_exit (then_exit (then_exit (in_here (then_normal (hK1 _ _ (wp_seq_k fun _ hK1 => sg S (.mv rfl <| .nt rfl <| .z) fun a w S => st_else S (.t rfl) (wp_skip (then_normal (hK1 _ _ (sg S (.mv rfl <| .as rfl <| .z) fun a w S => wp_ret (st_ret S (results1 S results86 (Rv.tmp rfl)) ?_))))))))))))
      exact ⟨_, _, rfl, S.wd.picks (L' := [rowOf 71 6 Ent.enc B cB (insE e l)]) (by repeat (first | exact Picks.nil | (refine Picks.rest ?_; (repeat (first | exact List.Sublist.refl _ | refine List.Sublist.cons_cons _ ?_ | refine List.Sublist.cons _ ?_)); done) | refine Picks.take 0 rfl ?_ | refine Picks.take 1 rfl ?_ | refine Picks.take 2 rfl ?_ | refine Picks.take 3 rfl ?_ | refine Picks.take 4 rfl ?_ | refine Picks.take 5 rfl ?_ | refine Picks.take 6 rfl ?_ | refine Picks.take 7 rfl ?_ | refine Picks.take 8 rfl ?_ | refine Picks.take 9 rfl ?_ | refine Picks.take 10 rfl ?_ | refine Picks.take 11 rfl ?_)), _, _, rfl, rfl⟩
    | false =>
      have hst : insE e l = outE e l false ++ [e] := by unfold outE; rw [if_neg (by simp), insE_none (hp2 rfl)]
      generalize outE e l false = O at *
      refine sg S (.ge (by omega) rfl rfl <| .z) fun a w S => wp_seq_k fun _ hK2 => st_else S (.t rfl) (wp_exit (then_exit (then_exit (in_here (then_normal (hK1 _ _ (wp_seq_k fun _ hK1 => sg S (.mv rfl <| .nt rfl <| .z) fun a w S => st_then S (.t rfl) (wp_region_lit (run S (.mv rfl <| .la gt71 1 rfl rfl rfl <| .z) fun a w S => st_m (op_bslice1 S underlying33 inf71 rfl rfl rfl (.t rfl) rfl rfl rfl fun g2 a w S => st_m (op_push S underlying33 inf71 rfl (k := 1) (j := 0) rfl (.t rfl) (.t rfl) rfl rfl rfl rfl (by first | omega | (simp only [List.length_append, List.length_cons, List.length_nil]; omega)) rfl rfl rfl fun A1 cap1 a w S => run S (.as rfl <| .z) fun a w S => st_nil (then_normal (hK1 _ _ (sg S (.mv rfl <| .as rfl <| .z) fun a w S => wp_ret (st_ret S (results1 S results86 (Rv.tmp rfl)) ?_)))))))))))))))
      exact ⟨_, _, rfl, S.wd.picks (L' := [rowOf 71 6 Ent.enc A1 cap1 (O ++ [e])]) (by repeat (first | exact Picks.nil | (refine Picks.rest ?_; (repeat (first | exact List.Sublist.refl _ | refine List.Sublist.cons_cons _ ?_ | refine List.Sublist.cons _ ?_)); done) | refine Picks.take 0 rfl ?_ | refine Picks.take 1 rfl ?_ | refine Picks.take 2 rfl ?_ | refine Picks.take 3 rfl ?_ | refine Picks.take 4 rfl ?_ | refine Picks.take 5 rfl ?_ | refine Picks.take 6 rfl ?_ | refine Picks.take 7 rfl ?_ | refine Picks.take 8 rfl ?_ | refine Picks.take 9 rfl ?_ | refine Picks.take 10 rfl ?_ | refine Picks.take 11 rfl ?_)), A1, cap1, by rw [hst], by rw [hst]⟩
end Go.Proofs.YtfblmkocmnbdcaaGreat
set_option linter.unusedVariables false
set_option linter.unusedSimpArgs false
set_option maxRecDepth 100000
namespace Go.Proofs.YtfblmkocmnbdcaaGreat
open Go.Fw Go.Proofs Go.RowKit Go.Proofs.Tryz
theorem c132 (w0 : World) (v1 : Value) (l : List Dot) (h : Sl Dot.enc 3 w0 w0.heap.size v1 l) (hn : l.length ≤ 4194304) :
    Rets Tryz.prog 132 #[v1] w0 fun v L => ∃ A c, v = .slice A l.length c ∧ L = [rowOf 122 3 Dot.enc A c l] := by
  have h0 := h
  obtain ⟨A, cap, rfl, hl, hcap, hA⟩ := h
  unfold Go.Fw.Rets
  refine enter1 func132 rfl ntmps132 rfl fun a S => sg S (.ac rfl <| .z) fun a w S => wp_seq_k fun _ hK1 => sg S (.mv rfl <| .yy (ys_sNil underlying34 (.t rfl) Ev.c) rfl <| .z) fun a w S => ?_
  refine st_cond S (.t rfl) (fun h1 => ?_) (fun h1 => ?_)
  refine sg S (.ac rfl <| .z) fun a w S => wp_ret (then_ret (st_ret S (results1 S results132 (Rv.tmp rfl)) ?_))
  rotate_left
  refine wp_skip (then_normal (hK1 _ _ (wp_seq_k fun _ hK1 => wp_region_lit (st_m (op_bslice0 S underlying34 sizeOf122 rfl fun g1 a w S => run S (.mv rfl <| .z) fun a w S => st_m (op_extend _ (S.nil_ 122 _ Go.Fw.Dot.enc _) underlying34 underlying34 (.inr ⟨_, rfl⟩) inf122 rfl (k := 0) rfl (.t rfl) (.t rfl) (Src.sl (Sl.old S.wd h0) (by decide) Go.Fw.Dot.enc_len Go.Fw.Dot.enc_one) (by first | omega | (simp only [List.length_append, List.length_cons, List.length_nil]; omega) | (simp; omega)) rfl rfl rfl fun A1 cap1 a w S => ?_))))))
  simp only [List.nil_append] at S
  refine run S (.as rfl <| .z) fun a w S => st_nil (then_normal (hK1 _ _ (wp_ret (st_ret S (results1 S results132 (Rv.tmp rfl)) ?_))))
  rotate_left
  · have hnil : l = [] := by
      refine List.eq_nil_of_length_eq_zero (Decidable.byContradiction fun hne => ?_)
      obtain ⟨g, o, rfl, _⟩ := hA (by omega)
      cases h1
    subst hnil
    exact ⟨_, _, rfl, (S.nil_ 122 3 Dot.enc none).wd.sub (by repeat (first | exact List.Sublist.refl _ | exact List.nil_sublist _ | refine .cons_cons _ ?_ | refine .cons _ ?_)), none, 0, rfl, rfl⟩
  · try simp only [List.nil_append] at S ⊢
    exact ⟨_, _, rfl, S.wd.sub (by repeat (first | exact List.Sublist.refl _ | exact List.nil_sublist _ | refine .cons_cons _ ?_ | refine .cons _ ?_)), _, _, rfl, rfl⟩
end Go.Proofs.YtfblmkocmnbdcaaGreat
set_option linter.unusedVariables false
set_option linter.unusedSimpArgs false
namespace Go.Fw
open Go.RowKit
def leqR (A B : Ctx) : Bool := A.marks.all (fun m => decide (m.count ≤ markOf B.marks m.node m.life)) && A.cloud.all B.coversR
theorem coversR_eq {C : Ctx} (hC : Nf C) {d : Dot} (h : mayD d = true) : C.coversR d = C.covers d := by
  have := may_lim h
  unfold Ctx.coversR Ctx.covers
  rw [decide_eq_true (by omega : 1 ≤ d.count)]
  simp
theorem leqR_eq {A B : Ctx} (hA : Nf A) (hB : Nf B) : leqR A B = leqL A B := by
  rw [Bool.eq_iff_iff, leq_covers hA hB]
  unfold leqR
  rw [Bool.and_eq_true, List.all_eq_true, List.all_eq_true]
  constructor
  · rintro ⟨h1, h2⟩ x hx
    rw [covers_iff] at hx
    obtain ⟨h3, h4 | h4⟩ := hx
    · have hp := markOf_pos (l := A.marks) (x := x.node) (y := x.life) (by omega)
      have h5 := of_decide_eq_true (h1 _ hp)
      rw [covers_iff]
      exact ⟨h3, .inl (Int.le_trans h4 h5)⟩
    · rw [← coversR_eq hB (hA.mayC x h4)]
      exact h2 x h4
  · intro h
    refine ⟨fun m hm => decide_eq_true ?_, fun m hm => ?_⟩
    · have hmm := may_lim (hA.mayM m hm)
      refine Int.not_lt.1 fun hlt => ?_
      have h2 := h ⟨m.node, m.life, markOf B.marks m.node m.life + 1⟩ (by
        rw [covers_iff]
        have := (markOf_may (x := m.node) (y := m.life) hB.mayM).1
        exact ⟨by simp only; omega, .inl (by simp only; rw [markOf_mem hA.marks hm]; omega)⟩)
      rw [covers_iff] at h2
      obtain ⟨_, h2 | h2⟩ := h2
      · simp only at h2; omega
      · have := hB.gap _ h2
        simp at this
    · have hmm := may_lim (hA.mayC m hm)
      rw [coversR_eq hB (hA.mayC m hm)]
      exact h m (by rw [covers_iff]; exact ⟨by omega, .inr hm⟩)
theorem leqR_m {A B : Ctx} {k : Nat} {m : Dot} (hm : A.marks[k]? = some m) (h : markOf B.marks m.node m.life < m.count) : leqR A B = false := by
  rw [leqR, (List.all_eq_false.2 ⟨m, List.mem_of_getElem? hm, by simp; omega⟩ : A.marks.all _ = false)]; rfl
theorem leqR_c {A B : Ctx} {k : Nat} {m : Dot} (hm : A.cloud[k]? = some m) (h : B.coversR m = false) : leqR A B = false := by
  rw [leqR, (List.all_eq_false.2 ⟨m, List.mem_of_getElem? hm, by simp [h]⟩ : A.cloud.all B.coversR = false), Bool.and_false]
theorem leqR_yes {A B : Ctx} (h : ∀ x ∈ A.marks, x.count ≤ markOf B.marks x.node x.life) (h' : ∀ x ∈ A.cloud, B.coversR x = true) : leqR A B = true := by
  rw [leqR, List.all_eq_true.2 fun x hx => decide_eq_true (h x hx), List.all_eq_true.2 h']; rfl
end Go.Fw
