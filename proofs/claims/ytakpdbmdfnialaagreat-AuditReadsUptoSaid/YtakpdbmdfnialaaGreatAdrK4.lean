/- Contracts and laws that the statement Adr leans on, part 4. -/
import Derived.Test.YtakpdbmdfnialaaGreatAdrK3
import Derived.ScopeJumps
import Derived.LoopN
import Derived.Recover
import Derived.Lib.OthersKept
import Derived.Shelf.SlGeneric
import Derived.Shelf.SlSortCmp.WholeK
import Derived.Ground.SlsfProg
import Derived.Test.YtakpdbmdfnialaaGreatProg
set_option linter.unusedVariables false
set_option linter.unusedSimpArgs false
set_option maxRecDepth 100000
namespace Go.Proofs.YtakpdbmdfnialaaGreat
open Go.Fw Go.Proofs Go.RowKit Go.Proofs.Tryz
theorem growC_len (C : Ctx) (d : Dot) : (growC C d).marks.length ≤ C.marks.length + 1 ∧ (growC C d).cloud.length ≤ C.cloud.length + 1 := by
 unfold growC
 split
 · omega
 · split
   · simp
   · have := setL_len d C.marks false
     simp only [Bool.false_eq_true, if_false] at this
     dsimp only
     omega
theorem growF_len : ∀ (b : List Dot) (C : Ctx), (b.foldl growC C).marks.length ≤ C.marks.length + b.length ∧ (b.foldl growC C).cloud.length ≤ C.cloud.length + b.length
 | [], C => by simp
 | d :: r, C => by
   have h1 := growC_len C d
   have h2 := growF_len r (growC C d)
   simp only [List.foldl_cons, List.length_cons]
   omega
set_option maxHeartbeats 4000000 in
theorem c112 (w0 : World) (v1 v2 : Value) (l d : List Dot) (h : Sl Dot.enc 3 w0 w0.heap.size v1 l) (h' : Sl Dot.enc 3 w0 w0.heap.size v2 d) (hn : l.length ≤ 2097152) (hn' : d.length ≤ 2097152) :
   Rets Tryz.prog 112 #[v1, v2] w0 fun v L => ∃ A1 c1 A2 c2, v = .tuple #[.agg #[.slice A1 (normalL l d).1.marks.length c1, .slice A2 (normalL l d).1.cloud.length c2], .int .i64 (normalL l d).2] ∧
     L = [rowOf 30 3 Dot.enc A1 c1 (normalL l d).1.marks, rowOf 74 3 Dot.enc A2 c2 (normalL l d).1.cloud] := by
 have hd0 := h'
 obtain ⟨A, cap, rfl, hl, hcap, hA⟩ := h
 obtain ⟨A', cap', rfl, hl', hcap', hA'⟩ := h'
 unfold Go.Fw.Rets
 refine enter2 func112 rfl ntmps112 rfl fun a S => wp_seq_k fun _ hK1 => wp_region_lit (Zi (Zk S zeroValue35 (cs := _) rfl rfl fun g1 a w S => run S (.ac rfl <| .z) fun a w S => Zb (Za (hK1 _ _ (sg S (.ac rfl <| .z) fun a w S => wp_seq_k fun _ hK1 => sg S (.mv rfl <| .ln underlying32 rfl <| .mc rfl <| .z) fun a w S => wp_block ?_)))))
 refine Xs (S.nil_ 74 3 Dot.enc none) (X := Nat × Option Addr × Nat) (fun q => [(20, true, .int .i64 (q.1 : Int)), (6, true, .slice q.2.1 (l.take q.1).length q.2.2)])
   (fun q _ => [rowOf 74 3 Dot.enc q.2.1 q.2.2 (l.take q.1), .blk g1 (.cells #[.slice none 0 0, .slice none 0 0] 35)])
   (fun q => q.1 ≤ l.length ∧ ∀ x ∈ l.take q.1, mayD x = true) (fun q => l.length - q.1) (0, none, 0) ⟨Nat.zero_le _, by simp⟩ ?_
 clear S
 intro ⟨k, B, cB⟩ a w ⟨hk, hall⟩ S
 dsimp only at hk hall S
 by_cases hlt : k < l.length
 · obtain ⟨g, o, m, rfl, hmm, hd, hc⟩ := Yh hA hlt
   have hout : (l.take k).length = k := by simp; omega
   have heta : (⟨m.node, m.life, m.count⟩ : Dot) = m := rfl
   clear hA hA'
   by_cases h1 : mayD m = true
   · have rw_eta : (⟨m.node, m.life, m.count⟩ : Dot) = m := rfl
     have rw_t : l.take k ++ [m] = l.take (k + 1) := by rw [List.take_add_one, hmm]; rfl
     refine sg S (.lt (by omega) rfl rfl <| .z) fun a w S => wp_seq_k fun _ hK2 => Zg S (.t rfl) (wp_skip (Za (hK2 _ _ (wp_seq_k fun _ hK2 => wp_block (wp_seq_k fun _ hK3 => wp_region_lit (run S (.ix underlying32 sizeOf30 (by omega) rfl rfl <| .yy (Zu ⟨isAgg30, sizeOf30⟩ (.t rfl) (vs := [_, _, _]) rfl (fun _ => hc)) rfl <| .z) fun a w S => Zi (Zk S zeroValue30 (cs := _) rfl rfl fun g2 a w S => Zi (Zp S sizeOf30 (.t rfl) (.t rfl) (k := 0) rfl rfl rfl (by simp [Value.oneCell']) fun a w S => Zb (Za (hK3 _ _ (wp_seq_k fun _ hK3 => sg S (.la gt30 0 rfl rfl rfl <| .xx (Zf call163 (.cons (.t rfl) .nil) (fun hp w W => c163 _ _ _ _)) rfl <| .xx (Zf call162 (.cons (.t rfl) .nil) (fun hp w W => c162 _ _ _ _ _ (by assumption))) rfl <| .nt rfl <| .z) fun a w S => Ze S (.t rfl) (wp_skip (Za (hK3 _ _ (wp_region_lit (run S (.mv rfl <| .la gt30 0 rfl rfl rfl <| .xx (Zf call163 (.cons (.t rfl) .nil) (fun hp w W => c163 _ _ _ _)) rfl <| .z) fun a w S => Zi (Yd S underlying33 inf74 rfl rfl rfl (.t rfl) rfl rfl rfl fun g3 a w S => ?_)))))))))))))))))
     refine Zi (Yv S underlying33 inf74 rfl (k := 2) (j := 0) rfl (.t rfl) (.t rfl) rfl rfl rfl rfl (by first | omega | (simp only [List.length_append, List.length_cons, List.length_nil]; omega)) rfl rfl rfl fun A1 cap1 a w S => ?_)
     rw [rw_t] at S
     refine run S (.as rfl <| .z) fun a w S => Zb (Zm (Za (hK2 _ _ (wp_region_lit (run S (.ad (by unfold I64; omega) rfl <| .mv rfl <| .z) fun a w S => Zb (Za ?_))))))
     exact ⟨(k + 1, A1, cap1), ⟨by dsimp only; omega, all_step hmm hall h1⟩, by dsimp only; omega, S.wk⟩
   · have h1 : mayD m = false := by simpa using h1
     refine sg S (.lt (by omega) rfl rfl <| .z) fun a w S => wp_seq_k fun _ hK2 => Zg S (.t rfl) (wp_skip (Za (hK2 _ _ (wp_seq_k fun _ hK2 => wp_block (wp_seq_k fun _ hK3 => wp_region_lit (run S (.ix underlying32 sizeOf30 (by omega) rfl rfl <| .yy (Zu ⟨isAgg30, sizeOf30⟩ (.t rfl) (vs := [_, _, _]) rfl (fun _ => hc)) rfl <| .z) fun a w S => Zi (Zk S zeroValue30 (cs := _) rfl rfl fun g2 a w S => Zi (Zp S sizeOf30 (.t rfl) (.t rfl) (k := 0) rfl rfl rfl (by simp [Value.oneCell']) fun a w S => Zb (Za (hK3 _ _ (wp_seq_k fun _ hK3 => sg S (.la gt30 0 rfl rfl rfl <| .xx (Zf call163 (.cons (.t rfl) .nil) (fun hp w W => c163 _ _ _ _)) rfl <| .xx (Zf call162 (.cons (.t rfl) .nil) (fun hp w W => c162 _ _ _ _ _ (by assumption))) rfl <| .nt rfl <| .z) fun a w S => Zg S (.t rfl) (wp_seq_k fun _ hK4 => wp_region_lit (run S (.yy (Yn (ps := []) (us := [_, _]) bld35 .nil rfl) rfl <| .z) fun a w S => Zi (Zp S sizeOf35 (.t rfl) (.t rfl) (k := 2) rfl rfl rfl (by simp [Value.oneCell']) fun a w S => run S (.ac rfl <| .z) fun a w S => Zb (Za (hK4 _ _ (wp_ret (Zd (Zq (Zd (Zd (Zq (Zd ?_)))))))))))))))))))))))
     refine Zn S (results2 S results112 (Rv.cell (k := 2) ⟨isAgg35, sizeOf35⟩ rfl rfl rfl) (Rv.tmp rfl)) ?_
     rw [normalL_bad1 hmm h1]
     exact ⟨_, _, rfl, ((S.nil_ 74 3 Dot.enc none).nil_ 30 3 Dot.enc none).wd.sub (by repeat (first | exact List.Sublist.refl _ | exact List.nil_sublist _ | refine .cons_cons _ ?_ | refine .cons _ ?_)), none, 0, none, 0, rfl, rfl⟩
 · obtain rfl : k = l.length := by omega
   rw [List.take_length] at hall S
   clear hk hlt hA
   refine sg S (.ge (by omega) rfl rfl <| .z) fun a w S => wp_seq_k fun _ hK2 => Ze S (.t rfl) (wp_exit (Zh (Zh (Ya (Za (hK1 _ _ (wp_seq_k fun _ hK1 => sg S (.mv rfl <| .ln underlying33 rfl <| .mc rfl <| .z) fun a w S => wp_block ?_)))))))
   refine Xs S (X := Nat) (fun k => [(37, true, .int .i64 (k : Int))]) (fun _ L => L) (fun k => k ≤ d.length ∧ ∀ x ∈ d.take k, mayD x = true) (fun k => d.length - k) 0 ⟨Nat.zero_le _, by simp⟩ ?_
   clear S
   intro k a w ⟨hk, halld⟩ S
   by_cases hlt : k < d.length
   · obtain ⟨g, o, m, rfl, hmm, hd, hc⟩ := Yh hA' hlt
     have heta : (⟨m.node, m.life, m.count⟩ : Dot) = m := rfl
     clear hA'
     by_cases h1 : mayD m = true
     · refine sg S (.lt (by omega) rfl rfl <| .z) fun a w S => wp_seq_k fun _ hK3 => Zg S (.t rfl) (wp_skip (Za (hK3 _ _ (wp_seq_k fun _ hK3 => wp_block (wp_seq_k fun _ hK4 => wp_region_lit (run S (.ix underlying33 sizeOf74 (by omega) rfl rfl <| .yy (Zu ⟨isAgg74, sizeOf74⟩ (.t rfl) (vs := [_, _, _]) rfl (fun _ => hc)) rfl <| .z) fun a w S => Zi (Zk S zeroValue74 (cs := _) rfl rfl fun g2 a w S => Zi (Zp S sizeOf74 (.t rfl) (.t rfl) (k := 0) rfl rfl rfl (by simp [Value.oneCell']) fun a w S => Zb (Za (hK4 _ _ (sg S (.la gt74 0 rfl rfl rfl <| .xx (Zf call162 (.cons (.t rfl) .nil) (fun hp w W => c162 _ _ _ _ _ (by assumption))) rfl <| .nt rfl <| .z) fun a w S => Ze S (.t rfl) (wp_skip (Zm (Za (hK3 _ _ (wp_region_lit (run S (.ad (by unfold I64; omega) rfl <| .mv rfl <| .z) fun a w S => Zb (Za ?_))))))))))))))))))
       exact ⟨k + 1, ⟨by omega, all_step hmm halld h1⟩, by omega, S.wk⟩
     · have h1 : mayD m = false := by simpa using h1
       refine sg S (.lt (by omega) rfl rfl <| .z) fun a w S => wp_seq_k fun _ hK3 => Zg S (.t rfl) (wp_skip (Za (hK3 _ _ (wp_seq_k fun _ hK3 => wp_block (wp_seq_k fun _ hK4 => wp_region_lit (run S (.ix underlying33 sizeOf74 (by omega) rfl rfl <| .yy (Zu ⟨isAgg74, sizeOf74⟩ (.t rfl) (vs := [_, _, _]) rfl (fun _ => hc)) rfl <| .z) fun a w S => Zi (Zk S zeroValue74 (cs := _) rfl rfl fun g2 a w S => Zi (Zp S sizeOf74 (.t rfl) (.t rfl) (k := 0) rfl rfl rfl (by simp [Value.oneCell']) fun a w S => Zb (Za (hK4 _ _ (sg S (.la gt74 0 rfl rfl rfl <| .xx (Zf call162 (.cons (.t rfl) .nil) (fun hp w W => c162 _ _ _ _ _ (by assumption))) rfl <| .nt rfl <| .z) fun a w S => Zg S (.t rfl) (wp_seq_k fun _ hK4 => wp_region_lit (run S (.yy (Yn (ps := []) (us := [_, _]) bld35 .nil rfl) rfl <| .z) fun a w S => Zi (Zp S sizeOf35 (.t rfl) (.t rfl) (k := 2) rfl rfl rfl (by simp [Value.oneCell']) fun a w S => run S (.ac rfl <| .z) fun a w S => Zb (Za (hK4 _ _ (wp_ret (Zq (Zd (Zd (Zq (Zd (Zn S (results2 S results112 (Rv.cell (k := 2) ⟨isAgg35, sizeOf35⟩ rfl rfl rfl) (Rv.tmp rfl)) ?_)))))))))))))))))))))))
       rw [normalL_bad2 hmm h1]
       exact ⟨_, _, rfl, ((S.nil_ 74 3 Dot.enc none).nil_ 30 3 Dot.enc none).wd.sub (by repeat (first | exact List.Sublist.refl _ | exact List.nil_sublist _ | refine .cons_cons _ ?_ | refine .cons _ ?_)), none, 0, none, 0, rfl, rfl⟩
   obtain rfl : k = d.length := by omega
   rw [List.take_length] at halld
   clear hk hlt hA'
   have hok := Wu hall halld
   refine sg S (.ge (by omega) rfl rfl <| .z) fun a w S => wp_seq_k fun _ hK3 => Ze S (.t rfl) (wp_exit (Zh (Zh (Ya (Za (hK1 _ _ (wp_seq_k fun _ hK1 => wp_region_lit (run S (.mv rfl <| .z) fun a w S => Zi (Ua S call164 (.cons (.t rfl) (.cons Ev.f .nil)) (k164 S.wd hall (by omega)) rfl ?_)))))))))
   clear S
   rintro _ _ ⟨l', rfl, hpl, hsl, rfl⟩ a w S
   have hll := hpl.length_eq
   rw [← hll] at S
   refine Zb (Za (hK1 _ _ (wp_seq_k fun _ hK1 => wp_region_lit (Zi (Zk S zeroValue35 (cs := _) rfl rfl fun g2 a w S => Zb (Za (hK1 _ _ (wp_seq_k fun _ hK1 => sg S (.mv rfl <| .ln underlying33 rfl <| .mc rfl <| .z) fun a w S => wp_block ?_))))))))
   refine Xs (S.nil_ 30 3 Dot.enc none) (X := Nat × Option Addr × Nat) (fun q => [(50, true, .int .i64 (q.1 : Int))])
     (fun q _ => [rowOf 30 3 Dot.enc q.2.1 q.2.2 (setF (l'.take q.1)), .blk g2 (.cells #[.slice q.2.1 (setF (l'.take q.1)).length q.2.2, .slice none 0 0] 35), rowOf 74 3 Dot.enc B cB l', .blk g1 (.cells #[.slice none 0 0, .slice none 0 0] 35)])
     (fun q => q.1 ≤ l'.length) (fun q => l'.length - q.1) (0, none, 0) (Nat.zero_le _) ?_
   clear S
   intro ⟨k, D, cD⟩ a w hk S
   dsimp only at hk S
   by_cases hlt : k < l'.length
   · obtain ⟨m, hmm⟩ : ∃ m, l'[k]? = some m := ⟨l'[k], by simp⟩
     have hp := setF_push hsl hmm
     have hsl2 := setF_len (l'.take k)
     have hs3 : (l'.take k).length ≤ l'.length := by rw [List.length_take]; omega
     generalize hacc : setF (l'.take k) = acc at S hp hsl2
     obtain ⟨gB, rfl⟩ := S.wd.row_at (k := 2) rfl (by have := (S.wd.room (k := 2) rfl).1; omega)
     have rw_eta : (⟨m.node, m.life, m.count⟩ : Dot) = m := rfl
     by_cases hz : acc.length = 0
     · have hz0 : acc = [] := List.eq_nil_of_length_eq_zero hz
       have rw_p : acc ++ [m] = setF (l'.take (k + 1)) := by rw [hp, hz0]; rfl
       refine sg S (.lt (by omega) rfl rfl <| .z) fun a w S => wp_seq_k fun _ hK4 => Zg S (.t rfl) (wp_skip (Za (hK4 _ _ (wp_seq_k fun _ hK4 => wp_block (wp_seq_k fun _ hK5 => wp_region_lit (run S (.ix underlying33 sizeOf74 (by omega) rfl rfl <| .yy (Xw ⟨isAgg74, sizeOf74⟩ (.t rfl) (k := 2) rfl hmm (fun _ => rfl)) rfl <| .z) fun a w S => Zi (Zk S zeroValue74 (cs := _) rfl rfl fun g3 a w S => Zi (Zp S sizeOf74 (.t rfl) (.t rfl) (k := 0) rfl rfl rfl (by simp [Value.oneCell']) fun a w S => Zb (Za (hK5 _ _ (sg S (.fa underlying35 sizeOf32 0 rfl rfl rfl <| .ld gt32 2 rfl rfl rfl <| .ln underlying32 rfl <| .as rfl <| .z) fun a w S => wp_seq_k fun _ hK5 => wp_seq_k fun _ hK6 => Ye S (by kernel_rfl) (by kernel_rfl) fun a S => qrun S (.mv rfl <| .yy (Yp (by omega) (Yf (.t rfl) Ev.c)) rfl <| .mv rfl <| .sk rfl rfl rfl <| .sk rfl rfl rfl <| .sk rfl rfl rfl <| .sk rfl rfl rfl <| .sk rfl rfl rfl <| .sk rfl rfl rfl <| .sk rfl rfl rfl <| .sk rfl rfl rfl <| .sk rfl rfl rfl <| .sk rfl rfl rfl <| .sk rfl rfl rfl <| .yy (Zv (.t rfl) Ev.c) rfl <| .z) fun a S => ?_)))))))))))
       (refine Xb ?_; intro w W; replace S := St.mk S W; clear W)
       refine Za (hK6 _ _ (Ze S (.t rfl) (wp_skip (Za (hK5 _ _ (wp_region_lit (run S (.fa underlying35 sizeOf32 0 rfl rfl rfl <| .ld gt32 2 rfl rfl rfl <| .la gt74 0 rfl rfl rfl <| .z) fun a w S => Zi (Yd S underlying32 inf30 rfl rfl rfl (.t rfl) rfl rfl rfl fun g4 a w S => Zi (Yv S underlying32 inf30 rfl (k := 2) (j := 0) rfl (.t rfl) (.t rfl) rfl rfl rfl rfl (by first | omega | (simp only [List.length_append, List.length_cons, List.length_nil]; omega)) rfl rfl rfl fun A1 cap1 a w S => ?_)))))))))
       rw [rw_p] at S
       refine run S (.fa underlying35 sizeOf32 0 rfl rfl rfl <| .z) fun a w S => Zi (Vv S sizeOf32 (.t rfl) (.t rfl) (k := 3) rfl rfl (by simp) fun a w S => Zb (Zm (Za (hK4 _ _ (wp_region_lit (run S (.ad (by unfold I64; omega) rfl <| .mv rfl <| .z) fun a w S => Zb (Za ?_)))))))
       exact ⟨(k + 1, A1, cap1), by dsimp only; omega, by dsimp only; omega, S.wk⟩
     · obtain ⟨y, hy⟩ : ∃ y, acc[acc.length - 1]? = some y := ⟨acc[acc.length - 1], by simp⟩
       have hlast : acc.getLast? = some y := by rw [List.getLast?_eq_getElem?]; exact hy
       obtain ⟨gD, rfl⟩ := S.wd.row_at (k := 0) rfl (by have := (S.wd.room (k := 0) rfl).1; omega)
       have rw_n : (acc.length : Int) - 1 = ((acc.length - 1 : Nat) : Int) := by omega
       by_cases hsa : sameA y m
       · have hp2 : setF (l'.take (k + 1)) = acc.set (acc.length - 1) m := by rw [hp]; unfold pushM; rw [hlast]; simp only; rw [if_pos hsa]
         refine sg S (.lt (by omega) rfl rfl <| .z) fun a w S => wp_seq_k fun _ hK4 => Zg S (.t rfl) (wp_skip (Za (hK4 _ _ (wp_seq_k fun _ hK4 => wp_block (wp_seq_k fun _ hK5 => wp_region_lit (run S (.ix underlying33 sizeOf74 (by omega) rfl rfl <| .yy (Xw ⟨isAgg74, sizeOf74⟩ (.t rfl) (k := 2) rfl hmm (fun _ => rfl)) rfl <| .z) fun a w S => Zi (Zk S zeroValue74 (cs := _) rfl rfl fun g3 a w S => Zi (Zp S sizeOf74 (.t rfl) (.t rfl) (k := 0) rfl rfl rfl (by simp [Value.oneCell']) fun a w S => Zb (Za (hK5 _ _ (sg S (.fa underlying35 sizeOf32 0 rfl rfl rfl <| .ld gt32 2 rfl rfl rfl <| .ln underlying32 rfl <| .as rfl <| .z) fun a w S => wp_seq_k fun _ hK5 => wp_seq_k fun _ hK6 => Ye S (by kernel_rfl) (by kernel_rfl) fun a S => qrun S (.mv rfl <| .yy (Yu (by omega) (Yf (.t rfl) Ev.c)) rfl <| .mv rfl <| .gy rfl rfl (Zc (FieldT.mk underlying35 rfl sizeOf32 rfl) (.t rfl) (i' := 0) rfl) <| .gy rfl rfl (Zt ⟨isAgg32, sizeOf32⟩ (.t rfl) (k := 2) rfl rfl) <| .gy rfl rfl (Zj (.t rfl)) <| .gy rfl rfl (Xg (.t rfl) Ev.c (fun _ => by unfold I64; omega)) <| .z) fun a S => ?_)))))))))))
         rw [rw_n] at S
         refine qrun S (.gy rfl rfl (Ym underlying32 sizeOf30 (.t rfl) (.t rfl) (fun _ => by omega)) <| .gy rfl rfl (Xw ⟨isAgg30, sizeOf30⟩ (.t rfl) (k := 1) rfl hy (fun _ => rfl)) <| .gx rfl rfl (Zf call163 (.cons (.t rfl) .nil) (fun hp w W => c163 _ _ _ _)) <| .gx rfl rfl (Zf call141 (.cons (.t rfl) .nil) (fun hp w W => c141 _ _ _ _)) <| .gy rfl rfl (Yc ⟨isAgg74, sizeOf74⟩ (.t rfl) (k := 0) rfl rfl) <| .gx rfl rfl (Zf call141 (.cons (.t rfl) .nil) (fun hp w W => c141 _ _ _ _)) <| .gy rfl rfl (Wh (.t rfl) (.t rfl) eq66) <| .yy (Zz (.t rfl) (.t rfl)) rfl <| .z) fun a S => ?_
         (refine Xb ?_; intro w W; replace S := St.mk S W; clear W)
         refine Za (hK6 _ _ (Wc S (.t rfl) (fun _ => wp_seq_k fun _ hK6 => wp_region_lit (run S (.fa underlying35 sizeOf32 0 rfl rfl rfl <| .ld gt32 2 rfl rfl rfl <| .mv rfl <| .yy (Xg (.t rfl) Ev.c (fun _ => by unfold I64; omega)) rfl <| .z) fun a w S => ?_)) (fun h1 => absurd (by first | assumption | omega) h1)))
         rw [rw_n] at S
         refine run S (.fa underlying74 sizeOf3 2 rfl rfl rfl <| .ld gt3 0 rfl rfl rfl <| .ix underlying32 sizeOf30 (by omega) rfl rfl <| .yy (Xa (FieldT.mk underlying30 rfl sizeOf3 rfl) (.t rfl)) rfl <| .z) fun a w S => ?_
         refine Zi (op_stFld (enc := Dot.enc) (size := 3) (i := acc.length - 1) (j := 2) m S (fun _ => rfl) sizeOf3 (.t rfl) (.t rfl) rfl (k := 1) rfl hy (by omega) rfl (by
           obtain ⟨e1, e2⟩ := hsa
           simp [Dot.enc, e1, e2]) ?_)
         clear S
         intro a w S
         have hlen2 : (acc.set (acc.length - 1) m).length = acc.length := by simp
         rw [← hp2] at hlen2 S
         rw [← hlen2] at S
         refine Zb (Za (hK6 _ _ (wp_exit (Zh (Ya (Za (hK4 _ _ (wp_region_lit (run S (.ad (by unfold I64; omega) rfl <| .mv rfl <| .z) fun a w S => Zb (Za ?_))))))))))
         exact ⟨(k + 1, some ⟨gD, 0, none⟩, cD), by dsimp only; omega, by dsimp only; omega, S.wk⟩
       · have rw_p : acc ++ [m] = setF (l'.take (k + 1)) := by rw [hp]; unfold pushM; rw [hlast]; simp only; rw [if_neg hsa]
         refine sg S (.lt (by omega) rfl rfl <| .z) fun a w S => wp_seq_k fun _ hK4 => Zg S (.t rfl) (wp_skip (Za (hK4 _ _ (wp_seq_k fun _ hK4 => wp_block (wp_seq_k fun _ hK5 => wp_region_lit (run S (.ix underlying33 sizeOf74 (by omega) rfl rfl <| .yy (Xw ⟨isAgg74, sizeOf74⟩ (.t rfl) (k := 2) rfl hmm (fun _ => rfl)) rfl <| .z) fun a w S => Zi (Zk S zeroValue74 (cs := _) rfl rfl fun g3 a w S => Zi (Zp S sizeOf74 (.t rfl) (.t rfl) (k := 0) rfl rfl rfl (by simp [Value.oneCell']) fun a w S => Zb (Za (hK5 _ _ (sg S (.fa underlying35 sizeOf32 0 rfl rfl rfl <| .ld gt32 2 rfl rfl rfl <| .ln underlying32 rfl <| .as rfl <| .z) fun a w S => wp_seq_k fun _ hK5 => wp_seq_k fun _ hK6 => Ye S (by kernel_rfl) (by kernel_rfl) fun a S => qrun S (.mv rfl <| .yy (Yu (by omega) (Yf (.t rfl) Ev.c)) rfl <| .mv rfl <| .gy rfl rfl (Zc (FieldT.mk underlying35 rfl sizeOf32 rfl) (.t rfl) (i' := 0) rfl) <| .gy rfl rfl (Zt ⟨isAgg32, sizeOf32⟩ (.t rfl) (k := 2) rfl rfl) <| .gy rfl rfl (Zj (.t rfl)) <| .gy rfl rfl (Xg (.t rfl) Ev.c (fun _ => by unfold I64; omega)) <| .z) fun a S => ?_)))))))))))
         rw [rw_n] at S
         refine qrun S (.gy rfl rfl (Ym underlying32 sizeOf30 (.t rfl) (.t rfl) (fun _ => by omega)) <| .gy rfl rfl (Xw ⟨isAgg30, sizeOf30⟩ (.t rfl) (k := 1) rfl hy (fun _ => rfl)) <| .gx rfl rfl (Zf call163 (.cons (.t rfl) .nil) (fun hp w W => c163 _ _ _ _)) <| .gx rfl rfl (Zf call141 (.cons (.t rfl) .nil) (fun hp w W => c141 _ _ _ _)) <| .gy rfl rfl (Yc ⟨isAgg74, sizeOf74⟩ (.t rfl) (k := 0) rfl rfl) <| .gx rfl rfl (Zf call141 (.cons (.t rfl) .nil) (fun hp w W => c141 _ _ _ _)) <| .gy rfl rfl (Wh (.t rfl) (.t rfl) eq66) <| .yy (Zz (.t rfl) (.t rfl)) rfl <| .z) fun a S => ?_
         (refine Xb ?_; intro w W; replace S := St.mk S W; clear W)
         refine Za (hK6 _ _ (Wc S (.t rfl) (fun h1 => absurd h1 (by first | assumption | omega)) (fun _ => wp_skip (Za (hK5 _ _ (wp_region_lit (run S (.fa underlying35 sizeOf32 0 rfl rfl rfl <| .ld gt32 2 rfl rfl rfl <| .la gt74 0 rfl rfl rfl <| .z) fun a w S => Zi (Yd S underlying32 inf30 rfl rfl rfl (.t rfl) rfl rfl rfl fun g4 a w S => Zi (Yv S underlying32 inf30 rfl (k := 2) (j := 0) rfl (.t rfl) (.t rfl) rfl rfl rfl rfl (by first | omega | (simp only [List.length_append, List.length_cons, List.length_nil]; omega)) rfl rfl rfl fun A1 cap1 a w S => ?_)))))))))
         rw [rw_p] at S
         refine run S (.fa underlying35 sizeOf32 0 rfl rfl rfl <| .z) fun a w S => Zi (Vv S sizeOf32 (.t rfl) (.t rfl) (k := 3) rfl rfl (by simp) fun a w S => Zb (Zm (Za (hK4 _ _ (wp_region_lit (run S (.ad (by unfold I64; omega) rfl <| .mv rfl <| .z) fun a w S => Zb (Za ?_)))))))
         exact ⟨(k + 1, A1, cap1), by dsimp only; omega, by dsimp only; omega, S.wk⟩
   · obtain rfl : k = l'.length := by omega
     rw [List.take_length] at S
     clear hk hlt
     refine sg S (.ge (by omega) rfl rfl <| .z) fun a w S => wp_seq_k fun _ hK4 => Ze S (.t rfl) (wp_exit (Zh (Zh (Ya (Za (hK1 _ _ (wp_seq_k fun _ hK1 => wp_region_lit (run S (.mv rfl <| .z) fun a w S => ?_))))))))
     (refine Zi (Zr S call136 (.cons (.t rfl) .nil) (c136 _ _ _ (by exact .old S.wd (by assumption)) (by omega)) rfl ?_); clear S a w; rintro _ _ ⟨A1, c1, rfl, rfl⟩ a w S)
     refine run S (.as rfl <| .z) fun a w S => Zb (Za (hK1 _ _ (wp_seq_k fun _ hK1 => wp_region_lit (run S (.mv rfl <| .z) fun a w S => Zi (Ua S call164 (.cons (.t rfl) (.cons Ev.f .nil)) (k164 S.wd halld (by omega)) rfl ?_)))))
     clear S
     rintro _ _ ⟨d', rfl, hpd, hsd, rfl⟩ a w S
     have hdl := hpd.length_eq
     rw [← hdl] at S
     have hgr := normal_grown hall halld hpl hpd hsd
     have hcl := compact_len d'
     have hcm : ∀ x ∈ compactL d', mayD x = true := fun x hx => halld x (hpd.mem_iff.1 ((compact_mem d').1 hx))
     have hcs := compact_lt d' hsd
     have h0 : Nf ⟨setF l', []⟩ := ⟨Wg l', List.Pairwise.nil, Vq (fun x hx => hall x (hpl.mem_iff.1 hx)), (fun x hx => by cases hx), (fun x hx => by cases hx)⟩
     have hsl3 := setF_len l'
     refine Zb (Za (hK1 _ _ (wp_seq_k fun _ hK1 => wp_region_lit (run S (.mv rfl <| .z) fun a w S => ?_))))
     (refine Zi (Ua S call166 (.cons (.t rfl) .nil) (c166 S.wd (by first | assumption | omega | (dsimp only; omega) | exact Sl.nil_ | exact .old S.wd (by assumption) | exact Sl.of_own S.wd (k := 0) rfl (fun _ => rfl) | exact Sl.of_own S.wd (k := 1) rfl (fun _ => rfl) | exact Sl.of_own S.wd (k := 2) rfl (fun _ => rfl) | exact Sl.of_own S.wd (k := 3) rfl (fun _ => rfl) | exact Sl.of_own S.wd (k := 4) rfl (fun _ => rfl) | (simp; done) | (simp at *; omega))) rfl ?_) <;> clear S a w)
     rintro _ _ ⟨rfl, rfl⟩ a w S
     refine run S (.as rfl <| .z) fun a w S => Zb (Za (hK1 _ _ (wp_seq_k fun _ hK1 => sg S (.mv rfl <| .ln underlying33 rfl <| .mc rfl <| .z) fun a w S => wp_block ?_)))
     generalize compactL d' = b at S hgr hcl hcm hcs
     replace S := S.nil_ 74 3 Dot.enc none
     (replace S := S.pull 2 rfl; try simp only [List.set_cons_zero, List.set_cons_succ, List.eraseIdx_cons_succ, List.eraseIdx_cons_zero] at S)
     refine Xs S (X := Nat × (Option Addr × Nat) × (Option Addr × Nat)) (fun q => [(95, true, .int .i64 (q.1 : Int))])
       (fun q _ => [rowOf 30 3 Dot.enc q.2.1.1 q.2.1.2 ((b.take q.1).foldl growC ⟨setF l', []⟩).marks, rowOf 74 3 Dot.enc q.2.2.1 q.2.2.2 ((b.take q.1).foldl growC ⟨setF l', []⟩).cloud, rowOf 74 3 Dot.enc A1 c1 b, .blk g2 (.cells #[.slice q.2.1.1 ((b.take q.1).foldl growC ⟨setF l', []⟩).marks.length q.2.1.2, .slice q.2.2.1 ((b.take q.1).foldl growC ⟨setF l', []⟩).cloud.length q.2.2.2] 35), .blk g1 (.cells #[.slice none 0 0, .slice none 0 0] 35)])
       (fun q => q.1 ≤ b.length) (fun q => b.length - q.1) (0, (D, cD), (none, 0)) (Nat.zero_le _) ?_
     clear S
     intro ⟨k, ⟨A2, c2⟩, A3, c3⟩ a w hk S
     dsimp only at hk S
     have hlk := growF_len (b.take k) ⟨setF l', []⟩
     have hbk : (b.take k).length = k := by simp; omega
     dsimp only at hlk
     rw [hbk, List.length_nil] at hlk
     by_cases hlt : k < b.length
     · obtain ⟨m, hmm⟩ : ∃ m, b[k]? = some m := ⟨b[k], by simp⟩
       obtain ⟨gB, rfl⟩ := S.wd.row_at (k := 2) rfl (by have := (S.wd.room (k := 2) rfl).1; omega)
       have hC := (growF_ok (b.take k) ⟨setF l', []⟩ h0 (fun x hx => hcm x (List.mem_of_mem_take hx)) (hcs.sublist (List.take_sublist _ _)) (fun e he => by cases he)).1
       have rw_eta : (⟨m.node, m.life, m.count⟩ : Dot) = m := rfl
       have rw_f : growC ((b.take k).foldl growC ⟨setF l', []⟩) m = (b.take (k + 1)).foldl growC ⟨setF l', []⟩ := by rw [List.take_add_one, hmm]; simp
       have hmay := hcm m (List.mem_of_getElem? hmm)
       generalize (b.take k).foldl growC ⟨setF l', []⟩ = C at S hlk hC rw_f
       have hCm := hC.marks
       have hCy := hC.mayM
       have hl1 : C.marks.length ≤ 4194304 := by omega
       have hl2 : C.cloud.length ≤ 4194304 := by omega
       refine sg S (.lt (by omega) rfl rfl <| .z) fun a w S => wp_seq_k fun _ hK5 => Zg S (.t rfl) (wp_skip (Za (hK5 _ _ (wp_seq_k fun _ hK5 => wp_block (wp_seq_k fun _ hK6 => wp_region_lit (run S (.ix underlying33 sizeOf74 (by omega) rfl rfl <| .yy (Xw ⟨isAgg74, sizeOf74⟩ (.t rfl) (k := 2) rfl hmm (fun _ => rfl)) rfl <| .z) fun a w S => Zi (Zk S zeroValue74 (cs := _) rfl rfl fun g3 a w S => Zi (Zp S sizeOf74 (.t rfl) (.t rfl) (k := 0) rfl rfl rfl (by simp [Value.oneCell']) fun a w S => Zb (Za (hK6 _ _ (wp_region_lit (run S (.la gt35 4 rfl rfl rfl <| .la gt74 0 rfl rfl rfl <| .z) fun a w S => ?_))))))))))))
       (replace S := S.pull 2 rfl; try simp only [List.set_cons_zero, List.set_cons_succ, List.eraseIdx_cons_succ, List.eraseIdx_cons_zero] at S; replace S := S.pull 2 rfl; try simp only [List.set_cons_zero, List.set_cons_succ, List.eraseIdx_cons_succ, List.eraseIdx_cons_zero] at S; refine Zi (Ua S call167 (.cons (.t rfl) (.cons (.t rfl) .nil)) (c167 S.wd (by first | assumption | omega | (dsimp only; omega) | exact Sl.nil_ | exact .old S.wd (by assumption) | exact Sl.of_own S.wd (k := 0) rfl (fun _ => rfl) | exact Sl.of_own S.wd (k := 1) rfl (fun _ => rfl) | exact Sl.of_own S.wd (k := 2) rfl (fun _ => rfl) | exact Sl.of_own S.wd (k := 3) rfl (fun _ => rfl) | exact Sl.of_own S.wd (k := 4) rfl (fun _ => rfl) | exact Sl.of_own S.wd (k := 5) rfl (fun _ => rfl) | (simp; done) | (simp at *; omega)) (by first | assumption | omega | (dsimp only; omega) | exact Sl.nil_ | exact .old S.wd (by assumption) | exact Sl.of_own S.wd (k := 0) rfl (fun _ => rfl) | exact Sl.of_own S.wd (k := 1) rfl (fun _ => rfl) | exact Sl.of_own S.wd (k := 2) rfl (fun _ => rfl) | exact Sl.of_own S.wd (k := 3) rfl (fun _ => rfl) | exact Sl.of_own S.wd (k := 4) rfl (fun _ => rfl) | exact Sl.of_own S.wd (k := 5) rfl (fun _ => rfl) | (intro _ W'; first | exact .old W' (by assumption) | exact Sl.of_own W' (k := 0) rfl (fun _ => rfl) | exact Sl.of_own W' (k := 1) rfl (fun _ => rfl) | exact Sl.of_own W' (k := 2) rfl (fun _ => rfl) | exact Sl.of_own W' (k := 3) rfl (fun _ => rfl) | exact Sl.of_own W' (k := 4) rfl (fun _ => rfl) | exact Sl.of_own W' (k := 5) rfl (fun _ => rfl)) | (simp; done) | (simp at *; omega)) (by first | assumption | omega | (dsimp only; omega) | exact Sl.nil_ | exact .old S.wd (by assumption) | exact Sl.of_own S.wd (k := 0) rfl (fun _ => rfl) | exact Sl.of_own S.wd (k := 1) rfl (fun _ => rfl) | exact Sl.of_own S.wd (k := 2) rfl (fun _ => rfl) | exact Sl.of_own S.wd (k := 3) rfl (fun _ => rfl) | exact Sl.of_own S.wd (k := 4) rfl (fun _ => rfl) | exact Sl.of_own S.wd (k := 5) rfl (fun _ => rfl) | (simp; done) | (simp at *; omega)) (by first | assumption | omega | (dsimp only; omega) | exact Sl.nil_ | exact .old S.wd (by assumption) | exact Sl.of_own S.wd (k := 0) rfl (fun _ => rfl) | exact Sl.of_own S.wd (k := 1) rfl (fun _ => rfl) | exact Sl.of_own S.wd (k := 2) rfl (fun _ => rfl) | exact Sl.of_own S.wd (k := 3) rfl (fun _ => rfl) | exact Sl.of_own S.wd (k := 4) rfl (fun _ => rfl) | exact Sl.of_own S.wd (k := 5) rfl (fun _ => rfl) | (simp; done) | (simp at *; omega)) (by first | assumption | omega | (dsimp only; omega) | exact Sl.nil_ | exact .old S.wd (by assumption) | exact Sl.of_own S.wd (k := 0) rfl (fun _ => rfl) | exact Sl.of_own S.wd (k := 1) rfl (fun _ => rfl) | exact Sl.of_own S.wd (k := 2) rfl (fun _ => rfl) | exact Sl.of_own S.wd (k := 3) rfl (fun _ => rfl) | exact Sl.of_own S.wd (k := 4) rfl (fun _ => rfl) | exact Sl.of_own S.wd (k := 5) rfl (fun _ => rfl) | (simp; done) | (simp at *; omega))) rfl ?_) <;> clear S a w)
       rintro _ _ ⟨A11, c11, A21, c21, rfl, rfl⟩ a w S
       rw [rw_eta] at S
       rw [rw_f] at S
       refine Zi (Zp S sizeOf35 (.t rfl) (.t rfl) (k := 4) rfl rfl rfl (by simp [Value.oneCell']) fun a w S => Zb (Zm (Za (hK5 _ _ (wp_region_lit (run S (.ad (by unfold I64; omega) rfl <| .mv rfl <| .z) fun a w S => Zb (Za ?_)))))))
       exact ⟨(k + 1, (_, _), (_, _)), by dsimp only; omega, by dsimp only; omega, S.pk⟩
     · obtain rfl : k = b.length := by omega
       rw [List.take_length, hgr] at S
       clear hk hlt
       generalize settledL ((insF d).length + 1) (setF l) (insF d) = R at S hok
       by_cases h1 : 64 < R.marks.length ∨ 64 < R.cloud.length
       · rw [if_pos h1] at hok
         by_cases h2 : 64 < R.marks.length
         · refine sg S (.ge (by omega) rfl rfl <| .z) fun a w S => wp_seq_k fun _ hK5 => Ze S (.t rfl) (wp_exit (Zh (Zh (Ya (Za (hK1 _ _ (wp_seq_k fun _ hK1 => sg S (.fa underlying35 sizeOf32 0 rfl rfl rfl <| .ld gt32 3 rfl rfl rfl <| .ln underlying32 rfl <| .yy (Yu (by omega) (Yf (.t rfl) Ev.c)) rfl <| .mv rfl <| .sk rfl rfl rfl <| .sk rfl rfl rfl <| .sk rfl rfl rfl <| .sk rfl rfl rfl <| .yy (Zz (.t rfl) Ev.c) rfl <| .z) fun a w S => Zg S (.t rfl) (wp_seq_k fun _ hK6 => wp_region_lit (run S (.yy (Yn (ps := []) (us := [_, _]) bld35 .nil rfl) rfl <| .z) fun a w S => Zi (Zp S sizeOf35 (.t rfl) (.t rfl) (k := 4) rfl rfl rfl (by simp [Value.oneCell']) fun a w S => run S (.ac rfl <| .z) fun a w S => Zb (Za (hK6 _ _ (wp_ret (Zd (Zn S (results2 S results112 (Rv.cell (k := 4) ⟨isAgg35, sizeOf35⟩ rfl rfl rfl) (Rv.tmp rfl)) ?_)))))))))))))))
           rw [hok]
           exact ⟨_, _, rfl, ((S.nil_ 74 3 Dot.enc none).nil_ 30 3 Dot.enc none).wd.sub (by repeat (first | exact List.Sublist.refl _ | exact List.nil_sublist _ | refine .cons_cons _ ?_ | refine .cons _ ?_)), none, 0, none, 0, rfl, rfl⟩
         · refine sg S (.ge (by omega) rfl rfl <| .z) fun a w S => wp_seq_k fun _ hK5 => Ze S (.t rfl) (wp_exit (Zh (Zh (Ya (Za (hK1 _ _ (wp_seq_k fun _ hK1 => sg S (.fa underlying35 sizeOf32 0 rfl rfl rfl <| .ld gt32 3 rfl rfl rfl <| .ln underlying32 rfl <| .yy (Yp (by omega) (Yf (.t rfl) Ev.c)) rfl <| .mv rfl <| .gy rfl rfl (Zc (FieldT.mk underlying35 rfl sizeOf33 rfl) (.t rfl) (i' := 1) rfl) <| .gy rfl rfl (Zt ⟨isAgg33, sizeOf33⟩ (.t rfl) (k := 3) rfl rfl) <| .gy rfl rfl (Wr underlying33 (.t rfl)) <| .gy rfl rfl (Yu (by omega) (Yf (.t rfl) Ev.c)) <| .yy (Zv (.t rfl) (.t rfl)) rfl <| .z) fun a w S => Zg S (.t rfl) (wp_seq_k fun _ hK6 => wp_region_lit (run S (.yy (Yn (ps := []) (us := [_, _]) bld35 .nil rfl) rfl <| .z) fun a w S => Zi (Zp S sizeOf35 (.t rfl) (.t rfl) (k := 4) rfl rfl rfl (by simp [Value.oneCell']) fun a w S => run S (.ac rfl <| .z) fun a w S => Zb (Za (hK6 _ _ (wp_ret (Zd (Zn S (results2 S results112 (Rv.cell (k := 4) ⟨isAgg35, sizeOf35⟩ rfl rfl rfl) (Rv.tmp rfl)) ?_)))))))))))))))
           rw [hok]
           exact ⟨_, _, rfl, ((S.nil_ 74 3 Dot.enc none).nil_ 30 3 Dot.enc none).wd.sub (by repeat (first | exact List.Sublist.refl _ | exact List.nil_sublist _ | refine .cons_cons _ ?_ | refine .cons _ ?_)), none, 0, none, 0, rfl, rfl⟩
       · rw [if_neg h1] at hok
         refine sg S (.ge (by omega) rfl rfl <| .z) fun a w S => wp_seq_k fun _ hK5 => Ze S (.t rfl) (wp_exit (Zh (Zh (Ya (Za (hK1 _ _ (wp_seq_k fun _ hK1 => sg S (.fa underlying35 sizeOf32 0 rfl rfl rfl <| .ld gt32 3 rfl rfl rfl <| .ln underlying32 rfl <| .yy (Yp (by omega) (Yf (.t rfl) Ev.c)) rfl <| .mv rfl <| .gy rfl rfl (Zc (FieldT.mk underlying35 rfl sizeOf33 rfl) (.t rfl) (i' := 1) rfl) <| .gy rfl rfl (Zt ⟨isAgg33, sizeOf33⟩ (.t rfl) (k := 3) rfl rfl) <| .gy rfl rfl (Wr underlying33 (.t rfl)) <| .gy rfl rfl (Yp (by omega) (Yf (.t rfl) Ev.c)) <| .yy (Zv (.t rfl) (.t rfl)) rfl <| .z) fun a w S => Ze S (.t rfl) (wp_skip (Za (hK1 _ _ (wp_seq_k fun _ hK1 => wp_region_lit (run S (.la gt35 3 rfl rfl rfl <| .z) fun a w S => Zi (Zp S sizeOf35 (.t rfl) (.t rfl) (k := 4) rfl rfl rfl (by simp [Value.oneCell']) fun a w S => run S (.ac rfl <| .z) fun a w S => Zb (Za (hK1 _ _ (wp_ret (Zn S (results2 S results112 (Rv.cell (k := 4) ⟨isAgg35, sizeOf35⟩ rfl rfl rfl) (Rv.tmp rfl)) ?_)))))))))))))))))
         rw [hok]
         exact ⟨_, _, rfl, S.wd.sub (by repeat (first | exact List.Sublist.refl _ | exact List.nil_sublist _ | refine .cons_cons _ ?_ | refine .cons _ ?_)), A2, c2, A3, c3, rfl, rfl⟩
end Go.Proofs.YtakpdbmdfnialaaGreat
set_option maxHeartbeats 4000000
namespace Go.Fw
theorem cov_may {C : Ctx} {d : Dot} (hC : canL C = true) (h : C.covers d = true) : mayD d = true := by
 have hN := Xz hC
 obtain ⟨h1, h2⟩ := (Xh C d).1 h
 rcases h2 with h2 | h2
 · have hm := hN.mayM _ (markOf_pos (x := d.node) (y := d.life) (l := C.marks) (by omega))
   have := Wj hm
   unfold mayD
   simp only [decide_eq_true_eq]
   dsimp only at this
   omega
 · exact hN.mayC _ h2
theorem norm_one {d : Dot} : (normalL [] [d]).2 = if mayD d = true then 0 else 1 := by
 cases h : mayD d with
 | false => rw [normalL_bad2 (k := 0) rfl h]; rfl
 | true =>
   rw [Wu (by simp) (by simp [h]), if_neg]
   · simp
   · have := settledL_len ((insF [d]).length + 1) (setF []) (insF [d])
     have e1 : (insF [d]).length = 1 := rfl
     have e2 : (setF []).length = 0 := rfl
     omega
end Go.Fw
namespace Go.Proofs.YtakpdbmdfnialaaGreat
open Go.Fw Go.Proofs Go.RowKit Go.Proofs.Tryz
theorem c138 (w0 : World) (v1 v2 v3 : Value) (l : List Ent) (C : Ctx) (k : Nat) (x : Ent) (h : Sl Ent.enc 6 w0 w0.heap.size v1 l) (hr : RdCtx w0 w0.heap.size v2 v3 C) (hx : l[k]? = some x) (hC : canL C = true) (hp : ∀ y ∈ l.take k, C.covers y.dot = true) (hk64 : k ≤ 64) :
   Calls Tryz.prog 138 #[.agg #[v1, v2, v3], .int .i64 (k : Int)] w0 fun e w' => e = .returned (.int .i64 (entE C (l.take k) x)) ∧ Bel w0.heap.size w0 w' := by
 have hs := h
 obtain ⟨A, cap, rfl, hl, hcap, hA⟩ := h
 have hlt : k < l.length := (List.getElem?_eq_some_iff.1 hx).1
 obtain ⟨g, o, x', rfl, hx', hd, hc⟩ := Yh hA hlt
 rw [hx] at hx'
 cases hx'
 cases rw_n : nameB x.item with
 | false =>
   have he : entE C (l.take k) x = 6 := by unfold entE; rw [if_pos rw_n]
   rw [he]
   refine enter2 func138 rfl ntmps138 rfl fun a S => wp_seq_k fun _ hK1 => wp_region_lit (Zi (Zy S (.t rfl) rfl fun g1 a w S => run S (.ac rfl <| .z) fun a w S => Zb (Za (hK1 _ _ (wp_seq_k fun _ hK1 => wp_region_lit (run S (.fa underlying37 sizeOf31 0 rfl rfl rfl <| .ld gt31 0 rfl rfl rfl <| .mv rfl <| .ix underlying31 sizeOf100 (by omega) rfl rfl <| .yy (Zu ⟨isAgg100, sizeOf100⟩ (.t rfl) (vs := [_, _, _, _, _, _]) rfl (fun _ => hc)) rfl <| .z) fun a w S => Zi (Zk S zeroValue100 (cs := _) rfl rfl fun g2 a w S => Zi (Zp S sizeOf100 (.t rfl) (.t rfl) (k := 0) rfl rfl rfl (by simp [Value.oneCell']) fun a w S => Zb (Za (hK1 _ _ (wp_seq_k fun _ hK1 => wp_block (wp_seq_k fun _ hK2 => wp_region_lit (run S (.fa underlying100 sizeOf9 0 rfl rfl rfl <| .ld gt9 0 rfl rfl rfl <| .xx (Zf call157 (.cons (.t rfl) .nil) (fun hp w W => c157 _ _)) rfl <| .z) fun a w S => ?_)))))))))))))
   rw [rw_n] at S
   refine run S (.nt rfl <| .as rfl <| .z) fun a w S => Zb (Za (hK2 _ _ (Zg S (.t rfl) (sg S (.ac rfl <| .z) fun a w S => wp_ret (Zq (Zd (Zn S (results1 S results138 (Rv.tmp rfl)) ?_)))))))
   exact ⟨rfl, S.wd.below⟩
 | true =>
 by_cases hq : x.qty < 1 ∨ 1000000 < x.qty
 · have he : entE C (l.take k) x = 52 := by unfold entE; rw [if_neg (by simp [rw_n]), if_pos hq]
   rw [he]
   have rw_q : (decide (x.qty < 1) || decide (1000000 < x.qty)) = true := by simp; omega
   refine enter2 func138 rfl ntmps138 rfl fun a S => wp_seq_k fun _ hK1 => wp_region_lit (Zi (Zy S (.t rfl) rfl fun g1 a w S => run S (.ac rfl <| .z) fun a w S => Zb (Za (hK1 _ _ (wp_seq_k fun _ hK1 => wp_region_lit (run S (.fa underlying37 sizeOf31 0 rfl rfl rfl <| .ld gt31 0 rfl rfl rfl <| .mv rfl <| .ix underlying31 sizeOf100 (by omega) rfl rfl <| .yy (Zu ⟨isAgg100, sizeOf100⟩ (.t rfl) (vs := [_, _, _, _, _, _]) rfl (fun _ => hc)) rfl <| .z) fun a w S => Zi (Zk S zeroValue100 (cs := _) rfl rfl fun g2 a w S => Zi (Zp S sizeOf100 (.t rfl) (.t rfl) (k := 0) rfl rfl rfl (by simp [Value.oneCell']) fun a w S => Zb (Za (hK1 _ _ (wp_seq_k fun _ hK1 => wp_block (wp_seq_k fun _ hK2 => wp_region_lit (run S (.fa underlying100 sizeOf9 0 rfl rfl rfl <| .ld gt9 0 rfl rfl rfl <| .xx (Zf call157 (.cons (.t rfl) .nil) (fun hp w W => c157 _ _)) rfl <| .z) fun a w S => ?_)))))))))))))
   rw [rw_n] at S
   refine run S (.nt rfl <| .as rfl <| .z) fun a w S => Zb (Za (hK2 _ _ (Ze S (.t rfl) (wp_seq_k fun _ hK2 => wp_region_lit (run S (.fa underlying100 sizeOf3 4 rfl rfl rfl <| .ld gt3 0 rfl rfl rfl <| .yy (Yz (.t rfl) Ev.c) rfl <| .mv rfl <| .z) fun a w S => Yt S rfl rfl (Yr.ys (Zc (FieldT.mk underlying100 rfl sizeOf3 rfl) (.t rfl) (i' := 4) rfl)) rfl fun a w S => Yt S rfl rfl (Yr.ys (Zt ⟨isAgg3, sizeOf3⟩ (Ev.g rfl) (k := 0) rfl rfl)) rfl fun a w S => Yt S rfl rfl (Yr.ys (Yf (Ev.g rfl) Ev.c)) rfl fun a w S => run S (.yy (Vb (.t rfl) Ev.c (Ev.g rfl)) rfl <| .z) fun a w S => ?_)))))
   rw [rw_q] at S
   refine run S (.as rfl <| .z) fun a w S => Zb (Za (hK2 _ _ (Zg S (.t rfl) (sg S (.ac rfl <| .z) fun a w S => wp_ret (Zq (Zd (Zn S (results1 S results138 (Rv.tmp rfl)) ?_)))))))
   exact ⟨rfl, S.wd.below⟩
 have rw_q : (decide (x.qty < 1) || decide (1000000 < x.qty)) = false := by simp; omega
 cases rw_p : priceB x.price with
 | false =>
   have he : entE C (l.take k) x = 53 := by unfold entE; rw [if_neg (by simp [rw_n]), if_neg hq, if_pos rw_p]
   rw [he]
   refine enter2 func138 rfl ntmps138 rfl fun a S => wp_seq_k fun _ hK1 => wp_region_lit (Zi (Zy S (.t rfl) rfl fun g1 a w S => run S (.ac rfl <| .z) fun a w S => Zb (Za (hK1 _ _ (wp_seq_k fun _ hK1 => wp_region_lit (run S (.fa underlying37 sizeOf31 0 rfl rfl rfl <| .ld gt31 0 rfl rfl rfl <| .mv rfl <| .ix underlying31 sizeOf100 (by omega) rfl rfl <| .yy (Zu ⟨isAgg100, sizeOf100⟩ (.t rfl) (vs := [_, _, _, _, _, _]) rfl (fun _ => hc)) rfl <| .z) fun a w S => Zi (Zk S zeroValue100 (cs := _) rfl rfl fun g2 a w S => Zi (Zp S sizeOf100 (.t rfl) (.t rfl) (k := 0) rfl rfl rfl (by simp [Value.oneCell']) fun a w S => Zb (Za (hK1 _ _ (wp_seq_k fun _ hK1 => wp_block (wp_seq_k fun _ hK2 => wp_region_lit (run S (.fa underlying100 sizeOf9 0 rfl rfl rfl <| .ld gt9 0 rfl rfl rfl <| .xx (Zf call157 (.cons (.t rfl) .nil) (fun hp w W => c157 _ _)) rfl <| .z) fun a w S => ?_)))))))))))))
   rw [rw_n] at S
   refine run S (.nt rfl <| .as rfl <| .z) fun a w S => Zb (Za (hK2 _ _ (Ze S (.t rfl) (sg S (.fa underlying100 sizeOf3 4 rfl rfl rfl <| .ld gt3 0 rfl rfl rfl <| .yy (Yp (by omega) (Yz (.t rfl) Ev.c)) rfl <| .mv rfl <| .gy rfl rfl (Zc (FieldT.mk underlying100 rfl sizeOf3 rfl) (.t rfl) (i' := 4) rfl) <| .gy rfl rfl (Zt ⟨isAgg3, sizeOf3⟩ (.t rfl) (k := 0) rfl rfl) <| .gy rfl rfl (Yp (by omega) (Yf (.t rfl) Ev.c)) <| .yy (Zv (.t rfl) (.t rfl)) rfl <| .as rfl <| .z) fun a w S => Ze S (.t rfl) (wp_seq_k fun _ hK2 => wp_region_lit (run S (.fa underlying100 sizeOf75 5 rfl rfl rfl <| .ld gt75 0 rfl rfl rfl <| .xx (Zf call158 (.cons (.t rfl) .nil) (fun hp w W => c158 _ _)) rfl <| .z) fun a w S => ?_))))))
   rw [rw_p] at S
   refine run S (.nt rfl <| .as rfl <| .z) fun a w S => Zb (Za (hK2 _ _ (Zg S (.t rfl) (sg S (.ac rfl <| .z) fun a w S => wp_ret (Zq (Zd (Zn S (results1 S results138 (Rv.tmp rfl)) ?_)))))))
   exact ⟨rfl, S.wd.below⟩
 | true =>
 have he0 : entE C (l.take k) x = if C.covers x.dot = false ∨ backE (l.take k).getLast? x = true then 50 else if x.dot ∈ (l.take k).map (·.dot) then 50 else 0 := by unfold entE; rw [if_neg (by simp [rw_n]), if_neg hq, if_neg (by simp [rw_p])]
 cases rw_c : C.covers x.dot with
 | false =>
   rw [if_pos (.inl rw_c)] at he0
   rw [he0]
   have rw_c2 : C.covers ⟨x.dot.node, x.dot.life, x.dot.count⟩ = false := rw_c
   refine enter2 func138 rfl ntmps138 rfl fun a S => wp_seq_k fun _ hK1 => wp_region_lit (Zi (Zy S (.t rfl) rfl fun g1 a w S => run S (.ac rfl <| .z) fun a w S => Zb (Za (hK1 _ _ (wp_seq_k fun _ hK1 => wp_region_lit (run S (.fa underlying37 sizeOf31 0 rfl rfl rfl <| .ld gt31 0 rfl rfl rfl <| .mv rfl <| .ix underlying31 sizeOf100 (by omega) rfl rfl <| .yy (Zu ⟨isAgg100, sizeOf100⟩ (.t rfl) (vs := [_, _, _, _, _, _]) rfl (fun _ => hc)) rfl <| .z) fun a w S => Zi (Zk S zeroValue100 (cs := _) rfl rfl fun g2 a w S => Zi (Zp S sizeOf100 (.t rfl) (.t rfl) (k := 0) rfl rfl rfl (by simp [Value.oneCell']) fun a w S => Zb (Za (hK1 _ _ (wp_seq_k fun _ hK1 => wp_block (wp_seq_k fun _ hK2 => wp_region_lit (run S (.fa underlying100 sizeOf9 0 rfl rfl rfl <| .ld gt9 0 rfl rfl rfl <| .xx (Zf call157 (.cons (.t rfl) .nil) (fun hp w W => c157 _ _)) rfl <| .z) fun a w S => ?_)))))))))))))
   rw [rw_n] at S
   refine run S (.nt rfl <| .as rfl <| .z) fun a w S => Zb (Za (hK2 _ _ (Ze S (.t rfl) (sg S (.fa underlying100 sizeOf3 4 rfl rfl rfl <| .ld gt3 0 rfl rfl rfl <| .yy (Yp (by omega) (Yz (.t rfl) Ev.c)) rfl <| .mv rfl <| .gy rfl rfl (Zc (FieldT.mk underlying100 rfl sizeOf3 rfl) (.t rfl) (i' := 4) rfl) <| .gy rfl rfl (Zt ⟨isAgg3, sizeOf3⟩ (.t rfl) (k := 0) rfl rfl) <| .gy rfl rfl (Yp (by omega) (Yf (.t rfl) Ev.c)) <| .yy (Zv (.t rfl) (.t rfl)) rfl <| .as rfl <| .z) fun a w S => Ze S (.t rfl) (wp_seq_k fun _ hK2 => wp_region_lit (run S (.fa underlying100 sizeOf75 5 rfl rfl rfl <| .ld gt75 0 rfl rfl rfl <| .xx (Zf call158 (.cons (.t rfl) .nil) (fun hp w W => c158 _ _)) rfl <| .z) fun a w S => ?_))))))
   rw [rw_p] at S
   refine run S (.nt rfl <| .as rfl <| .z) fun a w S => Zb (Za (hK2 _ _ (Ze S (.t rfl) (wp_seq_k fun _ hK2 => Ye S (by kernel_rfl) (by kernel_rfl) fun a S => qrun S (.fa underlying37 sizeOf35 1 rfl rfl rfl <| .la gt35 1 rfl rfl rfl <| .fa underlying100 sizeOf74 1 rfl rfl rfl <| .la gt74 0 rfl rfl rfl <| .xx (Zf call109 (.cons (.t rfl) (.cons (.t rfl) .nil)) (fun hp w W => c109 _ _ _ _ _ _ _ (by exact .old W (by assumption)))) rfl <| .z) fun a S => ?_))))
   rw [rw_c] at S
   refine qrun S (.nt rfl <| .mv rfl <| .sk rfl rfl rfl <| .sk rfl rfl rfl <| .sk rfl rfl rfl <| .s0 rfl rfl <| .s0 rfl rfl <| .s0 rfl rfl <| .s0 rfl rfl <| .s0 rfl rfl <| .s0 rfl rfl <| .s0 rfl rfl <| .s0 rfl rfl <| .s0 rfl rfl <| .sk rfl rfl rfl <| .yy (Zz (.t rfl) Ev.c) rfl <| .as rfl <| .z) fun a S => ?_
   (refine Xb ?_; intro w W; replace S := St.mk S W; clear W)
   refine Za (hK2 _ _ (Zg S (.t rfl) (sg S (.ac rfl <| .z) fun a w S => wp_ret (Zq (Zd (Zn S (results1 S results138 (Rv.tmp rfl)) ?_))))))
   exact ⟨rfl, S.wd.below⟩
 | true =>
 have rw_c2 : C.covers ⟨x.dot.node, x.dot.life, x.dot.count⟩ = true := rw_c
 rcases k with _ | k
 · have hnb : ¬ (C.covers x.dot = false ∨ backE (l.take 0).getLast? x = true) := by simp [rw_c, backE]
   refine enter2 func138 rfl ntmps138 rfl fun a S => wp_seq_k fun _ hK1 => wp_region_lit (Zi (Zy S (.t rfl) rfl fun g1 a w S => run S (.ac rfl <| .z) fun a w S => Zb (Za (hK1 _ _ (wp_seq_k fun _ hK1 => wp_region_lit (run S (.fa underlying37 sizeOf31 0 rfl rfl rfl <| .ld gt31 0 rfl rfl rfl <| .mv rfl <| .yy (Ym (j := 0) underlying31 sizeOf100 (.t rfl) (.t rfl) (fun _ => by omega)) rfl <| .yy (Zu ⟨isAgg100, sizeOf100⟩ (.t rfl) (vs := [_, _, _, _, _, _]) rfl (fun _ => hc)) rfl <| .z) fun a w S => Zi (Zk S zeroValue100 (cs := _) rfl rfl fun g2 a w S => Zi (Zp S sizeOf100 (.t rfl) (.t rfl) (k := 0) rfl rfl rfl (by simp [Value.oneCell']) fun a w S => Zb (Za (hK1 _ _ (wp_seq_k fun _ hK1 => wp_block (wp_seq_k fun _ hK2 => wp_region_lit (run S (.fa underlying100 sizeOf9 0 rfl rfl rfl <| .ld gt9 0 rfl rfl rfl <| .xx (Zf call157 (.cons (.t rfl) .nil) (fun hp w W => c157 _ _)) rfl <| .z) fun a w S => ?_)))))))))))))
   rw [rw_n] at S
   refine run S (.nt rfl <| .as rfl <| .z) fun a w S => Zb (Za (hK2 _ _ (Ze S (.t rfl) (sg S (.fa underlying100 sizeOf3 4 rfl rfl rfl <| .ld gt3 0 rfl rfl rfl <| .yy (Yp (by omega) (Yz (.t rfl) Ev.c)) rfl <| .mv rfl <| .gy rfl rfl (Zc (FieldT.mk underlying100 rfl sizeOf3 rfl) (.t rfl) (i' := 4) rfl) <| .gy rfl rfl (Zt ⟨isAgg3, sizeOf3⟩ (.t rfl) (k := 0) rfl rfl) <| .gy rfl rfl (Yp (by omega) (Yf (.t rfl) Ev.c)) <| .yy (Zv (.t rfl) (.t rfl)) rfl <| .as rfl <| .z) fun a w S => Ze S (.t rfl) (wp_seq_k fun _ hK2 => wp_region_lit (run S (.fa underlying100 sizeOf75 5 rfl rfl rfl <| .ld gt75 0 rfl rfl rfl <| .xx (Zf call158 (.cons (.t rfl) .nil) (fun hp w W => c158 _ _)) rfl <| .z) fun a w S => ?_))))))
   rw [rw_p] at S
   refine run S (.nt rfl <| .as rfl <| .z) fun a w S => Zb (Za (hK2 _ _ (Ze S (.t rfl) (wp_seq_k fun _ hK2 => Ye S (by kernel_rfl) (by kernel_rfl) fun a S => qrun S (.fa underlying37 sizeOf35 1 rfl rfl rfl <| .la gt35 1 rfl rfl rfl <| .fa underlying100 sizeOf74 1 rfl rfl rfl <| .la gt74 0 rfl rfl rfl <| .xx (Zf call109 (.cons (.t rfl) (.cons (.t rfl) .nil)) (fun hp w W => c109 _ _ _ _ _ _ _ (by exact .old W (by assumption)))) rfl <| .z) fun a S => ?_))))
   rw [rw_c] at S
   refine qrun S (.nt rfl <| .mv rfl <| .gy rfl rfl (Zj (.t rfl)) <| .gy rfl rfl (Yp (by omega) (Yf (.t rfl) Ev.c)) <| .gy rfl rfl (Zj (.t rfl)) <| .sk rfl rfl rfl <| .sk rfl rfl rfl <| .sk rfl rfl rfl <| .sk rfl rfl rfl <| .sk rfl rfl rfl <| .sk rfl rfl rfl <| .sk rfl rfl rfl <| .sk rfl rfl rfl <| .sk rfl rfl rfl <| .gy rfl rfl (Zv (.t rfl) Ev.c) <| .yy (Zv (.t rfl) (.t rfl)) rfl <| .as rfl <| .z) fun a S => ?_
   (refine Xb ?_; intro w W; replace S := St.mk S W; clear W)
   refine Za (hK2 _ _ (Ze S (.t rfl) (wp_skip (Zm (Za (hK1 _ _ (wp_seq_k fun _ hK1 => sg S (.fa underlying37 sizeOf31 0 rfl rfl rfl <| .ld gt31 1 rfl rfl rfl <| .mv rfl <| .yy (Vk underlying31 sizeOf100 (.t rfl) (.t rfl) (fun _ => by first | omega | (simp; done) | (simp; omega))) rfl <| .ln underlying31 rfl <| .mc rfl <| .z) fun a w S => wp_block ?_)))))))
   refine Xn S [7, 59] (X := Nat) (fun j => [(59, true, .int .i64 (j : Int))]) (fun _ => [.blk g2 (.cells (Ent.enc x).toArray 100), .blk g1 (.cells #[.slice (some ⟨g, o, none⟩) l.length cap, v2, v3] 37)])
     (fun j => j ≤ 0 ∧ x.dot ∉ (l.take j).map (·.dot)) (fun j => 0 - j) 0 ⟨Nat.zero_le _, by simp⟩ ?_
   clear S
   intro j a w ⟨hj, hdup⟩ S
   by_cases hjk : j < 0
   · obtain ⟨g3, o3, y, e3, hy, hdy, hcy⟩ := Yh hA (show j < l.length by omega)
     cases e3
     by_cases he : y.dot = x.dot
     · have hin : x.dot ∈ (l.take (0)).map (·.dot) := he ▸ dup_at hjk hy
       rw [if_neg hnb, if_pos hin] at he0
       rw [he0]
       have rw_e := decide_eq_true (Vj.1 he)
       refine sg S (.lt (by omega) rfl rfl <| .z) fun a w S => wp_seq_k fun _ hK2 => Zg S (.t rfl) (wp_skip (Za (hK2 _ _ (wp_seq_k fun _ hK2 => wp_block (wp_seq_k fun _ hK3 => wp_region_lit (run S (.ix underlying31 sizeOf100 (by omega) rfl rfl <| .yy (Zu ⟨isAgg100, sizeOf100⟩ (.t rfl) (vs := [_, _, _, _, _, _]) rfl (fun _ => hcy)) rfl <| .z) fun a w S => Zi (Zk S zeroValue100 (cs := _) rfl rfl fun g3 a w S => Zi (Zp S sizeOf100 (.t rfl) (.t rfl) (k := 0) rfl rfl rfl (by simp [Value.oneCell']) fun a w S => Zb (Za (hK3 _ _ (wp_seq_k fun _ hK3 => wp_region_lit (run S (.fa underlying100 sizeOf74 1 rfl rfl rfl <| .la gt74 0 rfl rfl rfl <| .fa underlying100 sizeOf74 1 rfl rfl rfl <| .la gt74 1 rfl rfl rfl <| .yy (Wh (.t rfl) (.t rfl) eq74) rfl <| .z) fun a w S => ?_))))))))))))
       rw [rw_e] at S
       refine Zb (Za (hK3 _ _ (Zg S (.t rfl) (sg S (.ac rfl <| .z) fun a w S => wp_ret (Zq (Zd (Zd (Zq (Zd (Zn S (results1 S results138 (Rv.tmp rfl)) ?_))))))))))
       exact ⟨rfl, S.wd.below⟩
     · have rw_e := decide_eq_false (fun h => he (Vj.2 h))
       refine sg S (.lt (by omega) rfl rfl <| .z) fun a w S => wp_seq_k fun _ hK2 => Zg S (.t rfl) (wp_skip (Za (hK2 _ _ (wp_seq_k fun _ hK2 => wp_block (wp_seq_k fun _ hK3 => wp_region_lit (run S (.ix underlying31 sizeOf100 (by omega) rfl rfl <| .yy (Zu ⟨isAgg100, sizeOf100⟩ (.t rfl) (vs := [_, _, _, _, _, _]) rfl (fun _ => hcy)) rfl <| .z) fun a w S => Zi (Zk S zeroValue100 (cs := _) rfl rfl fun g3 a w S => Zi (Zp S sizeOf100 (.t rfl) (.t rfl) (k := 0) rfl rfl rfl (by simp [Value.oneCell']) fun a w S => Zb (Za (hK3 _ _ (wp_seq_k fun _ hK3 => wp_region_lit (run S (.fa underlying100 sizeOf74 1 rfl rfl rfl <| .la gt74 0 rfl rfl rfl <| .fa underlying100 sizeOf74 1 rfl rfl rfl <| .la gt74 1 rfl rfl rfl <| .yy (Wh (.t rfl) (.t rfl) eq74) rfl <| .z) fun a w S => ?_))))))))))))
       rw [rw_e] at S
       refine Zb (Za (hK3 _ _ (Ze S (.t rfl) (wp_skip (Zm (Za (hK2 _ _ (wp_region_lit (run S (.ad (by unfold I64; omega) rfl <| .mv rfl <| .z) fun a w S => Zb (Za ?_))))))))))
       exact ⟨j + 1, ⟨by omega, dup_step hy hdup he⟩, by omega, S.pk⟩
   · obtain rfl : j = 0 := by omega
     rw [if_neg hnb, if_neg hdup] at he0
     refine sg S (.ge (by omega) rfl rfl <| .z) fun a w S => wp_seq_k fun _ hK2 => Ze S (.t rfl) (wp_exit (Zh (Zh (Ya (Za (hK1 _ _ (sg S (.ac rfl <| .z) fun a w S => wp_ret (Zn S (results1 S results138 (Rv.tmp rfl)) ?_))))))))
     exact ⟨by rw [he0], S.wd.below⟩
 obtain ⟨g4, o4, p, e4, hp4, hdp, hcp⟩ := Yh hA (show k < l.length by omega)
 cases e4
 rw [take_last hp4] at he0
 have hmp : mayD p.dot = true := cov_may hC (hp p (List.mem_of_getElem? (i := k) (by rw [List.getElem?_take, if_pos (by omega), hp4])))
 have hmx : mayD x.dot = true := cov_may hC rw_c
 by_cases hlt2 : ltE p x
 · have hnb : ¬ (C.covers x.dot = false ∨ backE (some p) x = true) := by simp [rw_c, backE, hlt2]
   have rw_l : decide (0 ≤ ordE p x) = false := decide_eq_false (by have := (ordE_iff p x).2 hlt2; omega)
   refine enter2 func138 rfl ntmps138 rfl fun a S => wp_seq_k fun _ hK1 => wp_region_lit (Zi (Zy S (.t rfl) rfl fun g1 a w S => run S (.ac rfl <| .z) fun a w S => Zb (Za (hK1 _ _ (wp_seq_k fun _ hK1 => wp_region_lit (run S (.fa underlying37 sizeOf31 0 rfl rfl rfl <| .ld gt31 0 rfl rfl rfl <| .mv rfl <| .ix underlying31 sizeOf100 (by omega) rfl rfl <| .yy (Zu ⟨isAgg100, sizeOf100⟩ (.t rfl) (vs := [_, _, _, _, _, _]) rfl (fun _ => hc)) rfl <| .z) fun a w S => Zi (Zk S zeroValue100 (cs := _) rfl rfl fun g2 a w S => Zi (Zp S sizeOf100 (.t rfl) (.t rfl) (k := 0) rfl rfl rfl (by simp [Value.oneCell']) fun a w S => Zb (Za (hK1 _ _ (wp_seq_k fun _ hK1 => wp_block (wp_seq_k fun _ hK2 => wp_region_lit (run S (.fa underlying100 sizeOf9 0 rfl rfl rfl <| .ld gt9 0 rfl rfl rfl <| .xx (Zf call157 (.cons (.t rfl) .nil) (fun hp w W => c157 _ _)) rfl <| .z) fun a w S => ?_)))))))))))))
   rw [rw_n] at S
   refine run S (.nt rfl <| .as rfl <| .z) fun a w S => Zb (Za (hK2 _ _ (Ze S (.t rfl) (sg S (.fa underlying100 sizeOf3 4 rfl rfl rfl <| .ld gt3 0 rfl rfl rfl <| .yy (Yp (by omega) (Yz (.t rfl) Ev.c)) rfl <| .mv rfl <| .gy rfl rfl (Zc (FieldT.mk underlying100 rfl sizeOf3 rfl) (.t rfl) (i' := 4) rfl) <| .gy rfl rfl (Zt ⟨isAgg3, sizeOf3⟩ (.t rfl) (k := 0) rfl rfl) <| .gy rfl rfl (Yp (by omega) (Yf (.t rfl) Ev.c)) <| .yy (Zv (.t rfl) (.t rfl)) rfl <| .as rfl <| .z) fun a w S => Ze S (.t rfl) (wp_seq_k fun _ hK2 => wp_region_lit (run S (.fa underlying100 sizeOf75 5 rfl rfl rfl <| .ld gt75 0 rfl rfl rfl <| .xx (Zf call158 (.cons (.t rfl) .nil) (fun hp w W => c158 _ _)) rfl <| .z) fun a w S => ?_))))))
   rw [rw_p] at S
   refine run S (.nt rfl <| .as rfl <| .z) fun a w S => Zb (Za (hK2 _ _ (Ze S (.t rfl) (wp_seq_k fun _ hK2 => Ye S (by kernel_rfl) (by kernel_rfl) fun a S => qrun S (.fa underlying37 sizeOf35 1 rfl rfl rfl <| .la gt35 1 rfl rfl rfl <| .fa underlying100 sizeOf74 1 rfl rfl rfl <| .la gt74 0 rfl rfl rfl <| .xx (Zf call109 (.cons (.t rfl) (.cons (.t rfl) .nil)) (fun hp w W => c109 _ _ _ _ _ _ _ (by exact .old W (by assumption)))) rfl <| .z) fun a S => ?_))))
   rw [rw_c] at S
   refine qrun S (.nt rfl <| .mv rfl <| .gy rfl rfl (Zj (.t rfl)) <| .gy rfl rfl (Yu (by omega) (Yf (.t rfl) Ev.c)) <| .gy rfl rfl (Zj (.t rfl)) <| .gy rfl rfl (Zc (FieldT.mk underlying37 rfl sizeOf31 rfl) (.t rfl) (i' := 0) rfl) <| .gy rfl rfl (Zt ⟨isAgg31, sizeOf31⟩ (.t rfl) (k := 1) rfl rfl) <| .gy rfl rfl (Zj (.t rfl)) <| .gy rfl rfl (Xu (.t rfl) Ev.c (by omega)) <| .gy rfl rfl (Ym underlying31 sizeOf100 (.t rfl) (.t rfl) (fun _ => by omega)) <| .gy rfl rfl (Zu ⟨isAgg100, sizeOf100⟩ (.t rfl) (vs := [_, _, _, _, _, _]) rfl (fun _ => hcp)) <| .gy rfl rfl (Yc ⟨isAgg100, sizeOf100⟩ (.t rfl) (k := 0) rfl rfl) <| .gx rfl rfl (Zf call179 (.cons (.t rfl) (.cons (.t rfl) .nil)) (fun hp w W => c179 _ _ _ (by assumption) (by assumption))) <| .gy rfl rfl (Xr (.t rfl) Ev.c) <| .z) fun a S => ?_
   rw [rw_l] at S
   refine qrun S (.gy rfl rfl (Zz (.t rfl) (.t rfl)) <| .yy (Zv (.t rfl) (.t rfl)) rfl <| .as rfl <| .z) fun a S => ?_
   (refine Xb ?_; intro w W; replace S := St.mk S W; clear W)
   refine Za (hK2 _ _ (Ze S (.t rfl) (wp_skip (Zm (Za (hK1 _ _ (wp_seq_k fun _ hK1 => sg S (.fa underlying37 sizeOf31 0 rfl rfl rfl <| .ld gt31 1 rfl rfl rfl <| .mv rfl <| .yy (Vk underlying31 sizeOf100 (.t rfl) (.t rfl) (fun _ => by first | omega | (simp; done) | (simp; omega))) rfl <| .ln underlying31 rfl <| .mc rfl <| .z) fun a w S => wp_block ?_)))))))
   refine Xn S [7, 59] (X := Nat) (fun j => [(59, true, .int .i64 (j : Int))]) (fun _ => [.blk g2 (.cells (Ent.enc x).toArray 100), .blk g1 (.cells #[.slice (some ⟨g, o, none⟩) l.length cap, v2, v3] 37)])
     (fun j => j ≤ (k + 1) ∧ x.dot ∉ (l.take j).map (·.dot)) (fun j => (k + 1) - j) 0 ⟨Nat.zero_le _, by simp⟩ ?_
   clear S
   intro j a w ⟨hj, hdup⟩ S
   by_cases hjk : j < (k + 1)
   · obtain ⟨g3, o3, y, e3, hy, hdy, hcy⟩ := Yh hA (show j < l.length by omega)
     cases e3
     by_cases he : y.dot = x.dot
     · have hin : x.dot ∈ (l.take ((k + 1))).map (·.dot) := he ▸ dup_at hjk hy
       rw [if_neg hnb, if_pos hin] at he0
       rw [he0]
       have rw_e := decide_eq_true (Vj.1 he)
       refine sg S (.lt (by omega) rfl rfl <| .z) fun a w S => wp_seq_k fun _ hK2 => Zg S (.t rfl) (wp_skip (Za (hK2 _ _ (wp_seq_k fun _ hK2 => wp_block (wp_seq_k fun _ hK3 => wp_region_lit (run S (.ix underlying31 sizeOf100 (by omega) rfl rfl <| .yy (Zu ⟨isAgg100, sizeOf100⟩ (.t rfl) (vs := [_, _, _, _, _, _]) rfl (fun _ => hcy)) rfl <| .z) fun a w S => Zi (Zk S zeroValue100 (cs := _) rfl rfl fun g3 a w S => Zi (Zp S sizeOf100 (.t rfl) (.t rfl) (k := 0) rfl rfl rfl (by simp [Value.oneCell']) fun a w S => Zb (Za (hK3 _ _ (wp_seq_k fun _ hK3 => wp_region_lit (run S (.fa underlying100 sizeOf74 1 rfl rfl rfl <| .la gt74 0 rfl rfl rfl <| .fa underlying100 sizeOf74 1 rfl rfl rfl <| .la gt74 1 rfl rfl rfl <| .yy (Wh (.t rfl) (.t rfl) eq74) rfl <| .z) fun a w S => ?_))))))))))))
       rw [rw_e] at S
       refine Zb (Za (hK3 _ _ (Zg S (.t rfl) (sg S (.ac rfl <| .z) fun a w S => wp_ret (Zq (Zd (Zd (Zq (Zd (Zn S (results1 S results138 (Rv.tmp rfl)) ?_))))))))))
       exact ⟨rfl, S.wd.below⟩
     · have rw_e := decide_eq_false (fun h => he (Vj.2 h))
       refine sg S (.lt (by omega) rfl rfl <| .z) fun a w S => wp_seq_k fun _ hK2 => Zg S (.t rfl) (wp_skip (Za (hK2 _ _ (wp_seq_k fun _ hK2 => wp_block (wp_seq_k fun _ hK3 => wp_region_lit (run S (.ix underlying31 sizeOf100 (by omega) rfl rfl <| .yy (Zu ⟨isAgg100, sizeOf100⟩ (.t rfl) (vs := [_, _, _, _, _, _]) rfl (fun _ => hcy)) rfl <| .z) fun a w S => Zi (Zk S zeroValue100 (cs := _) rfl rfl fun g3 a w S => Zi (Zp S sizeOf100 (.t rfl) (.t rfl) (k := 0) rfl rfl rfl (by simp [Value.oneCell']) fun a w S => Zb (Za (hK3 _ _ (wp_seq_k fun _ hK3 => wp_region_lit (run S (.fa underlying100 sizeOf74 1 rfl rfl rfl <| .la gt74 0 rfl rfl rfl <| .fa underlying100 sizeOf74 1 rfl rfl rfl <| .la gt74 1 rfl rfl rfl <| .yy (Wh (.t rfl) (.t rfl) eq74) rfl <| .z) fun a w S => ?_))))))))))))
       rw [rw_e] at S
       refine Zb (Za (hK3 _ _ (Ze S (.t rfl) (wp_skip (Zm (Za (hK2 _ _ (wp_region_lit (run S (.ad (by unfold I64; omega) rfl <| .mv rfl <| .z) fun a w S => Zb (Za ?_))))))))))
       exact ⟨j + 1, ⟨by omega, dup_step hy hdup he⟩, by omega, S.pk⟩
   · obtain rfl : j = (k + 1) := by omega
     rw [if_neg hnb, if_neg hdup] at he0
     refine sg S (.ge (by omega) rfl rfl <| .z) fun a w S => wp_seq_k fun _ hK2 => Ze S (.t rfl) (wp_exit (Zh (Zh (Ya (Za (hK1 _ _ (sg S (.ac rfl <| .z) fun a w S => wp_ret (Zn S (results1 S results138 (Rv.tmp rfl)) ?_))))))))
     exact ⟨by rw [he0], S.wd.below⟩
 · rw [if_pos (.inr (by simp [backE, hlt2]))] at he0
   rw [he0]
   have rw_l : decide (0 ≤ ordE p x) = true := decide_eq_true (by have : ¬ ordE p x < 0 := fun h => hlt2 ((ordE_iff p x).1 h); omega)
   refine enter2 func138 rfl ntmps138 rfl fun a S => wp_seq_k fun _ hK1 => wp_region_lit (Zi (Zy S (.t rfl) rfl fun g1 a w S => run S (.ac rfl <| .z) fun a w S => Zb (Za (hK1 _ _ (wp_seq_k fun _ hK1 => wp_region_lit (run S (.fa underlying37 sizeOf31 0 rfl rfl rfl <| .ld gt31 0 rfl rfl rfl <| .mv rfl <| .ix underlying31 sizeOf100 (by omega) rfl rfl <| .yy (Zu ⟨isAgg100, sizeOf100⟩ (.t rfl) (vs := [_, _, _, _, _, _]) rfl (fun _ => hc)) rfl <| .z) fun a w S => Zi (Zk S zeroValue100 (cs := _) rfl rfl fun g2 a w S => Zi (Zp S sizeOf100 (.t rfl) (.t rfl) (k := 0) rfl rfl rfl (by simp [Value.oneCell']) fun a w S => Zb (Za (hK1 _ _ (wp_seq_k fun _ hK1 => wp_block (wp_seq_k fun _ hK2 => wp_region_lit (run S (.fa underlying100 sizeOf9 0 rfl rfl rfl <| .ld gt9 0 rfl rfl rfl <| .xx (Zf call157 (.cons (.t rfl) .nil) (fun hp w W => c157 _ _)) rfl <| .z) fun a w S => ?_)))))))))))))
   rw [rw_n] at S
   refine run S (.nt rfl <| .as rfl <| .z) fun a w S => Zb (Za (hK2 _ _ (Ze S (.t rfl) (sg S (.fa underlying100 sizeOf3 4 rfl rfl rfl <| .ld gt3 0 rfl rfl rfl <| .yy (Yp (by omega) (Yz (.t rfl) Ev.c)) rfl <| .mv rfl <| .gy rfl rfl (Zc (FieldT.mk underlying100 rfl sizeOf3 rfl) (.t rfl) (i' := 4) rfl) <| .gy rfl rfl (Zt ⟨isAgg3, sizeOf3⟩ (.t rfl) (k := 0) rfl rfl) <| .gy rfl rfl (Yp (by omega) (Yf (.t rfl) Ev.c)) <| .yy (Zv (.t rfl) (.t rfl)) rfl <| .as rfl <| .z) fun a w S => Ze S (.t rfl) (wp_seq_k fun _ hK2 => wp_region_lit (run S (.fa underlying100 sizeOf75 5 rfl rfl rfl <| .ld gt75 0 rfl rfl rfl <| .xx (Zf call158 (.cons (.t rfl) .nil) (fun hp w W => c158 _ _)) rfl <| .z) fun a w S => ?_))))))
   rw [rw_p] at S
   refine run S (.nt rfl <| .as rfl <| .z) fun a w S => Zb (Za (hK2 _ _ (Ze S (.t rfl) (wp_seq_k fun _ hK2 => Ye S (by kernel_rfl) (by kernel_rfl) fun a S => qrun S (.fa underlying37 sizeOf35 1 rfl rfl rfl <| .la gt35 1 rfl rfl rfl <| .fa underlying100 sizeOf74 1 rfl rfl rfl <| .la gt74 0 rfl rfl rfl <| .xx (Zf call109 (.cons (.t rfl) (.cons (.t rfl) .nil)) (fun hp w W => c109 _ _ _ _ _ _ _ (by exact .old W (by assumption)))) rfl <| .z) fun a S => ?_))))
   rw [rw_c] at S
   refine qrun S (.nt rfl <| .mv rfl <| .gy rfl rfl (Zj (.t rfl)) <| .gy rfl rfl (Yu (by omega) (Yf (.t rfl) Ev.c)) <| .gy rfl rfl (Zj (.t rfl)) <| .gy rfl rfl (Zc (FieldT.mk underlying37 rfl sizeOf31 rfl) (.t rfl) (i' := 0) rfl) <| .gy rfl rfl (Zt ⟨isAgg31, sizeOf31⟩ (.t rfl) (k := 1) rfl rfl) <| .gy rfl rfl (Zj (.t rfl)) <| .gy rfl rfl (Xu (.t rfl) Ev.c (by omega)) <| .gy rfl rfl (Ym underlying31 sizeOf100 (.t rfl) (.t rfl) (fun _ => by omega)) <| .gy rfl rfl (Zu ⟨isAgg100, sizeOf100⟩ (.t rfl) (vs := [_, _, _, _, _, _]) rfl (fun _ => hcp)) <| .gy rfl rfl (Yc ⟨isAgg100, sizeOf100⟩ (.t rfl) (k := 0) rfl rfl) <| .gx rfl rfl (Zf call179 (.cons (.t rfl) (.cons (.t rfl) .nil)) (fun hp w W => c179 _ _ _ (by assumption) (by assumption))) <| .gy rfl rfl (Xr (.t rfl) Ev.c) <| .z) fun a S => ?_
   rw [rw_l] at S
   refine qrun S (.gy rfl rfl (Zz (.t rfl) (.t rfl)) <| .yy (Zv (.t rfl) (.t rfl)) rfl <| .as rfl <| .z) fun a S => ?_
   (refine Xb ?_; intro w W; replace S := St.mk S W; clear W)
   refine Za (hK2 _ _ (Zg S (.t rfl) (sg S (.ac rfl <| .z) fun a w S => wp_ret (Zq (Zd (Zn S (results1 S results138 (Rv.tmp rfl)) ?_))))))
   exact ⟨rfl, S.wd.below⟩
theorem c66 (w0 : World) (v1 v2 v3 : Value) (c : Cart) (h : Sl Ent.enc 6 w0 w0.heap.size v1 c.ents) (hr : RdCtx w0 w0.heap.size v2 v3 c.ctx) :
   Calls Tryz.prog 66 #[.agg #[v1, v2, v3]] w0 fun e w' => e = .returned (.int .i64 (canE c)) ∧ Bel w0.heap.size w0 w' := by
 obtain ⟨l, C⟩ := c
 dsimp only at h hr
 have hs := h
 obtain ⟨A, cap, rfl, hl, hcap, hA⟩ := h
 unfold canE
 dsimp only
 cases rw_C : canL C with
 | false =>
   refine enter1 func66 rfl ntmps66 rfl fun a S => wp_seq_k fun _ hK1 => wp_region_lit (Zi (Zy S (.t rfl) rfl fun g1 a w S => run S (.ac rfl <| .z) fun a w S => Zb (Za (hK1 _ _ (wp_seq_k fun _ hK1 => wp_block (wp_seq_k fun _ hK2 => wp_region_lit (run S (.fa underlying37 sizeOf35 1 rfl rfl rfl <| .la gt35 0 rfl rfl rfl <| .xx (Zf call137 (.cons (.t rfl) .nil) (fun hp w W => c137 _ _ _ _ (by exact .old W (by assumption)))) rfl <| .z) fun a w S => ?_)))))))
   rw [rw_C] at S
   refine run S (.nt rfl <| .as rfl <| .z) fun a w S => Zb (Za (hK2 _ _ (Zg S (.t rfl) (sg S (.ac rfl <| .z) fun a w S => wp_ret (Zq (Zd (Zn S (results1 S results66 (Rv.tmp rfl)) ?_)))))))
   exact ⟨rfl, S.wd.below⟩
 | true =>
 rw [if_neg (by simp)]
 by_cases hbig : 64 < l.length
 · refine enter1 func66 rfl ntmps66 rfl fun a S => wp_seq_k fun _ hK1 => wp_region_lit (Zi (Zy S (.t rfl) rfl fun g1 a w S => run S (.ac rfl <| .z) fun a w S => Zb (Za (hK1 _ _ (wp_seq_k fun _ hK1 => wp_block (wp_seq_k fun _ hK2 => wp_region_lit (run S (.fa underlying37 sizeOf35 1 rfl rfl rfl <| .la gt35 0 rfl rfl rfl <| .xx (Zf call137 (.cons (.t rfl) .nil) (fun hp w W => c137 _ _ _ _ (by exact .old W (by assumption)))) rfl <| .z) fun a w S => ?_)))))))
   rw [rw_C] at S
   refine run S (.nt rfl <| .as rfl <| .z) fun a w S => Zb (Za (hK2 _ _ (Ze S (.t rfl) (sg S (.fa underlying37 sizeOf31 0 rfl rfl rfl <| .ld gt31 0 rfl rfl rfl <| .ln underlying31 rfl <| .yy (Yu (by omega) (Yf (.t rfl) Ev.c)) rfl <| .as rfl <| .z) fun a w S => Zg S (.t rfl) (sg S (.ac rfl <| .z) fun a w S => wp_ret (Zq (Zd (Zn S (results1 S results66 (Rv.tmp rfl)) ?_))))))))
   exact ⟨by rw [if_pos hbig], S.wd.below⟩
 rw [if_neg hbig]
 refine enter1 func66 rfl ntmps66 rfl fun a S => wp_seq_k fun _ hK1 => wp_region_lit (Zi (Zy S (.t rfl) rfl fun g1 a w S => run S (.ac rfl <| .z) fun a w S => Zb (Za (hK1 _ _ (wp_seq_k fun _ hK1 => wp_block (wp_seq_k fun _ hK2 => wp_region_lit (run S (.fa underlying37 sizeOf35 1 rfl rfl rfl <| .la gt35 0 rfl rfl rfl <| .xx (Zf call137 (.cons (.t rfl) .nil) (fun hp w W => c137 _ _ _ _ (by exact .old W (by assumption)))) rfl <| .z) fun a w S => ?_)))))))
 rw [rw_C] at S
 refine run S (.nt rfl <| .as rfl <| .z) fun a w S => Zb (Za (hK2 _ _ (Ze S (.t rfl) (sg S (.fa underlying37 sizeOf31 0 rfl rfl rfl <| .ld gt31 0 rfl rfl rfl <| .ln underlying31 rfl <| .yy (Yp (by omega) (Yf (.t rfl) Ev.c)) rfl <| .as rfl <| .z) fun a w S => Ze S (.t rfl) (wp_skip (Zm (Za (hK1 _ _ (wp_seq_k fun _ hK1 => sg S (.fa underlying37 sizeOf31 0 rfl rfl rfl <| .ld gt31 0 rfl rfl rfl <| .ln underlying31 rfl <| .mc rfl <| .z) fun a w S => wp_block ?_)))))))))
 refine Xn S [3, 4, 18] (X := Nat) (fun k => [(18, true, .int .i64 (k : Int))]) (fun _ => [.blk g1 (.cells #[.slice A l.length cap, v2, v3] 37)])
   (fun k => k ≤ l.length ∧ (∀ y ∈ l.take k, C.covers y.dot = true) ∧ entsE C (l.take k) (l.drop k) = entsE C [] l) (fun k => l.length - k) 0 ⟨Nat.zero_le _, by simp, rfl⟩ ?_
 clear S
 intro k a w ⟨hk, hcov, hno⟩ S
 by_cases hlt : k < l.length
 rotate_left
 · obtain rfl : k = l.length := by omega
   rw [List.drop_length, entsE] at hno
   by_cases hi : 32 < itemsN l
   · refine sg S (.ge (by omega) rfl rfl <| .z) fun a w S => wp_seq_k fun _ hK2 => Ze S (.t rfl) (wp_exit (Zh (Zh (Ya (Za (hK1 _ _ (wp_seq_k fun _ hK1 => sg S (.fa underlying37 sizeOf31 0 rfl rfl rfl <| .ld gt31 0 rfl rfl rfl <| .xx (Zf call139 (.cons (.t rfl) .nil) (fun hp w W => c139 _ _ _ (by exact .old W (by assumption)) (by omega))) rfl <| .yy (Yu (by omega) (Yf (.t rfl) Ev.c)) rfl <| .z) fun a w S => Zg S (.t rfl) (sg S (.ac rfl <| .z) fun a w S => wp_ret (Zd (Zn S (results1 S results66 (Rv.tmp rfl)) ?_))))))))))
     exact ⟨by rw [if_pos hno.symm, if_pos hi], S.wd.below⟩
   · refine sg S (.ge (by omega) rfl rfl <| .z) fun a w S => wp_seq_k fun _ hK2 => Ze S (.t rfl) (wp_exit (Zh (Zh (Ya (Za (hK1 _ _ (wp_seq_k fun _ hK1 => sg S (.fa underlying37 sizeOf31 0 rfl rfl rfl <| .ld gt31 0 rfl rfl rfl <| .xx (Zf call139 (.cons (.t rfl) .nil) (fun hp w W => c139 _ _ _ (by exact .old W (by assumption)) (by omega))) rfl <| .yy (Yp (by omega) (Yf (.t rfl) Ev.c)) rfl <| .z) fun a w S => Ze S (.t rfl) (wp_skip (Za (hK1 _ _ (sg S (.ac rfl <| .z) fun a w S => wp_ret (Zn S (results1 S results66 (Rv.tmp rfl)) ?_))))))))))))
     exact ⟨by rw [if_pos hno.symm, if_neg hi], S.wd.below⟩
 obtain ⟨x, hx⟩ : ∃ x, l[k]? = some x := ⟨_, List.getElem?_eq_getElem hlt⟩
 have hst := ents_step (C := C) hx
 rw [hno] at hst
 by_cases he : entE C (l.take k) x = 0
 · have hcx := (entE_ok.1 he).1.cov
   rw [if_pos he] at hst
   have rw_e := he
   refine sg S (.lt (by omega) rfl rfl <| .z) fun a w S => wp_seq_k fun _ hK2 => Zg S (.t rfl) (wp_skip (Za (hK2 _ _ (wp_seq_k fun _ hK2 => wp_block (sg S (.mv rfl <| .as rfl <| .z) fun a w S => wp_seq_k fun _ hK3 => wp_region_lit (run S (.la gt37 0 rfl rfl rfl <| .mv rfl <| .xx (Zf call138 (.cons (.t rfl) (.cons (.t rfl) .nil)) (fun hp w W => c138 _ _ _ _ _ _ _ _ (by exact .old W (by assumption)) (by exact .old W (by assumption)) (by assumption) (by assumption) (by assumption) (by omega))) rfl <| .z) fun a w S => ?_))))))
   rw [rw_e] at S
   refine run S (.as rfl <| .z) fun a w S => Zb (Za (hK3 _ _ (sg S (.mv rfl <| .yy (Yp (by omega) (Yg (.t rfl) Ev.c)) rfl <| .z) fun a w S => Ze S (.t rfl) (wp_skip (Zm (Za (hK2 _ _ (wp_region_lit (run S (.ad (by unfold I64; omega) rfl <| .mv rfl <| .z) fun a w S => Zb (Za ?_))))))))))
   refine ⟨k + 1, ⟨by omega, fun y hy => ?_, hst.symm⟩, by omega, S.pk⟩
   rw [List.take_add_one, hx, Option.toList_some] at hy
   rcases List.mem_append.1 hy with hy | hy
   · exact hcov y hy
   · simp at hy; exact hy ▸ hcx
 · rw [if_neg he] at hst
   refine sg S (.lt (by omega) rfl rfl <| .z) fun a w S => wp_seq_k fun _ hK2 => Zg S (.t rfl) (wp_skip (Za (hK2 _ _ (wp_seq_k fun _ hK2 => wp_block (sg S (.mv rfl <| .as rfl <| .z) fun a w S => sg S (.la gt37 0 rfl rfl rfl <| .mv rfl <| .xx (Zf call138 (.cons (.t rfl) (.cons (.t rfl) .nil)) (fun hp w W => c138 _ _ _ _ _ _ _ _ (by exact .old W (by assumption)) (by exact .old W (by assumption)) (by assumption) (by assumption) (by assumption) (by omega))) rfl <| .as rfl <| .z) fun a w S => sg S (.mv rfl <| .yy (Yu (by omega) (Yg (.t rfl) Ev.c)) rfl <| .z) fun a w S => Zg S (.t rfl) (sg S (.mv rfl <| .as rfl <| .z) fun a w S => wp_ret (Zq (Zd (Zd (Zq (Zd (Zn S (results1 S results66 (Rv.tmp rfl)) ?_))))))))))))
   exact ⟨by rw [hst, if_neg he], S.wd.below⟩
end Go.Proofs.YtakpdbmdfnialaaGreat
namespace Go.Fw
abbrev Upd.enc (u : Upd) (v1 v2 v3 : Value) : List Value := [.string (bs u.key), .int .i64 u.dot.node, .int .i64 u.dot.life, .int .i64 u.dot.count, .string (bs u.item), .int .i64 u.qty, .int .u64 (u.price.toNat : Int), v1, v2, v3]
theorem can_ctx {c : Cart} (h : canE c = 0) : canL c.ctx = true := ((Wv c).1 h).ctx
end Go.Fw
namespace Go.Proofs.YtakpdbmdfnialaaGreat
open Go.Fw Go.Proofs Go.RowKit Go.Proofs.Tryz
theorem sl_y1 {w0 w : World} {L : List Chunk} {k g : Nat} {t : TypeId} {fr : Nat × Nat} {x y z : Int} (W : Wd w0 L w) (hk : L[k]? = some (.blk g (.cells #[.int .i64 x, .int .i64 y, .int .i64 z] t fr))) : Sl Dot.enc 3 w w.heap.size (.slice (some ⟨g, 0, none⟩) 1 1) [⟨x, y, z⟩] := by
 refine ⟨some ⟨g, 0, none⟩, 1, rfl, by simp, by simp, fun _ => ⟨g, 0, rfl, ((W.get hk).lt (b := g) rfl).2, fun i d hd j u hj => ?_⟩⟩
 have h2 := (W.get hk).2
 rcases i with _ | i
 · simp at hd
   subst hd
   rw [cell_of_row w g (0 + 0 * 3 + j) _ t fr h2]
   simpa [Dot.enc] using hj
 · simp at hd
theorem c106 (w0 : World) (u : Upd) (v1 v2 v3 : Value) (h : Sl Ent.enc 6 w0 w0.heap.size v1 u.seen.ents) (hr : RdCtx w0 w0.heap.size v2 v3 u.seen.ctx) :
   Calls Tryz.prog 106 #[.agg (Upd.enc u v1 v2 v3).toArray] w0 fun e w' => e = .returned (.int .i64 (mayE u)) ∧ Bel w0.heap.size w0 w' := by
 have hs := h
 have hrr := hr
 obtain ⟨A, cap, rfl, _⟩ := h
 obtain ⟨⟨A2, cap2, rfl, _⟩, ⟨A3, cap3, rfl, _⟩⟩ := hr
 unfold mayE
 cases rw_k : nameB u.key with
 | false =>
   refine enter1 func106 rfl ntmps106 rfl fun a S => wp_seq_k fun _ hK1 => wp_region_lit (Zi (Zy S (.t rfl) rfl fun g1 a w S => run S (.ac rfl <| .z) fun a w S => Zb (Za (hK1 _ _ (wp_seq_k fun _ hK1 => wp_block (wp_seq_k fun _ hK2 => wp_region_lit (run S (.fa underlying77 sizeOf9 0 rfl rfl rfl <| .ld gt9 0 rfl rfl rfl <| .xx (Zf call157 (.cons (.t rfl) .nil) (fun hp w W => c157 _ _)) rfl <| .z) fun a w S => ?_)))))))
   rw [rw_k] at S
   refine run S (.nt rfl <| .mv rfl <| .sk rfl rfl rfl <| .sk rfl rfl rfl <| .sk rfl rfl rfl <| .sk rfl rfl rfl <| .yy (Zz (.t rfl) Ev.c) rfl <| .as rfl <| .z) fun a w S => Zb (Za (hK2 _ _ (Zg S (.t rfl) (sg S (.ac rfl <| .z) fun a w S => wp_ret (Zq (Zd (Zn S (results1 S results106 (Rv.tmp rfl)) ?_)))))))
   exact ⟨by rw [if_pos (.inl rfl)], S.wd.below⟩
 | true =>
 cases rw_i : nameB u.item with
 | false =>
   refine enter1 func106 rfl ntmps106 rfl fun a S => wp_seq_k fun _ hK1 => wp_region_lit (Zi (Zy S (.t rfl) rfl fun g1 a w S => run S (.ac rfl <| .z) fun a w S => Zb (Za (hK1 _ _ (wp_seq_k fun _ hK1 => wp_block (wp_seq_k fun _ hK2 => wp_region_lit (run S (.fa underlying77 sizeOf9 0 rfl rfl rfl <| .ld gt9 0 rfl rfl rfl <| .xx (Zf call157 (.cons (.t rfl) .nil) (fun hp w W => c157 _ _)) rfl <| .z) fun a w S => ?_)))))))
   rw [rw_k] at S
   refine run S (.nt rfl <| .mv rfl <| .gy rfl rfl (Zc (FieldT.mk underlying77 rfl sizeOf9 rfl) (.t rfl) (i' := 4) rfl) <| .gy rfl rfl (Zt ⟨isAgg9, sizeOf9⟩ (.t rfl) (k := 0) rfl rfl) <| .gx rfl rfl (Zf call157 (.cons (.t rfl) .nil) (fun hp w W => c157 _ _)) <| .z) fun a w S => ?_
   rw [rw_i] at S
   refine run S (.gy rfl rfl (Xi (.t rfl)) <| .yy (Zv (.t rfl) (.t rfl)) rfl <| .as rfl <| .z) fun a w S => Zb (Za (hK2 _ _ (Zg S (.t rfl) (sg S (.ac rfl <| .z) fun a w S => wp_ret (Zq (Zd (Zn S (results1 S results106 (Rv.tmp rfl)) ?_)))))))
   exact ⟨by rw [if_pos (.inr rfl)], S.wd.below⟩
 | true =>
 rw [if_neg (by simp)]
 by_cases hq : u.qty < 0 ∨ 1000000 < u.qty
 · have rw_q : (decide (u.qty < 0) || decide (1000000 < u.qty)) = true := by simp; omega
   refine enter1 func106 rfl ntmps106 rfl fun a S => wp_seq_k fun _ hK1 => wp_region_lit (Zi (Zy S (.t rfl) rfl fun g1 a w S => run S (.ac rfl <| .z) fun a w S => Zb (Za (hK1 _ _ (wp_seq_k fun _ hK1 => wp_block (wp_seq_k fun _ hK2 => wp_region_lit (run S (.fa underlying77 sizeOf9 0 rfl rfl rfl <| .ld gt9 0 rfl rfl rfl <| .xx (Zf call157 (.cons (.t rfl) .nil) (fun hp w W => c157 _ _)) rfl <| .z) fun a w S => ?_)))))))
   rw [rw_k] at S
   refine run S (.nt rfl <| .mv rfl <| .gy rfl rfl (Zc (FieldT.mk underlying77 rfl sizeOf9 rfl) (.t rfl) (i' := 4) rfl) <| .gy rfl rfl (Zt ⟨isAgg9, sizeOf9⟩ (.t rfl) (k := 0) rfl rfl) <| .gx rfl rfl (Zf call157 (.cons (.t rfl) .nil) (fun hp w W => c157 _ _)) <| .z) fun a w S => ?_
   rw [rw_i] at S
   refine run S (.gy rfl rfl (Xi (.t rfl)) <| .yy (Zv (.t rfl) (.t rfl)) rfl <| .as rfl <| .z) fun a w S => Zb (Za (hK2 _ _ (Ze S (.t rfl) (wp_seq_k fun _ hK2 => wp_region_lit (run S (.fa underlying77 sizeOf3 5 rfl rfl rfl <| .ld gt3 0 rfl rfl rfl <| .yy (Yz (.t rfl) Ev.c) rfl <| .mv rfl <| .z) fun a w S => Yt S rfl rfl (Yr.ys (Zc (FieldT.mk underlying77 rfl sizeOf3 rfl) (.t rfl) (i' := 5) rfl)) rfl fun a w S => Yt S rfl rfl (Yr.ys (Zt ⟨isAgg3, sizeOf3⟩ (Ev.g rfl) (k := 0) rfl rfl)) rfl fun a w S => Yt S rfl rfl (Yr.ys (Yf (Ev.g rfl) Ev.c)) rfl fun a w S => run S (.yy (Vb (.t rfl) Ev.c (Ev.g rfl)) rfl <| .z) fun a w S => ?_)))))
   rw [rw_q] at S
   refine run S (.as rfl <| .z) fun a w S => Zb (Za (hK2 _ _ (Zg S (.t rfl) (sg S (.ac rfl <| .z) fun a w S => wp_ret (Zq (Zd (Zn S (results1 S results106 (Rv.tmp rfl)) ?_)))))))
   exact ⟨by rw [if_pos hq], S.wd.below⟩
 have rw_q : (decide (u.qty < 0) || decide (1000000 < u.qty)) = false := by simp; omega
 rw [if_neg hq]
 cases rw_p : priceB u.price with
 | false =>
   refine enter1 func106 rfl ntmps106 rfl fun a S => wp_seq_k fun _ hK1 => wp_region_lit (Zi (Zy S (.t rfl) rfl fun g1 a w S => run S (.ac rfl <| .z) fun a w S => Zb (Za (hK1 _ _ (wp_seq_k fun _ hK1 => wp_block (wp_seq_k fun _ hK2 => wp_region_lit (run S (.fa underlying77 sizeOf9 0 rfl rfl rfl <| .ld gt9 0 rfl rfl rfl <| .xx (Zf call157 (.cons (.t rfl) .nil) (fun hp w W => c157 _ _)) rfl <| .z) fun a w S => ?_)))))))
   rw [rw_k] at S
   refine run S (.nt rfl <| .mv rfl <| .gy rfl rfl (Zc (FieldT.mk underlying77 rfl sizeOf9 rfl) (.t rfl) (i' := 4) rfl) <| .gy rfl rfl (Zt ⟨isAgg9, sizeOf9⟩ (.t rfl) (k := 0) rfl rfl) <| .gx rfl rfl (Zf call157 (.cons (.t rfl) .nil) (fun hp w W => c157 _ _)) <| .z) fun a w S => ?_
   rw [rw_i] at S
   refine run S (.gy rfl rfl (Xi (.t rfl)) <| .yy (Zv (.t rfl) (.t rfl)) rfl <| .as rfl <| .z) fun a w S => Zb (Za (hK2 _ _ (Ze S (.t rfl) (sg S (.fa underlying77 sizeOf3 5 rfl rfl rfl <| .ld gt3 0 rfl rfl rfl <| .yy (Yp (by omega) (Yz (.t rfl) Ev.c)) rfl <| .mv rfl <| .gy rfl rfl (Zc (FieldT.mk underlying77 rfl sizeOf3 rfl) (.t rfl) (i' := 5) rfl) <| .gy rfl rfl (Zt ⟨isAgg3, sizeOf3⟩ (.t rfl) (k := 0) rfl rfl) <| .gy rfl rfl (Yp (by omega) (Yf (.t rfl) Ev.c)) <| .yy (Zv (.t rfl) (.t rfl)) rfl <| .as rfl <| .z) fun a w S => Ze S (.t rfl) (wp_seq_k fun _ hK2 => wp_region_lit (run S (.fa underlying77 sizeOf75 6 rfl rfl rfl <| .ld gt75 0 rfl rfl rfl <| .xx (Zf call158 (.cons (.t rfl) .nil) (fun hp w W => c158 _ _)) rfl <| .z) fun a w S => ?_))))))
   rw [rw_p] at S
   refine run S (.nt rfl <| .mv rfl <| .sk rfl rfl rfl <| .sk rfl rfl rfl <| .sk rfl rfl rfl <| .sk rfl rfl rfl <| .s0 rfl rfl <| .s0 rfl rfl <| .s0 rfl rfl <| .sk rfl rfl rfl <| .yy (Zz (.t rfl) Ev.c) rfl <| .as rfl <| .z) fun a w S => Zb (Za (hK2 _ _ (Zg S (.t rfl) (sg S (.ac rfl <| .z) fun a w S => wp_ret (Zq (Zd (Zn S (results1 S results106 (Rv.tmp rfl)) ?_)))))))
   exact ⟨by rw [if_pos (.inl rfl)], S.wd.below⟩
 | true =>
 by_cases hz : u.qty = 0 ∧ u.price.toNat ≠ 0
 · have rw_z : (decide (u.qty = 0) && decide ((u.price.toNat : Int) ≠ 0)) = true := by simp; omega
   refine enter1 func106 rfl ntmps106 rfl fun a S => wp_seq_k fun _ hK1 => wp_region_lit (Zi (Zy S (.t rfl) rfl fun g1 a w S => run S (.ac rfl <| .z) fun a w S => Zb (Za (hK1 _ _ (wp_seq_k fun _ hK1 => wp_block (wp_seq_k fun _ hK2 => wp_region_lit (run S (.fa underlying77 sizeOf9 0 rfl rfl rfl <| .ld gt9 0 rfl rfl rfl <| .xx (Zf call157 (.cons (.t rfl) .nil) (fun hp w W => c157 _ _)) rfl <| .z) fun a w S => ?_)))))))
   rw [rw_k] at S
   refine run S (.nt rfl <| .mv rfl <| .gy rfl rfl (Zc (FieldT.mk underlying77 rfl sizeOf9 rfl) (.t rfl) (i' := 4) rfl) <| .gy rfl rfl (Zt ⟨isAgg9, sizeOf9⟩ (.t rfl) (k := 0) rfl rfl) <| .gx rfl rfl (Zf call157 (.cons (.t rfl) .nil) (fun hp w W => c157 _ _)) <| .z) fun a w S => ?_
   rw [rw_i] at S
   refine run S (.gy rfl rfl (Xi (.t rfl)) <| .yy (Zv (.t rfl) (.t rfl)) rfl <| .as rfl <| .z) fun a w S => Zb (Za (hK2 _ _ (Ze S (.t rfl) (sg S (.fa underlying77 sizeOf3 5 rfl rfl rfl <| .ld gt3 0 rfl rfl rfl <| .yy (Yp (by omega) (Yz (.t rfl) Ev.c)) rfl <| .mv rfl <| .gy rfl rfl (Zc (FieldT.mk underlying77 rfl sizeOf3 rfl) (.t rfl) (i' := 5) rfl) <| .gy rfl rfl (Zt ⟨isAgg3, sizeOf3⟩ (.t rfl) (k := 0) rfl rfl) <| .gy rfl rfl (Yp (by omega) (Yf (.t rfl) Ev.c)) <| .yy (Zv (.t rfl) (.t rfl)) rfl <| .as rfl <| .z) fun a w S => Ze S (.t rfl) (wp_seq_k fun _ hK2 => wp_region_lit (run S (.fa underlying77 sizeOf75 6 rfl rfl rfl <| .ld gt75 0 rfl rfl rfl <| .xx (Zf call158 (.cons (.t rfl) .nil) (fun hp w W => c158 _ _)) rfl <| .z) fun a w S => ?_))))))
   rw [rw_p] at S
   refine run S (.nt rfl <| .mv rfl <| .gy rfl rfl (Zc (FieldT.mk underlying77 rfl sizeOf3 rfl) (.t rfl) (i' := 5) rfl) <| .gy rfl rfl (Zt ⟨isAgg3, sizeOf3⟩ (.t rfl) (k := 0) rfl rfl) <| .gy rfl rfl (Yu (by omega) (Yj (.t rfl) Ev.c)) <| .gy rfl rfl (Zj (.t rfl)) <| .gy rfl rfl (Zc (FieldT.mk underlying77 rfl sizeOf75 rfl) (.t rfl) (i' := 6) rfl) <| .gy rfl rfl (Zt ⟨isAgg75, sizeOf75⟩ (.t rfl) (k := 0) rfl rfl) <| .gy rfl rfl (Yu (by omega) (Yg (.t rfl) Ev.c)) <| .gy rfl rfl (Zz (.t rfl) (.t rfl)) <| .yy (Zv (.t rfl) (.t rfl)) rfl <| .as rfl <| .z) fun a w S => Zb (Za (hK2 _ _ (Zg S (.t rfl) (sg S (.ac rfl <| .z) fun a w S => wp_ret (Zq (Zd (Zn S (results1 S results106 (Rv.tmp rfl)) ?_)))))))
   exact ⟨by rw [if_pos (.inr hz)], S.wd.below⟩
 have rw_z : (decide (u.qty = 0) && decide ((u.price.toNat : Int) ≠ 0)) = false := by
   by_cases h0 : u.qty = 0
   · have : u.price.toNat = 0 := Decidable.byContradiction fun h => hz ⟨h0, h⟩
     simp [this]
   · simp [h0]
 rw [if_neg (by rintro (h | h); cases h; exact hz h)]
 by_cases he : canE u.seen = 0
 rotate_left
 · refine enter1 func106 rfl ntmps106 rfl fun a S => wp_seq_k fun _ hK1 => wp_region_lit (Zi (Zy S (.t rfl) rfl fun g1 a w S => run S (.ac rfl <| .z) fun a w S => Zb (Za (hK1 _ _ (wp_seq_k fun _ hK1 => wp_block (wp_seq_k fun _ hK2 => wp_region_lit (run S (.fa underlying77 sizeOf9 0 rfl rfl rfl <| .ld gt9 0 rfl rfl rfl <| .xx (Zf call157 (.cons (.t rfl) .nil) (fun hp w W => c157 _ _)) rfl <| .z) fun a w S => ?_)))))))
   rw [rw_k] at S
   refine run S (.nt rfl <| .mv rfl <| .gy rfl rfl (Zc (FieldT.mk underlying77 rfl sizeOf9 rfl) (.t rfl) (i' := 4) rfl) <| .gy rfl rfl (Zt ⟨isAgg9, sizeOf9⟩ (.t rfl) (k := 0) rfl rfl) <| .gx rfl rfl (Zf call157 (.cons (.t rfl) .nil) (fun hp w W => c157 _ _)) <| .z) fun a w S => ?_
   rw [rw_i] at S
   refine run S (.gy rfl rfl (Xi (.t rfl)) <| .yy (Zv (.t rfl) (.t rfl)) rfl <| .as rfl <| .z) fun a w S => Zb (Za (hK2 _ _ (Ze S (.t rfl) (sg S (.fa underlying77 sizeOf3 5 rfl rfl rfl <| .ld gt3 0 rfl rfl rfl <| .yy (Yp (by omega) (Yz (.t rfl) Ev.c)) rfl <| .mv rfl <| .gy rfl rfl (Zc (FieldT.mk underlying77 rfl sizeOf3 rfl) (.t rfl) (i' := 5) rfl) <| .gy rfl rfl (Zt ⟨isAgg3, sizeOf3⟩ (.t rfl) (k := 0) rfl rfl) <| .gy rfl rfl (Yp (by omega) (Yf (.t rfl) Ev.c)) <| .yy (Zv (.t rfl) (.t rfl)) rfl <| .as rfl <| .z) fun a w S => Ze S (.t rfl) (wp_seq_k fun _ hK2 => wp_region_lit (run S (.fa underlying77 sizeOf75 6 rfl rfl rfl <| .ld gt75 0 rfl rfl rfl <| .xx (Zf call158 (.cons (.t rfl) .nil) (fun hp w W => c158 _ _)) rfl <| .z) fun a w S => ?_))))))
   rw [rw_p] at S
   refine run S (.nt rfl <| .mv rfl <| .gy rfl rfl (Zc (FieldT.mk underlying77 rfl sizeOf3 rfl) (.t rfl) (i' := 5) rfl) <| .gy rfl rfl (Zt ⟨isAgg3, sizeOf3⟩ (.t rfl) (k := 0) rfl rfl) <| .gy rfl rfl (Yj (.t rfl) Ev.c) <| .gy rfl rfl (Zj (.t rfl)) <| .z) fun a w S => Yi S rfl rfl (Yr.ys (Zc (FieldT.mk underlying77 rfl sizeOf75 rfl) (.t rfl) (i' := 6) rfl)) rfl fun a w S => Yi S rfl rfl (Yr.ys (Zt ⟨isAgg75, sizeOf75⟩ (Ev.g rfl) (k := 0) rfl rfl)) rfl fun a w S => Yi S rfl rfl (Yr.ys (Yg (Ev.g rfl) Ev.c)) rfl fun a w S => run S (.gy rfl rfl (Vc (.t rfl) (Ev.g rfl) Ev.c) <| .z) fun a w S => ?_
   rw [rw_z] at S
   refine run S (.yy (Zv (.t rfl) (.t rfl)) rfl <| .as rfl <| .z) fun a w S => Zb (Za (hK2 _ _ (Ze S (.t rfl) (wp_skip (Zm (Za (hK1 _ _ (sg S (.fa underlying77 sizeOf37 7 rfl rfl rfl <| .la gt37 0 rfl rfl rfl <| .xx (Zf call66 (.cons (.t rfl) .nil) (fun hp w W => c66 _ _ _ _ _ (by exact .old W (by assumption)) (by exact .old W (by assumption)))) rfl <| .as rfl <| .z) fun a w S => wp_seq_k fun _ hK1 => sg S (.mv rfl <| .yy (Yu (by omega) (Yg (.t rfl) Ev.c)) rfl <| .z) fun a w S => Zg S (.t rfl) (sg S (.mv rfl <| .as rfl <| .z) fun a w S => wp_ret (Zd (Zn S (results1 S results106 (Rv.tmp rfl)) ?_)))))))))))
   exact ⟨by rw [if_neg he], S.wd.below⟩
 have rw_e := he
 rw [if_pos he]
 have hn1 := norm_one (d := u.dot)
 cases hd : mayD u.dot with
 | false =>
   have rw_n : (normalL [] [⟨u.dot.node, u.dot.life, u.dot.count⟩]).2 = 1 := by rw [hd] at hn1; exact hn1
   refine enter1 func106 rfl ntmps106 rfl fun a S => wp_seq_k fun _ hK1 => wp_region_lit (Zi (Zy S (.t rfl) rfl fun g1 a w S => run S (.ac rfl <| .z) fun a w S => Zb (Za (hK1 _ _ (wp_seq_k fun _ hK1 => wp_block (wp_seq_k fun _ hK2 => wp_region_lit (run S (.fa underlying77 sizeOf9 0 rfl rfl rfl <| .ld gt9 0 rfl rfl rfl <| .xx (Zf call157 (.cons (.t rfl) .nil) (fun hp w W => c157 _ _)) rfl <| .z) fun a w S => ?_)))))))
   rw [rw_k] at S
   refine run S (.nt rfl <| .mv rfl <| .gy rfl rfl (Zc (FieldT.mk underlying77 rfl sizeOf9 rfl) (.t rfl) (i' := 4) rfl) <| .gy rfl rfl (Zt ⟨isAgg9, sizeOf9⟩ (.t rfl) (k := 0) rfl rfl) <| .gx rfl rfl (Zf call157 (.cons (.t rfl) .nil) (fun hp w W => c157 _ _)) <| .z) fun a w S => ?_
   rw [rw_i] at S
   refine run S (.gy rfl rfl (Xi (.t rfl)) <| .yy (Zv (.t rfl) (.t rfl)) rfl <| .as rfl <| .z) fun a w S => Zb (Za (hK2 _ _ (Ze S (.t rfl) (sg S (.fa underlying77 sizeOf3 5 rfl rfl rfl <| .ld gt3 0 rfl rfl rfl <| .yy (Yp (by omega) (Yz (.t rfl) Ev.c)) rfl <| .mv rfl <| .gy rfl rfl (Zc (FieldT.mk underlying77 rfl sizeOf3 rfl) (.t rfl) (i' := 5) rfl) <| .gy rfl rfl (Zt ⟨isAgg3, sizeOf3⟩ (.t rfl) (k := 0) rfl rfl) <| .gy rfl rfl (Yp (by omega) (Yf (.t rfl) Ev.c)) <| .yy (Zv (.t rfl) (.t rfl)) rfl <| .as rfl <| .z) fun a w S => Ze S (.t rfl) (wp_seq_k fun _ hK2 => wp_region_lit (run S (.fa underlying77 sizeOf75 6 rfl rfl rfl <| .ld gt75 0 rfl rfl rfl <| .xx (Zf call158 (.cons (.t rfl) .nil) (fun hp w W => c158 _ _)) rfl <| .z) fun a w S => ?_))))))
   rw [rw_p] at S
   refine run S (.nt rfl <| .mv rfl <| .gy rfl rfl (Zc (FieldT.mk underlying77 rfl sizeOf3 rfl) (.t rfl) (i' := 5) rfl) <| .gy rfl rfl (Zt ⟨isAgg3, sizeOf3⟩ (.t rfl) (k := 0) rfl rfl) <| .gy rfl rfl (Yj (.t rfl) Ev.c) <| .gy rfl rfl (Zj (.t rfl)) <| .z) fun a w S => Yi S rfl rfl (Yr.ys (Zc (FieldT.mk underlying77 rfl sizeOf75 rfl) (.t rfl) (i' := 6) rfl)) rfl fun a w S => Yi S rfl rfl (Yr.ys (Zt ⟨isAgg75, sizeOf75⟩ (Ev.g rfl) (k := 0) rfl rfl)) rfl fun a w S => Yi S rfl rfl (Yr.ys (Yg (Ev.g rfl) Ev.c)) rfl fun a w S => run S (.gy rfl rfl (Vc (.t rfl) (Ev.g rfl) Ev.c) <| .z) fun a w S => ?_
   rw [rw_z] at S
   refine run S (.yy (Zv (.t rfl) (.t rfl)) rfl <| .as rfl <| .z) fun a w S => Zb (Za (hK2 _ _ (Ze S (.t rfl) (wp_skip (Zm (Za (hK1 _ _ (wp_seq_k fun _ hK1 => wp_region_lit (run S (.fa underlying77 sizeOf37 7 rfl rfl rfl <| .la gt37 0 rfl rfl rfl <| .xx (Zf call66 (.cons (.t rfl) .nil) (fun hp w W => c66 _ _ _ _ _ (by exact .old W (by assumption)) (by exact .old W (by assumption)))) rfl <| .z) fun a w S => ?_)))))))))
   rw [rw_e] at S
   refine run S (.as rfl <| .z) fun a w S => Zb (Za (hK1 _ _ (wp_seq_k fun _ hK1 => sg S (.mv rfl <| .yy (Yp (by omega) (Yg (.t rfl) Ev.c)) rfl <| .z) fun a w S => Ze S (.t rfl) (wp_skip (Za (hK1 _ _ (wp_seq_k fun _ hK1 => wp_region_lit (run S (.fa underlying77 sizeOf74 1 rfl rfl rfl <| .la gt74 0 rfl rfl rfl <| .z) fun a w S => Zi (Yd S underlying33 inf74 rfl rfl rfl (.t rfl) rfl rfl rfl fun g2 a w S => ?_)))))))))
   (refine Zi (Zr S call112 (.cons Ev.c (.cons (.t rfl) .nil)) (c112 _ _ _ _ _ (by exact Sl.nil_) (by exact sl_y1 S.wd (k := 0) rfl) (by (simp; done)) (by (simp; done))) rfl ?_); clear S a w; rintro _ _ ⟨A11, c11, A21, c21, rfl, rfl⟩ a w S)
   rw [rw_n] at S
   refine run S (.mv rfl <| .ex rfl rfl <| .ex rfl rfl <| .as rfl <| .z) fun a w S => Zb (Za (hK1 _ _ (wp_seq_k fun _ hK1 => sg S (.mv rfl <| .yy (Yu (by omega) (Yg (.t rfl) Ev.c)) rfl <| .mv rfl <| .sk rfl rfl rfl <| .sk rfl rfl rfl <| .sk rfl rfl rfl <| .sk rfl rfl rfl <| .sk rfl rfl rfl <| .sk rfl rfl rfl <| .yy (Zz (.t rfl) Ev.c) rfl <| .z) fun a w S => Zg S (.t rfl) (sg S (.ac rfl <| .z) fun a w S => wp_ret (Zd (Zn S (results1 S results106 (Rv.tmp rfl)) ?_))))))
   exact ⟨by rw [if_pos (.inl rfl)], S.wd.below⟩
 | true =>
   have rw_n : (normalL [] [⟨u.dot.node, u.dot.life, u.dot.count⟩]).2 = 0 := by rw [hd] at hn1; exact hn1
   cases hc : u.seen.ctx.covers u.dot with
   | true =>
     have rw_c : u.seen.ctx.covers ⟨u.dot.node, u.dot.life, u.dot.count⟩ = true := hc
     refine enter1 func106 rfl ntmps106 rfl fun a S => wp_seq_k fun _ hK1 => wp_region_lit (Zi (Zy S (.t rfl) rfl fun g1 a w S => run S (.ac rfl <| .z) fun a w S => Zb (Za (hK1 _ _ (wp_seq_k fun _ hK1 => wp_block (wp_seq_k fun _ hK2 => wp_region_lit (run S (.fa underlying77 sizeOf9 0 rfl rfl rfl <| .ld gt9 0 rfl rfl rfl <| .xx (Zf call157 (.cons (.t rfl) .nil) (fun hp w W => c157 _ _)) rfl <| .z) fun a w S => ?_)))))))
     rw [rw_k] at S
     refine run S (.nt rfl <| .mv rfl <| .gy rfl rfl (Zc (FieldT.mk underlying77 rfl sizeOf9 rfl) (.t rfl) (i' := 4) rfl) <| .gy rfl rfl (Zt ⟨isAgg9, sizeOf9⟩ (.t rfl) (k := 0) rfl rfl) <| .gx rfl rfl (Zf call157 (.cons (.t rfl) .nil) (fun hp w W => c157 _ _)) <| .z) fun a w S => ?_
     rw [rw_i] at S
     refine run S (.gy rfl rfl (Xi (.t rfl)) <| .yy (Zv (.t rfl) (.t rfl)) rfl <| .as rfl <| .z) fun a w S => Zb (Za (hK2 _ _ (Ze S (.t rfl) (sg S (.fa underlying77 sizeOf3 5 rfl rfl rfl <| .ld gt3 0 rfl rfl rfl <| .yy (Yp (by omega) (Yz (.t rfl) Ev.c)) rfl <| .mv rfl <| .gy rfl rfl (Zc (FieldT.mk underlying77 rfl sizeOf3 rfl) (.t rfl) (i' := 5) rfl) <| .gy rfl rfl (Zt ⟨isAgg3, sizeOf3⟩ (.t rfl) (k := 0) rfl rfl) <| .gy rfl rfl (Yp (by omega) (Yf (.t rfl) Ev.c)) <| .yy (Zv (.t rfl) (.t rfl)) rfl <| .as rfl <| .z) fun a w S => Ze S (.t rfl) (wp_seq_k fun _ hK2 => wp_region_lit (run S (.fa underlying77 sizeOf75 6 rfl rfl rfl <| .ld gt75 0 rfl rfl rfl <| .xx (Zf call158 (.cons (.t rfl) .nil) (fun hp w W => c158 _ _)) rfl <| .z) fun a w S => ?_))))))
     rw [rw_p] at S
     refine run S (.nt rfl <| .mv rfl <| .gy rfl rfl (Zc (FieldT.mk underlying77 rfl sizeOf3 rfl) (.t rfl) (i' := 5) rfl) <| .gy rfl rfl (Zt ⟨isAgg3, sizeOf3⟩ (.t rfl) (k := 0) rfl rfl) <| .gy rfl rfl (Yj (.t rfl) Ev.c) <| .gy rfl rfl (Zj (.t rfl)) <| .z) fun a w S => Yi S rfl rfl (Yr.ys (Zc (FieldT.mk underlying77 rfl sizeOf75 rfl) (.t rfl) (i' := 6) rfl)) rfl fun a w S => Yi S rfl rfl (Yr.ys (Zt ⟨isAgg75, sizeOf75⟩ (Ev.g rfl) (k := 0) rfl rfl)) rfl fun a w S => Yi S rfl rfl (Yr.ys (Yg (Ev.g rfl) Ev.c)) rfl fun a w S => run S (.gy rfl rfl (Vc (.t rfl) (Ev.g rfl) Ev.c) <| .z) fun a w S => ?_
     rw [rw_z] at S
     refine run S (.yy (Zv (.t rfl) (.t rfl)) rfl <| .as rfl <| .z) fun a w S => Zb (Za (hK2 _ _ (Ze S (.t rfl) (wp_skip (Zm (Za (hK1 _ _ (wp_seq_k fun _ hK1 => wp_region_lit (run S (.fa underlying77 sizeOf37 7 rfl rfl rfl <| .la gt37 0 rfl rfl rfl <| .xx (Zf call66 (.cons (.t rfl) .nil) (fun hp w W => c66 _ _ _ _ _ (by exact .old W (by assumption)) (by exact .old W (by assumption)))) rfl <| .z) fun a w S => ?_)))))))))
     rw [rw_e] at S
     refine run S (.as rfl <| .z) fun a w S => Zb (Za (hK1 _ _ (wp_seq_k fun _ hK1 => sg S (.mv rfl <| .yy (Yp (by omega) (Yg (.t rfl) Ev.c)) rfl <| .z) fun a w S => Ze S (.t rfl) (wp_skip (Za (hK1 _ _ (wp_seq_k fun _ hK1 => wp_region_lit (run S (.fa underlying77 sizeOf74 1 rfl rfl rfl <| .la gt74 0 rfl rfl rfl <| .z) fun a w S => Zi (Yd S underlying33 inf74 rfl rfl rfl (.t rfl) rfl rfl rfl fun g2 a w S => ?_)))))))))
     (refine Zi (Zr S call112 (.cons Ev.c (.cons (.t rfl) .nil)) (c112 _ _ _ _ _ (by exact Sl.nil_) (by exact sl_y1 S.wd (k := 0) rfl) (by (simp; done)) (by (simp; done))) rfl ?_); clear S a w; rintro _ _ ⟨A11, c11, A21, c21, rfl, rfl⟩ a w S)
     rw [rw_n] at S
     refine run S (.mv rfl <| .ex rfl rfl <| .ex rfl rfl <| .as rfl <| .z) fun a w S => Zb (Za (hK1 _ _ (wp_seq_k fun _ hK1 => wp_seq_k fun _ hK2 => wp_region_lit (run S (.mv rfl <| .yy (Yp (by omega) (Yg (.t rfl) Ev.c)) rfl <| .mv rfl <| .gy rfl rfl (Zc (FieldT.mk underlying77 rfl sizeOf37 rfl) (.t rfl) (i' := 7) rfl) <| .gy rfl rfl (Zc (FieldT.mk underlying37 rfl sizeOf35 rfl) (.t rfl) (i' := 8) rfl) <| .gy rfl rfl (Yc ⟨isAgg35, sizeOf35⟩ (.t rfl) (k := 3) rfl rfl) <| .gy rfl rfl (Zc (FieldT.mk underlying77 rfl sizeOf74 rfl) (.t rfl) (i' := 1) rfl) <| .gy rfl rfl (Yc ⟨isAgg74, sizeOf74⟩ (.t rfl) (k := 3) rfl rfl) <| .gx rfl rfl (Zf call109 (.cons (.t rfl) (.cons (.t rfl) .nil)) (fun hp w W => c109 _ _ _ _ _ _ _ (by exact .old W (by assumption)))) <| .z) fun a w S => ?_))))
     rw [rw_c] at S
     refine run S (.yy (Zv (.t rfl) (.t rfl)) rfl <| .z) fun a w S => Zb (Za (hK2 _ _ (Zg S (.t rfl) (sg S (.ac rfl <| .z) fun a w S => wp_ret (Zd (Zn S (results1 S results106 (Rv.tmp rfl)) ?_))))))
     exact ⟨by rw [if_pos (.inr rfl)], S.wd.below⟩
   | false =>
     have rw_c : u.seen.ctx.covers ⟨u.dot.node, u.dot.life, u.dot.count⟩ = false := hc
     refine enter1 func106 rfl ntmps106 rfl fun a S => wp_seq_k fun _ hK1 => wp_region_lit (Zi (Zy S (.t rfl) rfl fun g1 a w S => run S (.ac rfl <| .z) fun a w S => Zb (Za (hK1 _ _ (wp_seq_k fun _ hK1 => wp_block (wp_seq_k fun _ hK2 => wp_region_lit (run S (.fa underlying77 sizeOf9 0 rfl rfl rfl <| .ld gt9 0 rfl rfl rfl <| .xx (Zf call157 (.cons (.t rfl) .nil) (fun hp w W => c157 _ _)) rfl <| .z) fun a w S => ?_)))))))
     rw [rw_k] at S
     refine run S (.nt rfl <| .mv rfl <| .gy rfl rfl (Zc (FieldT.mk underlying77 rfl sizeOf9 rfl) (.t rfl) (i' := 4) rfl) <| .gy rfl rfl (Zt ⟨isAgg9, sizeOf9⟩ (.t rfl) (k := 0) rfl rfl) <| .gx rfl rfl (Zf call157 (.cons (.t rfl) .nil) (fun hp w W => c157 _ _)) <| .z) fun a w S => ?_
     rw [rw_i] at S
     refine run S (.gy rfl rfl (Xi (.t rfl)) <| .yy (Zv (.t rfl) (.t rfl)) rfl <| .as rfl <| .z) fun a w S => Zb (Za (hK2 _ _ (Ze S (.t rfl) (sg S (.fa underlying77 sizeOf3 5 rfl rfl rfl <| .ld gt3 0 rfl rfl rfl <| .yy (Yp (by omega) (Yz (.t rfl) Ev.c)) rfl <| .mv rfl <| .gy rfl rfl (Zc (FieldT.mk underlying77 rfl sizeOf3 rfl) (.t rfl) (i' := 5) rfl) <| .gy rfl rfl (Zt ⟨isAgg3, sizeOf3⟩ (.t rfl) (k := 0) rfl rfl) <| .gy rfl rfl (Yp (by omega) (Yf (.t rfl) Ev.c)) <| .yy (Zv (.t rfl) (.t rfl)) rfl <| .as rfl <| .z) fun a w S => Ze S (.t rfl) (wp_seq_k fun _ hK2 => wp_region_lit (run S (.fa underlying77 sizeOf75 6 rfl rfl rfl <| .ld gt75 0 rfl rfl rfl <| .xx (Zf call158 (.cons (.t rfl) .nil) (fun hp w W => c158 _ _)) rfl <| .z) fun a w S => ?_))))))
     rw [rw_p] at S
     refine run S (.nt rfl <| .mv rfl <| .gy rfl rfl (Zc (FieldT.mk underlying77 rfl sizeOf3 rfl) (.t rfl) (i' := 5) rfl) <| .gy rfl rfl (Zt ⟨isAgg3, sizeOf3⟩ (.t rfl) (k := 0) rfl rfl) <| .gy rfl rfl (Yj (.t rfl) Ev.c) <| .gy rfl rfl (Zj (.t rfl)) <| .z) fun a w S => Yi S rfl rfl (Yr.ys (Zc (FieldT.mk underlying77 rfl sizeOf75 rfl) (.t rfl) (i' := 6) rfl)) rfl fun a w S => Yi S rfl rfl (Yr.ys (Zt ⟨isAgg75, sizeOf75⟩ (Ev.g rfl) (k := 0) rfl rfl)) rfl fun a w S => Yi S rfl rfl (Yr.ys (Yg (Ev.g rfl) Ev.c)) rfl fun a w S => run S (.gy rfl rfl (Vc (.t rfl) (Ev.g rfl) Ev.c) <| .z) fun a w S => ?_
     rw [rw_z] at S
     refine run S (.yy (Zv (.t rfl) (.t rfl)) rfl <| .as rfl <| .z) fun a w S => Zb (Za (hK2 _ _ (Ze S (.t rfl) (wp_skip (Zm (Za (hK1 _ _ (wp_seq_k fun _ hK1 => wp_region_lit (run S (.fa underlying77 sizeOf37 7 rfl rfl rfl <| .la gt37 0 rfl rfl rfl <| .xx (Zf call66 (.cons (.t rfl) .nil) (fun hp w W => c66 _ _ _ _ _ (by exact .old W (by assumption)) (by exact .old W (by assumption)))) rfl <| .z) fun a w S => ?_)))))))))
     rw [rw_e] at S
     refine run S (.as rfl <| .z) fun a w S => Zb (Za (hK1 _ _ (wp_seq_k fun _ hK1 => sg S (.mv rfl <| .yy (Yp (by omega) (Yg (.t rfl) Ev.c)) rfl <| .z) fun a w S => Ze S (.t rfl) (wp_skip (Za (hK1 _ _ (wp_seq_k fun _ hK1 => wp_region_lit (run S (.fa underlying77 sizeOf74 1 rfl rfl rfl <| .la gt74 0 rfl rfl rfl <| .z) fun a w S => Zi (Yd S underlying33 inf74 rfl rfl rfl (.t rfl) rfl rfl rfl fun g2 a w S => ?_)))))))))
     (refine Zi (Zr S call112 (.cons Ev.c (.cons (.t rfl) .nil)) (c112 _ _ _ _ _ (by exact Sl.nil_) (by exact sl_y1 S.wd (k := 0) rfl) (by (simp; done)) (by (simp; done))) rfl ?_); clear S a w; rintro _ _ ⟨A11, c11, A21, c21, rfl, rfl⟩ a w S)
     rw [rw_n] at S
     refine run S (.mv rfl <| .ex rfl rfl <| .ex rfl rfl <| .as rfl <| .z) fun a w S => Zb (Za (hK1 _ _ (wp_seq_k fun _ hK1 => wp_seq_k fun _ hK2 => wp_region_lit (run S (.mv rfl <| .yy (Yp (by omega) (Yg (.t rfl) Ev.c)) rfl <| .mv rfl <| .gy rfl rfl (Zc (FieldT.mk underlying77 rfl sizeOf37 rfl) (.t rfl) (i' := 7) rfl) <| .gy rfl rfl (Zc (FieldT.mk underlying37 rfl sizeOf35 rfl) (.t rfl) (i' := 8) rfl) <| .gy rfl rfl (Yc ⟨isAgg35, sizeOf35⟩ (.t rfl) (k := 3) rfl rfl) <| .gy rfl rfl (Zc (FieldT.mk underlying77 rfl sizeOf74 rfl) (.t rfl) (i' := 1) rfl) <| .gy rfl rfl (Yc ⟨isAgg74, sizeOf74⟩ (.t rfl) (k := 3) rfl rfl) <| .gx rfl rfl (Zf call109 (.cons (.t rfl) (.cons (.t rfl) .nil)) (fun hp w W => c109 _ _ _ _ _ _ _ (by exact .old W (by assumption)))) <| .z) fun a w S => ?_))))
     rw [rw_c] at S
     refine run S (.yy (Zv (.t rfl) (.t rfl)) rfl <| .z) fun a w S => Zb (Za (hK2 _ _ (Ze S (.t rfl) (wp_skip (Za (hK1 _ _ (sg S (.ac rfl <| .z) fun a w S => wp_ret (Zn S (results1 S results106 (Rv.tmp rfl)) ?_))))))))
     exact ⟨by rw [if_neg (by simp)], S.wd.below⟩
theorem c128 (w0 : World) (u : Upd) (v1 v2 v3 : Value) (h : Sl Ent.enc 6 w0 w0.heap.size v1 u.seen.ents) (hr : RdCtx w0 w0.heap.size v2 v3 u.seen.ctx) :
   Calls Tryz.prog 128 #[.agg (Upd.enc u v1 v2 v3).toArray] w0 fun e w' => e = .returned (.int .i64 (mayE u)) ∧ Bel w0.heap.size w0 w' := by
 have hs := h
 have hrr := hr
 obtain ⟨A, cap, rfl, _⟩ := h
 obtain ⟨⟨A2, cap2, rfl, _⟩, ⟨A3, cap3, rfl, _⟩⟩ := hr
 unfold mayE
 cases rw_k : nameB u.key with
 | false =>
   refine enter1 func128 rfl ntmps128 rfl fun a S => wp_seq_k fun _ hK1 => wp_region_lit (Zi (Zy S (.t rfl) rfl fun g1 a w S => run S (.ac rfl <| .z) fun a w S => Zb (Za (hK1 _ _ (wp_seq_k fun _ hK1 => wp_block (wp_seq_k fun _ hK2 => wp_region_lit (run S (.fa underlying77 sizeOf9 0 rfl rfl rfl <| .ld gt9 0 rfl rfl rfl <| .xx (Zf call82 (.cons (.t rfl) .nil) (fun hp w W => c82 _ _)) rfl <| .z) fun a w S => ?_)))))))
   rw [rw_k] at S
   refine run S (.nt rfl <| .mv rfl <| .sk rfl rfl rfl <| .sk rfl rfl rfl <| .sk rfl rfl rfl <| .sk rfl rfl rfl <| .yy (Zz (.t rfl) Ev.c) rfl <| .as rfl <| .z) fun a w S => Zb (Za (hK2 _ _ (Zg S (.t rfl) (sg S (.ac rfl <| .z) fun a w S => wp_ret (Zq (Zd (Zn S (results1 S results128 (Rv.tmp rfl)) ?_)))))))
   exact ⟨by rw [if_pos (.inl rfl)], S.wd.below⟩
 | true =>
 cases rw_i : nameB u.item with
 | false =>
   refine enter1 func128 rfl ntmps128 rfl fun a S => wp_seq_k fun _ hK1 => wp_region_lit (Zi (Zy S (.t rfl) rfl fun g1 a w S => run S (.ac rfl <| .z) fun a w S => Zb (Za (hK1 _ _ (wp_seq_k fun _ hK1 => wp_block (wp_seq_k fun _ hK2 => wp_region_lit (run S (.fa underlying77 sizeOf9 0 rfl rfl rfl <| .ld gt9 0 rfl rfl rfl <| .xx (Zf call82 (.cons (.t rfl) .nil) (fun hp w W => c82 _ _)) rfl <| .z) fun a w S => ?_)))))))
   rw [rw_k] at S
   refine run S (.nt rfl <| .mv rfl <| .gy rfl rfl (Zc (FieldT.mk underlying77 rfl sizeOf9 rfl) (.t rfl) (i' := 4) rfl) <| .gy rfl rfl (Zt ⟨isAgg9, sizeOf9⟩ (.t rfl) (k := 0) rfl rfl) <| .gx rfl rfl (Zf call82 (.cons (.t rfl) .nil) (fun hp w W => c82 _ _)) <| .z) fun a w S => ?_
   rw [rw_i] at S
   refine run S (.gy rfl rfl (Xi (.t rfl)) <| .yy (Zv (.t rfl) (.t rfl)) rfl <| .as rfl <| .z) fun a w S => Zb (Za (hK2 _ _ (Zg S (.t rfl) (sg S (.ac rfl <| .z) fun a w S => wp_ret (Zq (Zd (Zn S (results1 S results128 (Rv.tmp rfl)) ?_)))))))
   exact ⟨by rw [if_pos (.inr rfl)], S.wd.below⟩
 | true =>
 rw [if_neg (by simp)]
 by_cases hq : u.qty < 0 ∨ 1000000 < u.qty
 · have rw_q : (decide (0 ≤ u.qty) && decide (u.qty ≤ 1000000)) = false := by simp; omega
   refine enter1 func128 rfl ntmps128 rfl fun a S => wp_seq_k fun _ hK1 => wp_region_lit (Zi (Zy S (.t rfl) rfl fun g1 a w S => run S (.ac rfl <| .z) fun a w S => Zb (Za (hK1 _ _ (wp_seq_k fun _ hK1 => wp_block (wp_seq_k fun _ hK2 => wp_region_lit (run S (.fa underlying77 sizeOf9 0 rfl rfl rfl <| .ld gt9 0 rfl rfl rfl <| .xx (Zf call82 (.cons (.t rfl) .nil) (fun hp w W => c82 _ _)) rfl <| .z) fun a w S => ?_)))))))
   rw [rw_k] at S
   refine run S (.nt rfl <| .mv rfl <| .gy rfl rfl (Zc (FieldT.mk underlying77 rfl sizeOf9 rfl) (.t rfl) (i' := 4) rfl) <| .gy rfl rfl (Zt ⟨isAgg9, sizeOf9⟩ (.t rfl) (k := 0) rfl rfl) <| .gx rfl rfl (Zf call82 (.cons (.t rfl) .nil) (fun hp w W => c82 _ _)) <| .z) fun a w S => ?_
   rw [rw_i] at S
   refine run S (.gy rfl rfl (Xi (.t rfl)) <| .yy (Zv (.t rfl) (.t rfl)) rfl <| .as rfl <| .z) fun a w S => Zb (Za (hK2 _ _ (Ze S (.t rfl) (wp_seq_k fun _ hK2 => wp_region_lit (run S (.fa underlying77 sizeOf3 5 rfl rfl rfl <| .ld gt3 0 rfl rfl rfl <| .xx (Zf call83 (.cons (.t rfl) (.cons Ev.c .nil)) (fun hp w W => c83 _ _ _)) rfl <| .z) fun a w S => ?_)))))
   rw [rw_q] at S
   refine run S (.nt rfl <| .as rfl <| .z) fun a w S => Zb (Za (hK2 _ _ (Zg S (.t rfl) (sg S (.ac rfl <| .z) fun a w S => wp_ret (Zq (Zd (Zn S (results1 S results128 (Rv.tmp rfl)) ?_)))))))
   exact ⟨by rw [if_pos hq], S.wd.below⟩
 have rw_q : (decide (0 ≤ u.qty) && decide (u.qty ≤ 1000000)) = true := by simp; omega
 rw [if_neg hq]
 cases rw_p : priceB u.price with
 | false =>
   refine enter1 func128 rfl ntmps128 rfl fun a S => wp_seq_k fun _ hK1 => wp_region_lit (Zi (Zy S (.t rfl) rfl fun g1 a w S => run S (.ac rfl <| .z) fun a w S => Zb (Za (hK1 _ _ (wp_seq_k fun _ hK1 => wp_block (wp_seq_k fun _ hK2 => wp_region_lit (run S (.fa underlying77 sizeOf9 0 rfl rfl rfl <| .ld gt9 0 rfl rfl rfl <| .xx (Zf call82 (.cons (.t rfl) .nil) (fun hp w W => c82 _ _)) rfl <| .z) fun a w S => ?_)))))))
   rw [rw_k] at S
   refine run S (.nt rfl <| .mv rfl <| .gy rfl rfl (Zc (FieldT.mk underlying77 rfl sizeOf9 rfl) (.t rfl) (i' := 4) rfl) <| .gy rfl rfl (Zt ⟨isAgg9, sizeOf9⟩ (.t rfl) (k := 0) rfl rfl) <| .gx rfl rfl (Zf call82 (.cons (.t rfl) .nil) (fun hp w W => c82 _ _)) <| .z) fun a w S => ?_
   rw [rw_i] at S
   refine run S (.gy rfl rfl (Xi (.t rfl)) <| .yy (Zv (.t rfl) (.t rfl)) rfl <| .as rfl <| .z) fun a w S => Zb (Za (hK2 _ _ (Ze S (.t rfl) (wp_seq_k fun _ hK2 => wp_region_lit (run S (.fa underlying77 sizeOf3 5 rfl rfl rfl <| .ld gt3 0 rfl rfl rfl <| .xx (Zf call83 (.cons (.t rfl) (.cons Ev.c .nil)) (fun hp w W => c83 _ _ _)) rfl <| .z) fun a w S => ?_)))))
   rw [rw_q] at S
   refine run S (.nt rfl <| .as rfl <| .z) fun a w S => Zb (Za (hK2 _ _ (Ze S (.t rfl) (wp_seq_k fun _ hK2 => wp_region_lit (run S (.fa underlying77 sizeOf75 6 rfl rfl rfl <| .ld gt75 0 rfl rfl rfl <| .xx (Zf call84 (.cons (.t rfl) .nil) (fun hp w W => c84 _ _)) rfl <| .z) fun a w S => ?_)))))
   rw [rw_p] at S
   refine run S (.nt rfl <| .mv rfl <| .sk rfl rfl rfl <| .sk rfl rfl rfl <| .sk rfl rfl rfl <| .sk rfl rfl rfl <| .s0 rfl rfl <| .s0 rfl rfl <| .s0 rfl rfl <| .sk rfl rfl rfl <| .yy (Zz (.t rfl) Ev.c) rfl <| .as rfl <| .z) fun a w S => Zb (Za (hK2 _ _ (Zg S (.t rfl) (sg S (.ac rfl <| .z) fun a w S => wp_ret (Zq (Zd (Zn S (results1 S results128 (Rv.tmp rfl)) ?_)))))))
   exact ⟨by rw [if_pos (.inl rfl)], S.wd.below⟩
 | true =>
 by_cases hz : u.qty = 0 ∧ u.price.toNat ≠ 0
 · have rw_z : (decide (u.qty = 0) && decide ((u.price.toNat : Int) ≠ 0)) = true := by simp; omega
   refine enter1 func128 rfl ntmps128 rfl fun a S => wp_seq_k fun _ hK1 => wp_region_lit (Zi (Zy S (.t rfl) rfl fun g1 a w S => run S (.ac rfl <| .z) fun a w S => Zb (Za (hK1 _ _ (wp_seq_k fun _ hK1 => wp_block (wp_seq_k fun _ hK2 => wp_region_lit (run S (.fa underlying77 sizeOf9 0 rfl rfl rfl <| .ld gt9 0 rfl rfl rfl <| .xx (Zf call82 (.cons (.t rfl) .nil) (fun hp w W => c82 _ _)) rfl <| .z) fun a w S => ?_)))))))
   rw [rw_k] at S
   refine run S (.nt rfl <| .mv rfl <| .gy rfl rfl (Zc (FieldT.mk underlying77 rfl sizeOf9 rfl) (.t rfl) (i' := 4) rfl) <| .gy rfl rfl (Zt ⟨isAgg9, sizeOf9⟩ (.t rfl) (k := 0) rfl rfl) <| .gx rfl rfl (Zf call82 (.cons (.t rfl) .nil) (fun hp w W => c82 _ _)) <| .z) fun a w S => ?_
   rw [rw_i] at S
   refine run S (.gy rfl rfl (Xi (.t rfl)) <| .yy (Zv (.t rfl) (.t rfl)) rfl <| .as rfl <| .z) fun a w S => Zb (Za (hK2 _ _ (Ze S (.t rfl) (wp_seq_k fun _ hK2 => wp_region_lit (run S (.fa underlying77 sizeOf3 5 rfl rfl rfl <| .ld gt3 0 rfl rfl rfl <| .xx (Zf call83 (.cons (.t rfl) (.cons Ev.c .nil)) (fun hp w W => c83 _ _ _)) rfl <| .z) fun a w S => ?_)))))
   rw [rw_q] at S
   refine run S (.nt rfl <| .as rfl <| .z) fun a w S => Zb (Za (hK2 _ _ (Ze S (.t rfl) (wp_seq_k fun _ hK2 => wp_region_lit (run S (.fa underlying77 sizeOf75 6 rfl rfl rfl <| .ld gt75 0 rfl rfl rfl <| .xx (Zf call84 (.cons (.t rfl) .nil) (fun hp w W => c84 _ _)) rfl <| .z) fun a w S => ?_)))))
   rw [rw_p] at S
   refine run S (.nt rfl <| .mv rfl <| .gy rfl rfl (Zc (FieldT.mk underlying77 rfl sizeOf3 rfl) (.t rfl) (i' := 5) rfl) <| .gy rfl rfl (Zt ⟨isAgg3, sizeOf3⟩ (.t rfl) (k := 0) rfl rfl) <| .gy rfl rfl (Yu (by omega) (Yj (.t rfl) Ev.c)) <| .gy rfl rfl (Zj (.t rfl)) <| .gy rfl rfl (Zc (FieldT.mk underlying77 rfl sizeOf75 rfl) (.t rfl) (i' := 6) rfl) <| .gy rfl rfl (Zt ⟨isAgg75, sizeOf75⟩ (.t rfl) (k := 0) rfl rfl) <| .gy rfl rfl (Yu (by omega) (Yg (.t rfl) Ev.c)) <| .gy rfl rfl (Zz (.t rfl) (.t rfl)) <| .yy (Zv (.t rfl) (.t rfl)) rfl <| .as rfl <| .z) fun a w S => Zb (Za (hK2 _ _ (Zg S (.t rfl) (sg S (.ac rfl <| .z) fun a w S => wp_ret (Zq (Zd (Zn S (results1 S results128 (Rv.tmp rfl)) ?_)))))))
   exact ⟨by rw [if_pos (.inr hz)], S.wd.below⟩
 have rw_z : (decide (u.qty = 0) && decide ((u.price.toNat : Int) ≠ 0)) = false := by
   by_cases h0 : u.qty = 0
   · have : u.price.toNat = 0 := Decidable.byContradiction fun h => hz ⟨h0, h⟩
     simp [this]
   · simp [h0]
 rw [if_neg (by rintro (h | h); cases h; exact hz h)]
 by_cases he : canE u.seen = 0
 rotate_left
 · refine enter1 func128 rfl ntmps128 rfl fun a S => wp_seq_k fun _ hK1 => wp_region_lit (Zi (Zy S (.t rfl) rfl fun g1 a w S => run S (.ac rfl <| .z) fun a w S => Zb (Za (hK1 _ _ (wp_seq_k fun _ hK1 => wp_block (wp_seq_k fun _ hK2 => wp_region_lit (run S (.fa underlying77 sizeOf9 0 rfl rfl rfl <| .ld gt9 0 rfl rfl rfl <| .xx (Zf call82 (.cons (.t rfl) .nil) (fun hp w W => c82 _ _)) rfl <| .z) fun a w S => ?_)))))))
   rw [rw_k] at S
   refine run S (.nt rfl <| .mv rfl <| .gy rfl rfl (Zc (FieldT.mk underlying77 rfl sizeOf9 rfl) (.t rfl) (i' := 4) rfl) <| .gy rfl rfl (Zt ⟨isAgg9, sizeOf9⟩ (.t rfl) (k := 0) rfl rfl) <| .gx rfl rfl (Zf call82 (.cons (.t rfl) .nil) (fun hp w W => c82 _ _)) <| .z) fun a w S => ?_
   rw [rw_i] at S
   refine run S (.gy rfl rfl (Xi (.t rfl)) <| .yy (Zv (.t rfl) (.t rfl)) rfl <| .as rfl <| .z) fun a w S => Zb (Za (hK2 _ _ (Ze S (.t rfl) (wp_seq_k fun _ hK2 => wp_region_lit (run S (.fa underlying77 sizeOf3 5 rfl rfl rfl <| .ld gt3 0 rfl rfl rfl <| .xx (Zf call83 (.cons (.t rfl) (.cons Ev.c .nil)) (fun hp w W => c83 _ _ _)) rfl <| .z) fun a w S => ?_)))))
   rw [rw_q] at S
   refine run S (.nt rfl <| .as rfl <| .z) fun a w S => Zb (Za (hK2 _ _ (Ze S (.t rfl) (wp_seq_k fun _ hK2 => wp_region_lit (run S (.fa underlying77 sizeOf75 6 rfl rfl rfl <| .ld gt75 0 rfl rfl rfl <| .xx (Zf call84 (.cons (.t rfl) .nil) (fun hp w W => c84 _ _)) rfl <| .z) fun a w S => ?_)))))
   rw [rw_p] at S
   refine run S (.nt rfl <| .mv rfl <| .gy rfl rfl (Zc (FieldT.mk underlying77 rfl sizeOf3 rfl) (.t rfl) (i' := 5) rfl) <| .gy rfl rfl (Zt ⟨isAgg3, sizeOf3⟩ (.t rfl) (k := 0) rfl rfl) <| .gy rfl rfl (Yj (.t rfl) Ev.c) <| .gy rfl rfl (Zj (.t rfl)) <| .z) fun a w S => Yi S rfl rfl (Yr.ys (Zc (FieldT.mk underlying77 rfl sizeOf75 rfl) (.t rfl) (i' := 6) rfl)) rfl fun a w S => Yi S rfl rfl (Yr.ys (Zt ⟨isAgg75, sizeOf75⟩ (Ev.g rfl) (k := 0) rfl rfl)) rfl fun a w S => Yi S rfl rfl (Yr.ys (Yg (Ev.g rfl) Ev.c)) rfl fun a w S => run S (.gy rfl rfl (Vc (.t rfl) (Ev.g rfl) Ev.c) <| .z) fun a w S => ?_
   rw [rw_z] at S
   refine run S (.yy (Zv (.t rfl) (.t rfl)) rfl <| .as rfl <| .z) fun a w S => Zb (Za (hK2 _ _ (Ze S (.t rfl) (wp_skip (Zm (Za (hK1 _ _ (wp_seq_k fun _ hK1 => sg S (.fa underlying77 sizeOf37 7 rfl rfl rfl <| .la gt37 0 rfl rfl rfl <| .xx (Zf call32 (.cons (.t rfl) .nil) (fun hp w W => c32 _ _ _ _ _ (by exact .old W (by assumption)) (by exact .old W (by assumption)))) rfl <| .as rfl <| .z) fun a w S => sg S (.mv rfl <| .yy (Yu (by omega) (Yg (.t rfl) Ev.c)) rfl <| .z) fun a w S => Zg S (.t rfl) (sg S (.mv rfl <| .as rfl <| .z) fun a w S => wp_ret (Zd (Zn S (results1 S results128 (Rv.tmp rfl)) ?_)))))))))))
   exact ⟨by rw [if_neg he], S.wd.below⟩
 have rw_e := he
 rw [if_pos he]
 have rw_cov := can_covers (can_ctx he)
 cases hd : mayD u.dot with
 | false =>
   have rw_d : mayD ⟨u.dot.node, u.dot.life, u.dot.count⟩ = false := hd
   refine enter1 func128 rfl ntmps128 rfl fun a S => wp_seq_k fun _ hK1 => wp_region_lit (Zi (Zy S (.t rfl) rfl fun g1 a w S => run S (.ac rfl <| .z) fun a w S => Zb (Za (hK1 _ _ (wp_seq_k fun _ hK1 => wp_block (wp_seq_k fun _ hK2 => wp_region_lit (run S (.fa underlying77 sizeOf9 0 rfl rfl rfl <| .ld gt9 0 rfl rfl rfl <| .xx (Zf call82 (.cons (.t rfl) .nil) (fun hp w W => c82 _ _)) rfl <| .z) fun a w S => ?_)))))))
   rw [rw_k] at S
   refine run S (.nt rfl <| .mv rfl <| .gy rfl rfl (Zc (FieldT.mk underlying77 rfl sizeOf9 rfl) (.t rfl) (i' := 4) rfl) <| .gy rfl rfl (Zt ⟨isAgg9, sizeOf9⟩ (.t rfl) (k := 0) rfl rfl) <| .gx rfl rfl (Zf call82 (.cons (.t rfl) .nil) (fun hp w W => c82 _ _)) <| .z) fun a w S => ?_
   rw [rw_i] at S
   refine run S (.gy rfl rfl (Xi (.t rfl)) <| .yy (Zv (.t rfl) (.t rfl)) rfl <| .as rfl <| .z) fun a w S => Zb (Za (hK2 _ _ (Ze S (.t rfl) (wp_seq_k fun _ hK2 => wp_region_lit (run S (.fa underlying77 sizeOf3 5 rfl rfl rfl <| .ld gt3 0 rfl rfl rfl <| .xx (Zf call83 (.cons (.t rfl) (.cons Ev.c .nil)) (fun hp w W => c83 _ _ _)) rfl <| .z) fun a w S => ?_)))))
   rw [rw_q] at S
   refine run S (.nt rfl <| .as rfl <| .z) fun a w S => Zb (Za (hK2 _ _ (Ze S (.t rfl) (wp_seq_k fun _ hK2 => wp_region_lit (run S (.fa underlying77 sizeOf75 6 rfl rfl rfl <| .ld gt75 0 rfl rfl rfl <| .xx (Zf call84 (.cons (.t rfl) .nil) (fun hp w W => c84 _ _)) rfl <| .z) fun a w S => ?_)))))
   rw [rw_p] at S
   refine run S (.nt rfl <| .mv rfl <| .gy rfl rfl (Zc (FieldT.mk underlying77 rfl sizeOf3 rfl) (.t rfl) (i' := 5) rfl) <| .gy rfl rfl (Zt ⟨isAgg3, sizeOf3⟩ (.t rfl) (k := 0) rfl rfl) <| .gy rfl rfl (Yj (.t rfl) Ev.c) <| .gy rfl rfl (Zj (.t rfl)) <| .z) fun a w S => Yi S rfl rfl (Yr.ys (Zc (FieldT.mk underlying77 rfl sizeOf75 rfl) (.t rfl) (i' := 6) rfl)) rfl fun a w S => Yi S rfl rfl (Yr.ys (Zt ⟨isAgg75, sizeOf75⟩ (Ev.g rfl) (k := 0) rfl rfl)) rfl fun a w S => Yi S rfl rfl (Yr.ys (Yg (Ev.g rfl) Ev.c)) rfl fun a w S => run S (.gy rfl rfl (Vc (.t rfl) (Ev.g rfl) Ev.c) <| .z) fun a w S => ?_
   rw [rw_z] at S
   refine run S (.yy (Zv (.t rfl) (.t rfl)) rfl <| .as rfl <| .z) fun a w S => Zb (Za (hK2 _ _ (Ze S (.t rfl) (wp_skip (Zm (Za (hK1 _ _ (wp_seq_k fun _ hK1 => wp_seq_k fun _ hK2 => wp_region_lit (run S (.fa underlying77 sizeOf37 7 rfl rfl rfl <| .la gt37 0 rfl rfl rfl <| .xx (Zf call32 (.cons (.t rfl) .nil) (fun hp w W => c32 _ _ _ _ _ (by exact .old W (by assumption)) (by exact .old W (by assumption)))) rfl <| .z) fun a w S => ?_)))))))))
   rw [rw_e] at S
   refine run S (.as rfl <| .z) fun a w S => Zb (Za (hK2 _ _ (sg S (.mv rfl <| .yy (Yp (by omega) (Yg (.t rfl) Ev.c)) rfl <| .z) fun a w S => Ze S (.t rfl) (wp_skip (Za (hK1 _ _ (wp_seq_k fun _ hK1 => wp_seq_k fun _ hK2 => wp_region_lit (run S (.fa underlying77 sizeOf74 1 rfl rfl rfl <| .la gt74 0 rfl rfl rfl <| .xx (Zf call147 (.cons (.t rfl) .nil) (fun hp w W => c147 _ _ _ _)) rfl <| .z) fun a w S => ?_))))))))
   rw [rw_d] at S
   refine run S (.nt rfl <| .mv rfl <| .sk rfl rfl rfl <| .sk rfl rfl rfl <| .sk rfl rfl rfl <| .sk rfl rfl rfl <| .sk rfl rfl rfl <| .sk rfl rfl rfl <| .yy (Zz (.t rfl) Ev.c) rfl <| .z) fun a w S => Zb (Za (hK2 _ _ (Zg S (.t rfl) (sg S (.ac rfl <| .z) fun a w S => wp_ret (Zd (Zn S (results1 S results128 (Rv.tmp rfl)) ?_))))))
   exact ⟨by rw [if_pos (.inl rfl)], S.wd.below⟩
 | true =>
   have rw_d : mayD ⟨u.dot.node, u.dot.life, u.dot.count⟩ = true := hd
   cases hc : u.seen.ctx.covers u.dot with
   | true =>
     have rw_c : u.seen.ctx.covers ⟨u.dot.node, u.dot.life, u.dot.count⟩ = true := hc
     refine enter1 func128 rfl ntmps128 rfl fun a S => wp_seq_k fun _ hK1 => wp_region_lit (Zi (Zy S (.t rfl) rfl fun g1 a w S => run S (.ac rfl <| .z) fun a w S => Zb (Za (hK1 _ _ (wp_seq_k fun _ hK1 => wp_block (wp_seq_k fun _ hK2 => wp_region_lit (run S (.fa underlying77 sizeOf9 0 rfl rfl rfl <| .ld gt9 0 rfl rfl rfl <| .xx (Zf call82 (.cons (.t rfl) .nil) (fun hp w W => c82 _ _)) rfl <| .z) fun a w S => ?_)))))))
     rw [rw_k] at S
     refine run S (.nt rfl <| .mv rfl <| .gy rfl rfl (Zc (FieldT.mk underlying77 rfl sizeOf9 rfl) (.t rfl) (i' := 4) rfl) <| .gy rfl rfl (Zt ⟨isAgg9, sizeOf9⟩ (.t rfl) (k := 0) rfl rfl) <| .gx rfl rfl (Zf call82 (.cons (.t rfl) .nil) (fun hp w W => c82 _ _)) <| .z) fun a w S => ?_
     rw [rw_i] at S
     refine run S (.gy rfl rfl (Xi (.t rfl)) <| .yy (Zv (.t rfl) (.t rfl)) rfl <| .as rfl <| .z) fun a w S => Zb (Za (hK2 _ _ (Ze S (.t rfl) (wp_seq_k fun _ hK2 => wp_region_lit (run S (.fa underlying77 sizeOf3 5 rfl rfl rfl <| .ld gt3 0 rfl rfl rfl <| .xx (Zf call83 (.cons (.t rfl) (.cons Ev.c .nil)) (fun hp w W => c83 _ _ _)) rfl <| .z) fun a w S => ?_)))))
     rw [rw_q] at S
     refine run S (.nt rfl <| .as rfl <| .z) fun a w S => Zb (Za (hK2 _ _ (Ze S (.t rfl) (wp_seq_k fun _ hK2 => wp_region_lit (run S (.fa underlying77 sizeOf75 6 rfl rfl rfl <| .ld gt75 0 rfl rfl rfl <| .xx (Zf call84 (.cons (.t rfl) .nil) (fun hp w W => c84 _ _)) rfl <| .z) fun a w S => ?_)))))
     rw [rw_p] at S
     refine run S (.nt rfl <| .mv rfl <| .gy rfl rfl (Zc (FieldT.mk underlying77 rfl sizeOf3 rfl) (.t rfl) (i' := 5) rfl) <| .gy rfl rfl (Zt ⟨isAgg3, sizeOf3⟩ (.t rfl) (k := 0) rfl rfl) <| .gy rfl rfl (Yj (.t rfl) Ev.c) <| .gy rfl rfl (Zj (.t rfl)) <| .z) fun a w S => Yi S rfl rfl (Yr.ys (Zc (FieldT.mk underlying77 rfl sizeOf75 rfl) (.t rfl) (i' := 6) rfl)) rfl fun a w S => Yi S rfl rfl (Yr.ys (Zt ⟨isAgg75, sizeOf75⟩ (Ev.g rfl) (k := 0) rfl rfl)) rfl fun a w S => Yi S rfl rfl (Yr.ys (Yg (Ev.g rfl) Ev.c)) rfl fun a w S => run S (.gy rfl rfl (Vc (.t rfl) (Ev.g rfl) Ev.c) <| .z) fun a w S => ?_
     rw [rw_z] at S
     refine run S (.yy (Zv (.t rfl) (.t rfl)) rfl <| .as rfl <| .z) fun a w S => Zb (Za (hK2 _ _ (Ze S (.t rfl) (wp_skip (Zm (Za (hK1 _ _ (wp_seq_k fun _ hK1 => wp_seq_k fun _ hK2 => wp_region_lit (run S (.fa underlying77 sizeOf37 7 rfl rfl rfl <| .la gt37 0 rfl rfl rfl <| .xx (Zf call32 (.cons (.t rfl) .nil) (fun hp w W => c32 _ _ _ _ _ (by exact .old W (by assumption)) (by exact .old W (by assumption)))) rfl <| .z) fun a w S => ?_)))))))))
     rw [rw_e] at S
     refine run S (.as rfl <| .z) fun a w S => Zb (Za (hK2 _ _ (sg S (.mv rfl <| .yy (Yp (by omega) (Yg (.t rfl) Ev.c)) rfl <| .z) fun a w S => Ze S (.t rfl) (wp_skip (Za (hK1 _ _ (wp_seq_k fun _ hK1 => wp_seq_k fun _ hK2 => wp_region_lit (run S (.fa underlying77 sizeOf74 1 rfl rfl rfl <| .la gt74 0 rfl rfl rfl <| .xx (Zf call147 (.cons (.t rfl) .nil) (fun hp w W => c147 _ _ _ _)) rfl <| .z) fun a w S => ?_))))))))
     rw [rw_d] at S
     refine run S (.nt rfl <| .mv rfl <| .gy rfl rfl (Zc (FieldT.mk underlying77 rfl sizeOf37 rfl) (.t rfl) (i' := 7) rfl) <| .gy rfl rfl (Zc (FieldT.mk underlying37 rfl sizeOf35 rfl) (.t rfl) (i' := 8) rfl) <| .gy rfl rfl (Yc ⟨isAgg35, sizeOf35⟩ (.t rfl) (k := 0) rfl rfl) <| .gy rfl rfl (Zc (FieldT.mk underlying77 rfl sizeOf74 rfl) (.t rfl) (i' := 1) rfl) <| .gy rfl rfl (Yc ⟨isAgg74, sizeOf74⟩ (.t rfl) (k := 0) rfl rfl) <| .gx rfl rfl (Zf call77 (.cons (.t rfl) (.cons (.t rfl) .nil)) (fun hp w W => c77 _ _ _ _ _ _ _ (by exact .old W (by assumption)))) <| .z) fun a w S => ?_
     rw [rw_cov] at S
     rw [rw_c] at S
     refine run S (.yy (Zv (.t rfl) (.t rfl)) rfl <| .z) fun a w S => Zb (Za (hK2 _ _ (Zg S (.t rfl) (sg S (.ac rfl <| .z) fun a w S => wp_ret (Zd (Zn S (results1 S results128 (Rv.tmp rfl)) ?_))))))
     exact ⟨by rw [if_pos (.inr rfl)], S.wd.below⟩
   | false =>
     have rw_c : u.seen.ctx.covers ⟨u.dot.node, u.dot.life, u.dot.count⟩ = false := hc
     refine enter1 func128 rfl ntmps128 rfl fun a S => wp_seq_k fun _ hK1 => wp_region_lit (Zi (Zy S (.t rfl) rfl fun g1 a w S => run S (.ac rfl <| .z) fun a w S => Zb (Za (hK1 _ _ (wp_seq_k fun _ hK1 => wp_block (wp_seq_k fun _ hK2 => wp_region_lit (run S (.fa underlying77 sizeOf9 0 rfl rfl rfl <| .ld gt9 0 rfl rfl rfl <| .xx (Zf call82 (.cons (.t rfl) .nil) (fun hp w W => c82 _ _)) rfl <| .z) fun a w S => ?_)))))))
     rw [rw_k] at S
     refine run S (.nt rfl <| .mv rfl <| .gy rfl rfl (Zc (FieldT.mk underlying77 rfl sizeOf9 rfl) (.t rfl) (i' := 4) rfl) <| .gy rfl rfl (Zt ⟨isAgg9, sizeOf9⟩ (.t rfl) (k := 0) rfl rfl) <| .gx rfl rfl (Zf call82 (.cons (.t rfl) .nil) (fun hp w W => c82 _ _)) <| .z) fun a w S => ?_
     rw [rw_i] at S
     refine run S (.gy rfl rfl (Xi (.t rfl)) <| .yy (Zv (.t rfl) (.t rfl)) rfl <| .as rfl <| .z) fun a w S => Zb (Za (hK2 _ _ (Ze S (.t rfl) (wp_seq_k fun _ hK2 => wp_region_lit (run S (.fa underlying77 sizeOf3 5 rfl rfl rfl <| .ld gt3 0 rfl rfl rfl <| .xx (Zf call83 (.cons (.t rfl) (.cons Ev.c .nil)) (fun hp w W => c83 _ _ _)) rfl <| .z) fun a w S => ?_)))))
     rw [rw_q] at S
     refine run S (.nt rfl <| .as rfl <| .z) fun a w S => Zb (Za (hK2 _ _ (Ze S (.t rfl) (wp_seq_k fun _ hK2 => wp_region_lit (run S (.fa underlying77 sizeOf75 6 rfl rfl rfl <| .ld gt75 0 rfl rfl rfl <| .xx (Zf call84 (.cons (.t rfl) .nil) (fun hp w W => c84 _ _)) rfl <| .z) fun a w S => ?_)))))
     rw [rw_p] at S
     refine run S (.nt rfl <| .mv rfl <| .gy rfl rfl (Zc (FieldT.mk underlying77 rfl sizeOf3 rfl) (.t rfl) (i' := 5) rfl) <| .gy rfl rfl (Zt ⟨isAgg3, sizeOf3⟩ (.t rfl) (k := 0) rfl rfl) <| .gy rfl rfl (Yj (.t rfl) Ev.c) <| .gy rfl rfl (Zj (.t rfl)) <| .z) fun a w S => Yi S rfl rfl (Yr.ys (Zc (FieldT.mk underlying77 rfl sizeOf75 rfl) (.t rfl) (i' := 6) rfl)) rfl fun a w S => Yi S rfl rfl (Yr.ys (Zt ⟨isAgg75, sizeOf75⟩ (Ev.g rfl) (k := 0) rfl rfl)) rfl fun a w S => Yi S rfl rfl (Yr.ys (Yg (Ev.g rfl) Ev.c)) rfl fun a w S => run S (.gy rfl rfl (Vc (.t rfl) (Ev.g rfl) Ev.c) <| .z) fun a w S => ?_
     rw [rw_z] at S
     refine run S (.yy (Zv (.t rfl) (.t rfl)) rfl <| .as rfl <| .z) fun a w S => Zb (Za (hK2 _ _ (Ze S (.t rfl) (wp_skip (Zm (Za (hK1 _ _ (wp_seq_k fun _ hK1 => wp_seq_k fun _ hK2 => wp_region_lit (run S (.fa underlying77 sizeOf37 7 rfl rfl rfl <| .la gt37 0 rfl rfl rfl <| .xx (Zf call32 (.cons (.t rfl) .nil) (fun hp w W => c32 _ _ _ _ _ (by exact .old W (by assumption)) (by exact .old W (by assumption)))) rfl <| .z) fun a w S => ?_)))))))))
     rw [rw_e] at S
     refine run S (.as rfl <| .z) fun a w S => Zb (Za (hK2 _ _ (sg S (.mv rfl <| .yy (Yp (by omega) (Yg (.t rfl) Ev.c)) rfl <| .z) fun a w S => Ze S (.t rfl) (wp_skip (Za (hK1 _ _ (wp_seq_k fun _ hK1 => wp_seq_k fun _ hK2 => wp_region_lit (run S (.fa underlying77 sizeOf74 1 rfl rfl rfl <| .la gt74 0 rfl rfl rfl <| .xx (Zf call147 (.cons (.t rfl) .nil) (fun hp w W => c147 _ _ _ _)) rfl <| .z) fun a w S => ?_))))))))
     rw [rw_d] at S
     refine run S (.nt rfl <| .mv rfl <| .gy rfl rfl (Zc (FieldT.mk underlying77 rfl sizeOf37 rfl) (.t rfl) (i' := 7) rfl) <| .gy rfl rfl (Zc (FieldT.mk underlying37 rfl sizeOf35 rfl) (.t rfl) (i' := 8) rfl) <| .gy rfl rfl (Yc ⟨isAgg35, sizeOf35⟩ (.t rfl) (k := 0) rfl rfl) <| .gy rfl rfl (Zc (FieldT.mk underlying77 rfl sizeOf74 rfl) (.t rfl) (i' := 1) rfl) <| .gy rfl rfl (Yc ⟨isAgg74, sizeOf74⟩ (.t rfl) (k := 0) rfl rfl) <| .gx rfl rfl (Zf call77 (.cons (.t rfl) (.cons (.t rfl) .nil)) (fun hp w W => c77 _ _ _ _ _ _ _ (by exact .old W (by assumption)))) <| .z) fun a w S => ?_
     rw [rw_cov] at S
     rw [rw_c] at S
     refine run S (.yy (Zv (.t rfl) (.t rfl)) rfl <| .z) fun a w S => Zb (Za (hK2 _ _ (Ze S (.t rfl) (wp_skip (Za (hK1 _ _ (sg S (.ac rfl <| .z) fun a w S => wp_ret (Zn S (results1 S results128 (Rv.tmp rfl)) ?_))))))))
     exact ⟨by rw [if_neg (by simp)], S.wd.below⟩
end Go.Proofs.YtakpdbmdfnialaaGreat
namespace Go.Fw
open Go.RowKit
structure Sls3 where
 a1 : Option Addr
 n1 : Nat
 c1 : Nat
 a2 : Option Addr
 n2 : Nat
 c2 : Nat
 a3 : Option Addr
 n3 : Nat
 c3 : Nat
abbrev SCart := Cart × Sls3
abbrev SUpd := Upd × Sls3
abbrev SCart.enc (p : SCart) : List Value := [.slice p.2.a1 p.2.n1 p.2.c1, .slice p.2.a2 p.2.n2 p.2.c2, .slice p.2.a3 p.2.n3 p.2.c3]
theorem SCart.enc_len (p : SCart) : (SCart.enc p).length = 3 := rfl
theorem SCart.enc_one (p : SCart) : ∀ u ∈ SCart.enc p, u.oneCell' = true := fun u hu => by simp [SCart.enc] at hu; rcases hu with rfl | rfl | rfl <;> rfl
abbrev SUpd.enc (p : SUpd) : List Value := Upd.enc p.1 (.slice p.2.a1 p.2.n1 p.2.c1) (.slice p.2.a2 p.2.n2 p.2.c2) (.slice p.2.a3 p.2.n3 p.2.c3)
theorem SUpd.enc_len (p : SUpd) : (SUpd.enc p).length = 10 := rfl
theorem SUpd.enc_one (p : SUpd) : ∀ u ∈ SUpd.enc p, u.oneCell' = true := fun u hu => by simp [SUpd.enc, Upd.enc] at hu; rcases hu with rfl | rfl | rfl | rfl | rfl | rfl | rfl | rfl | rfl | rfl <;> rfl
structure CartIn (w1 : World) (bs : List Nat) (X : Cart) (s : Sls3) : Prop where
 ents : SlIn Ent.enc 6 w1 bs (.slice s.a1 s.n1 s.c1) X.ents
 marks : SlIn Dot.enc 3 w1 bs (.slice s.a2 s.n2 s.c2) X.ctx.marks
 cloud : SlIn Dot.enc 3 w1 bs (.slice s.a3 s.n3 s.c3) X.ctx.cloud
structure CartRd (w : World) (X : Cart) (s : Sls3) : Prop where
 ents : Sl Ent.enc 6 w w.heap.size (.slice s.a1 s.n1 s.c1) X.ents
 marks : Sl Dot.enc 3 w w.heap.size (.slice s.a2 s.n2 s.c2) X.ctx.marks
 cloud : Sl Dot.enc 3 w w.heap.size (.slice s.a3 s.n3 s.c3) X.ctx.cloud
section
variable {w0 w w1 : World} {L : List Chunk} {k : Nat} {bs bs' : List Nat} {X : Cart} {s : Sls3}
theorem CartIn.rd (h : CartIn w1 bs X s) (W : Wd w0 L w) (hk : L[k]? = some (.ice w1 bs)) : CartRd w X s := ⟨h.ents.sl W hk, h.marks.sl W hk, h.cloud.sl W hk⟩
theorem CartIn.anew (h : CartIn w1 bs X s) (W : Wd w0 L w) (hk : L[k]? = some (.ice w1 bs)) (hb : ∀ b ∈ bs, b ∈ bs') : CartIn w bs' X s := ⟨h.ents.anew W hk hb, h.marks.anew W hk hb, h.cloud.anew W hk hb⟩
theorem CartRd.ctx (h : CartRd w X s) : RdCtx w w.heap.size (.slice s.a2 s.n2 s.c2) (.slice s.a3 s.n3 s.c3) X.ctx := ⟨h.marks, h.cloud⟩
end
end Go.Fw
namespace Go.Fw
open Go.RowKit Go.Sort Go.Proofs
abbrev MEnt := {e : Ent // mayD e.dot = true}
instance : Inhabited MEnt := ⟨⟨⟨[], ⟨0, 1, 1⟩, 0, 0⟩, rfl⟩⟩
abbrev MEnt.enc (e : MEnt) : List Value := Ent.enc e.1
theorem not_ltE {a b : Ent} : ¬ ltE a b ↔ ltE b a ∨ (a.item = b.item ∧ a.dot = b.dot) := by
 constructor
 · intro h
   by_cases e : a.item = b.item
   · by_cases ed : a.dot = b.dot
     · exact .inr ⟨e, ed⟩
     · exact .inl ((ltE_total ed).resolve_left h)
   · rcases Vh e with h1 | h1
     · exact absurd (.inl h1) h
     · exact .inl (.inl h1)
 · rintro (h | ⟨h1, h2⟩) h'
   · exact ltE_asymm h h'
   · rcases h' with h' | ⟨_, h'⟩
     · rw [h1, Wn] at h'; cases h'
     · rw [h2] at h'; exact ltC_irr _ h'
theorem swoE : SWO (ltOf fun x y : MEnt => ordE x.1 y.1) where
 irrefl x := by
   simp only [ltOf, decide_eq_false_iff_not, ordE_iff]
   exact ltE_irr _
 trans x y z h1 h2 := by
   simp only [ltOf, decide_eq_true_eq, ordE_iff] at *
   exact ltE_trans h1 h2
 ntrans x y z h1 h2 := by
   simp only [ltOf, decide_eq_false_iff_not, ordE_iff] at *
   rcases not_ltE.1 h1 with a | ⟨a1, a2⟩
   · rcases not_ltE.1 h2 with b | ⟨b1, b2⟩
     · exact fun h => ltE_asymm h (ltE_trans b a)
     · intro h
       refine ltE_irr x.1 (ltE_trans h ?_)
       rcases a with a | ⟨a1, a2⟩
       · exact .inl (b1 ▸ a)
       · exact .inr ⟨b1 ▸ a1, b2 ▸ a2⟩
   · intro h
     refine h2 ?_
     rcases h with h | ⟨e1, e2⟩
     · exact .inl (a1 ▸ h)
     · exact .inr ⟨a1 ▸ e1, a2 ▸ e2⟩
theorem encE_map (ls : List MEnt) : ls.flatMap MEnt.enc = (ls.map (·.1)).flatMap Ent.enc := by
 induction ls with
 | nil => rfl
 | cons x r ih => simp only [List.flatMap_cons, List.map_cons, ih]
theorem sortE {l l' r : List Ent} (hp : l'.Perm l) (hs : l'.Pairwise fun a b => ¬ ordE b a < 0) (hd : (l.map (·.dot)).Nodup) (hr : r.Pairwise ltE) (hm : ∀ x, x ∈ r ↔ x ∈ l) : l' = r := by
 have hd' : (l'.map (·.dot)).Nodup := (hp.map _).nodup_iff.2 hd
 refine sorted_uniq ?_ hr fun x => by rw [hp.mem_iff, hm]
 have h2 : l'.Pairwise fun a b => a.dot ≠ b.dot := by rw [List.Nodup, List.pairwise_map] at hd'; exact hd'
 refine (hs.and h2).imp fun ⟨h1, h3⟩ => ?_
 rw [ordE_iff] at h1
 rcases not_ltE.1 h1 with h | ⟨_, h⟩
 · exact h
 · exact absurd h.symm h3
end Go.Fw
namespace Go.Ft
open Go.RowKit
abbrev bs (l : List UInt8) : ByteArray := ⟨l.toArray⟩
theorem bs_toList (l : List UInt8) : (bs l).toList = l := by rw [ByteArray.toList_eq]
section ops
variable {P : Program} {n : Nat} {w0 : World} {K : KL} {L : List Chunk} {b : Bool} {dst : Option Tmp} {ty : TypeId} {pos : String} {aft : Array Edge} {gd : Option (Nat × Bool)}
theorem Wk {t t' : TypeId} {x y : Operand} {l m : List UInt8} (hx : Ev n b K x (.string (bs l))) (hy : Ev n b K y (.string (bs m))) : Yr P ⟨dst, .binOp .neq t x y t', ty, pos, aft, gd⟩ n K w0 L b (.bool (decide (l ≠ m))) := fun a w hb hkn _ => by
 have h : (!(l == m)) = decide (l ≠ m) := by rw [Bool.eq_iff_iff]; simp
 simp only [execOp, hx a hb hkn, hy a hb hkn]
 simp [eqGuard, binOp, Op.stringOp, bs_toList, h]
end ops
section
variable {P : Program} {n : Nat} {w0 : World} {K : KL} {L : List Chunk} {ty : TypeId} {pos : String} {aft : Array Edge} {gd : Option (Nat × Bool)} {a : Act} {w : World} {Z : Act → World → Prop} {Q : Exit → Act → World → Prop} {d : Nat}
end
theorem Sl.first {P : Program} {w : World} {α : Type} {enc : α → List Value} {size B : Nat} {A : Option Addr} {l : List α} {cap : Nat} (h : Sl enc size w B (.slice A l.length cap) l) (m : Nat) (hm : m ≤ l.length) (hsz : 0 < size) (he : ∀ x, (enc x).length = size) :
   (Builtin.firstCells size m (.slice A l.length cap)).run P w = .ok ((l.take m).flatMap enc).toArray w := by
 have hflen : ∀ l : List α, (l.flatMap enc).length = l.length * size := by
   intro l
   induction l with
   | nil => simp
   | cons x r ih => simp [he, ih, Nat.add_mul, Nat.add_comm]
 obtain ⟨A', cap', hv, h2, h3, h4⟩ := h
 simp only [Value.slice.injEq, true_and] at hv
 obtain ⟨rfl, rfl⟩ := hv
 rcases Nat.eq_zero_or_pos l.length with h0 | hp
 · have : l = [] := List.eq_nil_of_length_eq_zero h0
   subst this
   have : m = 0 := by simpa using hm
   subst this
   cases A <;> simp [Builtin.firstCells, loadCells, loadCellsFrom]
 · obtain ⟨g, o, rfl, hg, hc⟩ := h4 hp
   have hs := Src.sl (P := P) (w := w) (enc := enc) (size := size) (B := B) (c := cap) (l := l.take m) (A := some ⟨g, o, none⟩) (cap := cap) ⟨_, _, rfl, by simp; omega, h3, fun _ => ⟨g, o, rfl, hg, fun k x hx => hc k x (by
     rw [List.getElem?_take] at hx
     split at hx
     · exact hx
     · cases hx)⟩⟩ hsz he
   have hlen : (l.take m).length = m := by simp; omega
   have e2 : (some (⟨g, o, none⟩ : Addr)) = some ⟨g, o, none⟩ := rfl
   refine run_firstCells_some (P := P) w size m ⟨g, o, none⟩ l.length cap _ (by rw [hflen, hlen]) (fun j u hj => ?_)
   rw [Addr.add_mid]
   have hget : ∀ (l : List α) (j : Nat) (u : Value), (l.flatMap enc)[j]? = some u → ∃ x, l[j / size]? = some x ∧ (enc x)[j % size]? = some u := by
     intro l
     induction l with
     | nil => intro j u hj; simp at hj
     | cons x r ih =>
       intro j u hj
       rw [List.flatMap_cons, List.getElem?_append] at hj
       split at hj
       · rename_i hlt
         rw [he] at hlt
         exact ⟨x, by simp [Nat.div_eq_of_lt hlt], by rw [Nat.mod_eq_of_lt hlt]; exact hj⟩
       · rename_i hge
         rw [he] at hge hj
         obtain ⟨y, h2, h3⟩ := ih _ _ hj
         have hge' : size ≤ j := by omega
         refine ⟨y, ?_, ?_⟩
         · rw [show j / size = (j - size) / size + 1 from Nat.div_eq_sub_div hsz hge']
           simpa using h2
         · rw [Nat.mod_eq_sub_mod hge']; exact h3
   obtain ⟨x, h5, h6⟩ := hget _ j u hj
   rw [List.getElem?_take] at h5
   split at h5
   · have := hc _ x h5 _ u h6
     rw [show o + j = o + j / size * size + j % size by rw [Nat.add_assoc, Nat.mul_comm, Nat.div_add_mod]]
     exact this
   · cases h5
section
variable {P : Program} {n : Nat} {w0 : World} {K : KL} {L : List Chunk} {ty : TypeId} {pos : String} {aft : Array Edge} {gd : Option (Nat × Bool)} {a : Act} {w : World} {Z : Act → World → Prop} {Q : Exit → Act → World → Prop} {d : Nat}
end
section
variable {P : Program} {n : Nat} {w0 : World} {K : KL} {L : List Chunk} {ty : TypeId} {pos : String} {aft : Array Edge} {gd : Option (Nat × Bool)} {a : Act} {w : World} {Z : Act → World → Prop} {Q : Exit → Act → World → Prop} {d : Nat}
end
section
variable {P : Program} {Q : Exit → Act → World → Prop} {J : Act → World → Prop} {l i : Nat} {a : Act} {w : World}
theorem Va {c : Code} (n : Nat) (h : Code.rounds P c Q n a w) : (Code.loop c).wp P Q a w := wp_loop_rounds n h
theorem Xc {c : Code} {n : Nat} (h : c.wp P (Exit.then (fun a w => Code.rounds P c Q n a w) Q) a w) : Code.rounds P c Q (n + 1) a w := h
end
section ops
variable {P : Program} {n : Nat} {w0 : World} {K : KL} {L : List Chunk} {b : Bool} {dst : Option Tmp} {ty : TypeId} {pos : String} {aft : Array Edge} {gd : Option (Nat × Bool)}
end ops
end Go.Ft
namespace Go.Ft
open Go.RowKit
theorem Wm {α : Type} {enc : α → List Value} {size : Nat} (he : ∀ x, (enc x).length = size) (l : List α) : (l.flatMap enc).length = l.length * size := by
 induction l with
 | nil => simp
 | cons x r ih => simp [he, ih, Nat.add_mul, Nat.add_comm]
theorem flat_get {α : Type} {enc : α → List Value} {size : Nat} (he : ∀ x, (enc x).length = size) (hs : 0 < size) : ∀ (l : List α) (j : Nat) (x : α), l[j / size]? = some x → (l.flatMap enc)[j]? = (enc x)[j % size]?
 | [], j, x, h => by simp at h
 | y :: r, j, x, h => by
   rw [List.flatMap_cons, List.getElem?_append, he]
   split
   · rename_i hlt
     rw [Nat.div_eq_of_lt hlt] at h
     simp at h
     subst h
     rw [Nat.mod_eq_of_lt hlt]
   · rename_i hge
     have hge' : size ≤ j := by omega
     rw [show j / size = (j - size) / size + 1 from Nat.div_eq_sub_div hs hge'] at h
     rw [Nat.mod_eq_sub_mod hge']
     exact flat_get he hs r (j - size) x (by simpa using h)
section
variable {w0 w w' : World} {L : List Chunk}
end
end Go.Ft
namespace Go.Ft
open Go.RowKit
section ops
variable {P : Program} {n : Nat} {w0 : World} {K : KL} {L : List Chunk} {b : Bool} {dst : Option Tmp} {ty : TypeId} {pos : String} {aft : Array Edge} {gd : Option (Nat × Bool)}
end ops
section
variable {n : Nat} {w0 : World} {K : KL} {L : List Chunk} {a : Act} {w : World} {c : Chunk}
end
theorem Wd.cell {w0 w : World} {L : List Chunk} (W : Wd w0 L w) {k g i : Nat} {cs : List Value} {e : TypeId} {fr : Nat × Nat} {v : Value} (hk : L[k]? = some (.blk g (.cells cs.toArray e fr))) (hc : nth cs i = some v) : w.cell? ⟨g, i, none⟩ = some v := by
 rw [cell_of_row w g i _ e fr (W.get hk).2]
 rw [nth_eq] at hc
 simpa using hc
section split
variable {P : Program} {Q : Exit → Act → World → Prop} {n : Nat} {w0 : World} {K : KL} {L Lr : List Chunk} {a : Act} {w : World} {ops : Array Oper} {fuel : Nat} {listed : Array Bool} {md : Region.Mode}
end split
def zrep (len : Nat) (z : Value) : List Value := (List.replicate len ()).flatMap fun _ => z.cells.toList
theorem zrep_eq {z : Value} {sz : Nat} (len : Nat) (hz : z.cells.size = sz) : (Array.range (len * sz)).map (fun i => (if len * sz = 0 then #[] else z.cells)[i % (if len * sz = 0 then (#[] : Array Value) else z.cells).size]!) = (zrep len z).toArray := by
 have hl : (zrep len z).length = len * sz := by
   unfold zrep
   rw [Wm (size := sz) (fun _ => by simpa using hz)]; simp
 apply Array.ext
 · simp [hl]
 · intro i h1 h2
   have hi : i < len * sz := by simpa using h1
   have hs : 0 < sz := by rcases Nat.eq_zero_or_pos sz with h | h; rw [h] at hi; simp at hi; exact h
   have hx : (List.replicate len ())[i / sz]? = some () := by
     rw [List.getElem?_replicate, if_pos ((Nat.div_lt_iff_lt_mul hs).2 hi)]
   have h3 := flat_get (enc := fun (_ : Unit) => z.cells.toList) (size := sz) (fun _ => by simpa using hz) hs (List.replicate len ()) i () hx
   have h4 : i % sz < z.cells.size := by rw [hz]; exact Nat.mod_lt _ hs
   rw [Array.getElem_map, Array.getElem_range, if_neg (by omega), hz, getElem!_pos z.cells _ h4]
   have h5 : (zrep len z)[i]? = some z.cells[i % sz] := by
     unfold zrep
     rw [h3, Array.getElem?_toList, Array.getElem?_eq_getElem h4]
   rw [List.getElem_toArray]
   exact (Option.some.inj ((List.getElem?_eq_getElem (by rw [hl]; exact hi)).symm.trans h5)).symm
section
variable {P : Program} {n : Nat} {w0 : World} {K : KL} {L : List Chunk} {ty : TypeId} {pos : String} {aft : Array Edge} {gd : Option (Nat × Bool)} {a : Act} {w : World} {Z : Act → World → Prop} {Q : Exit → Act → World → Prop} {d : Nat}
theorem Xv {t e sz len : Nat} {z : Value} {ps : List (Nat × Operand)} {vs us : List Value} (S : St n w0 K L a w) (ht : P.underlying t = some (.slice e)) (hsz : ∀ w, (sizeOf e).run P w = .ok sz w) (hz : ∀ w, (zeroValue e).run P w = .ok z w)
   (hzc : z.cells.size = sz) (hmax : Nat.ble (len * sz) 16777216 = true) (hx : EvL n true K (ps.map (·.2)) vs) (hr : fillL (fun i => some (i * sz, sz)) (zrep len z) ((ps.map (·.1)).zip vs) = some us) (hd : Nat.blt d n = true)
   (next : ∀ g a w, St n w0 ((d, true, .slice (some ⟨g, 0, none⟩) len len) :: K) (.blk g (.cells us.toArray e) :: L) a w → Z a w) :
   Oper.wp P ⟨some d, .buildSlice t len ps.toArray, ty, pos, aft, gd⟩ a w Z Q := op_bslice (zrep len z) S ht hsz hz (zrep_eq len hzc) hmax hx hr hd next
end
end Go.Ft
namespace Go.Ft
open Go.Proofs Go.RowKit
section
variable {P : Program} {n : Nat} {w0 : World} {K : KL} {L : List Chunk} {ty : TypeId} {pos : String} {aft : Array Edge} {gd : Option (Nat × Bool)} {a : Act} {w : World} {Z : Act → World → Prop} {Q : Exit → Act → World → Prop} {d : Nat} {dst : Option Tmp} {b : Bool}
variable {K' : Act → World → Prop} {i : Nat} {ps : List PanicEntry}
end
section
variable {P : Program} {f : FuncId} {fn : Func} {c : Code} {R : Ending → World → Prop} {w0 w : World} {L : List Chunk} {v0 v1 v2 v3 v4 v5 v6 v7 v8 : Value}
end
theorem Sl.sub {w : World} {α : Type} {enc : α → List Value} {size B : Nat} {A : Option Addr} {l : List α} {cap : Nat} (h : Sl enc size w B (.slice A l.length cap) l) (lo hi : Nat) (hlo : lo ≤ hi) (hhi : hi ≤ l.length) :
   Sl enc size w B (.slice (if cap = lo then A else A.map (·.add (lo * size))) (hi - lo) (cap - lo)) ((l.drop lo).take (hi - lo)) := by
 obtain ⟨A', cap', hv, h2, h3, h4⟩ := h
 simp only [Value.slice.injEq, true_and] at hv
 obtain ⟨rfl, rfl⟩ := hv
 have hl : ((l.drop lo).take (hi - lo)).length = hi - lo := by simp; omega
 refine ⟨if cap = lo then A else A.map (·.add (lo * size)), cap - lo, by rw [hl], by rw [hl]; omega, by omega, fun hp => ?_⟩
 rw [hl] at hp
 obtain ⟨g, o, rfl, hg, hc⟩ := h4 (by omega)
 rw [if_neg (by omega)]
 refine ⟨g, o + lo * size, by simp [Addr.add_mid], hg, fun k x hx j u hu => ?_⟩
 rw [List.getElem?_take] at hx
 split at hx
 · rw [List.getElem?_drop] at hx
   have := hc _ x hx j u hu
   rw [Nat.add_mul] at this
   rw [show o + lo * size + k * size + j = o + (lo * size + k * size) + j by omega]
   exact this
 · cases hx
theorem Src.subS {P : Program} {w : World} {α : Type} {enc : α → List Value} {size B : Nat} {A : Option Addr} {l : List α} {cap lo hi c : Nat} (h : Sl enc size w B (.slice A l.length cap) l) (hsz : 0 < size) (he : ∀ x, (enc x).length = size) (h1 : ∀ x, ∀ u ∈ enc x, u.oneCell' = true) (hlo : lo ≤ hi) (hhi : hi ≤ l.length) :
   Src P w size (.slice (if cap = lo then A else A.map (·.add (lo * size))) (hi - lo) c) ((l.drop lo).take (hi - lo)).length (((l.drop lo).take (hi - lo)).flatMap enc) := by
 have hl : ((l.drop lo).take (hi - lo)).length = hi - lo := by simp; omega
 have h' : Sl enc size w B (.slice (if cap = lo then A else A.map (·.add (lo * size))) ((l.drop lo).take (hi - lo)).length (cap - lo)) ((l.drop lo).take (hi - lo)) := by rw [hl]; exact h.sub lo hi hlo hhi
 have := Src.sl (P := P) (c := c) h' hsz he h1
 rw [hl] at this
 rw [hl]
 exact this
theorem Src.sub {P : Program} {α : Type} {enc : α → List Value} {size e cap k lo hi c : Nat} {w w0 : World} {L : List Chunk} {A : Option Addr} {l : List α} (W : Wd w0 L w) (hk : L[k]? = some (rowOf e size enc A cap l)) (hsz : 0 < size) (he : ∀ x, (enc x).length = size) (h1 : ∀ x, ∀ u ∈ enc x, u.oneCell' = true) (hlo : lo ≤ hi) (hhi : hi ≤ l.length) :
   Src P w size (.slice (if cap = lo then A else A.map (·.add (lo * size))) (hi - lo) c) ((l.drop lo).take (hi - lo)).length (((l.drop lo).take (hi - lo)).flatMap enc) :=
 Src.subS (Sl.of_own W hk he) hsz he h1 hlo hhi
end Go.Ft
namespace Go.Ft
open Go.RowKit
theorem Wn : ∀ a : List UInt8, Op.bytesLess a a = false
 | [] => rfl
 | x :: r => by unfold Op.bytesLess; rw [Wn r]; simp
theorem less_nil (a : List UInt8) : Op.bytesLess a [] = false := by cases a <;> rfl
theorem less_cons (x y : UInt8) (a b : List UInt8) : Op.bytesLess (x :: a) (y :: b) = true ↔ x < y ∨ (x = y ∧ Op.bytesLess a b = true) := by
 rw [Op.bytesLess]
 simp
theorem less_trans : ∀ {a b c : List UInt8}, Op.bytesLess a b = true → Op.bytesLess b c = true → Op.bytesLess a c = true
 | _, [], _, h, _ => by rw [less_nil] at h; cases h
 | _, _ :: _, [], _, h => by rw [less_nil] at h; cases h
 | [], _ :: _, _ :: _, _, _ => rfl
 | x :: a, y :: b, z :: c, h, h' => by
   rw [less_cons] at h h' ⊢
   rcases h with h | ⟨rfl, h⟩
   · rcases h' with h' | ⟨rfl, h'⟩
     · exact .inl (UInt8.lt_trans h h')
     · exact .inl h
   · rcases h' with h' | ⟨rfl, h'⟩
     · exact .inl h'
     · exact .inr ⟨rfl, less_trans h h'⟩
theorem Vh : ∀ {a b : List UInt8}, a ≠ b → Op.bytesLess a b = true ∨ Op.bytesLess b a = true
 | [], [], h => absurd rfl h
 | [], _ :: _, _ => .inl rfl
 | _ :: _, [], _ => .inr rfl
 | x :: a, y :: b, h => by
   rw [less_cons, less_cons]
   by_cases e : x = y
   · subst e
     have h2 : a ≠ b := fun e => h (by rw [e])
     rcases Vh h2 with h | h
     · exact .inl (.inr ⟨rfl, h⟩)
     · exact .inr (.inr ⟨rfl, h⟩)
   · rcases UInt8.lt_or_lt_of_ne e with h | h
     · exact .inl (.inl h)
     · exact .inr (.inl h)
theorem less_asymm {a b : List UInt8} (h : Op.bytesLess a b = true) : Op.bytesLess b a = false := by
 rw [Bool.eq_false_iff]
 intro h'
 have := less_trans h h'
 rw [Wn] at this
 cases this
theorem less_ne {a b : List UInt8} (h : Op.bytesLess a b = true) : a ≠ b := fun e => by rw [e, Wn] at h; cases h
def cmpB (a b : List UInt8) : Int := if Op.bytesLess a b then -1 else if a = b then 0 else 1
theorem less_gt (l m : List UInt8) : (!(Op.bytesLess l m || l == m)) = Op.bytesLess m l := by
 by_cases e : l = m
 · subst e; simp [Wn]
 · rw [beq_false_of_ne e, Bool.or_false]
   rcases Vh e with h | h
   · rw [h, less_asymm h]; rfl
   · rw [h, less_asymm h]; rfl
end Go.Ft
namespace Go.Ft
open Go.Proofs Go.RowKit Go.ChangeMaps
section
variable {P : Program} {n : Nat} {w0 : World} {K : KL} {L : List Chunk} {b : Bool} {dst : Option Tmp} {ty : TypeId} {pos : String} {aft : Array Edge} {gd : Option (Nat × Bool)} {a : Act} {w : World} {Z : Act → World → Prop} {Q : Exit → Act → World → Prop} {d : Nat}
section
variable {t t' : TypeId} {x y : Operand} {l m : List UInt8} (hx : Ev n b K x (.string (bs l))) (hy : Ev n b K y (.string (bs m)))
include hx hy
theorem ys_lssStr : Yr P ⟨dst, .binOp .lss t x y t', ty, pos, aft, gd⟩ n K w0 L b (.bool (Op.bytesLess l m)) := fun a w hb hkn _ => by
 simp only [execOp, hx a hb hkn, hy a hb hkn]
 simp [eqGuard, binOp, Op.stringOp, bs_toList]
theorem ys_gtrStr : Yr P ⟨dst, .binOp .gtr t x y t', ty, pos, aft, gd⟩ n K w0 L b (.bool (Op.bytesLess m l)) := fun a w hb hkn _ => by
 simp only [execOp, hx a hb hkn, hy a hb hkn]
 simp only [eqGuard, binOp, Op.stringOp, bs_toList, less_gt]
 simp
end
end
end Go.Ft
namespace Go.Ft
open Go.RowKit
def ltM (a b : Dot) : Prop := a.node < b.node ∨ (a.node = b.node ∧ a.life < b.life)
def ltC (a b : Dot) : Prop := a.node < b.node ∨ (a.node = b.node ∧ (a.life < b.life ∨ (a.life = b.life ∧ a.count < b.count)))
theorem Xt (a b : Dot) : belowD a b = true ↔ ltC a b := by
 simp only [belowD, ltC]
 split
 · simp; omega
 · split <;> simp <;> omega
structure Nf (C : Ctx) : Prop where
 marks : C.marks.Pairwise ltM
 cloud : C.cloud.Pairwise ltC
 mayM : ∀ x ∈ C.marks, mayD x = true
 mayC : ∀ x ∈ C.cloud, mayD x = true
 gap : ∀ x ∈ C.cloud, markOf C.marks x.node x.life + 1 < x.count
end Go.Ft
namespace Go.Ft
open Go.RowKit
def charB (c : UInt8) : Bool := (decide (97 ≤ c.toNat) && decide (c.toNat ≤ 122)) || (decide (65 ≤ c.toNat) && decide (c.toNat ≤ 90)) || (decide (48 ≤ c.toNat) && decide (c.toNat ≤ 57)) || decide (c.toNat = 45) || decide (c.toNat = 95) || decide (c.toNat = 46)
def nameB (s : List UInt8) : Bool := decide (s ≠ []) && decide (s.length ≤ 32) && s.all charB
def priceB (p : UInt64) : Bool := decide (p.toNat ≤ 9218868437227405312) || decide (p.toNat = 9223372036854775808)
structure Ent where
 item : List UInt8
 dot : Dot
 qty : Int
 price : UInt64
deriving DecidableEq
abbrev Ent.enc (e : Ent) : List Value := [.string (bs e.item), .int .i64 e.dot.node, .int .i64 e.dot.life, .int .i64 e.dot.count, .int .i64 e.qty, .int .u64 (e.price.toNat : Int)]
structure Cart where
 ents : List Ent
 ctx : Ctx
deriving DecidableEq
abbrev Cart.zero : Cart := ⟨[], ⟨[], []⟩⟩
structure Line where
 item : List UInt8
 qty : Int
 price : UInt64
deriving DecidableEq
abbrev Line.enc (e : Line) : List Value := [.string (bs e.item), .int .i64 e.qty, .int .u64 (e.price.toNat : Int)]
def ltE (a b : Ent) : Prop := Op.bytesLess a.item b.item = true ∨ (a.item = b.item ∧ ltC a.dot b.dot)
instance (a b : Ent) : Decidable (ltE a b) := decidable_of_iff (Op.bytesLess a.item b.item = true ∨ (a.item = b.item ∧ belowD a.dot b.dot = true)) (by rw [Xt]; rfl)
def itemsFrom : Option (List UInt8) → List Ent → Nat
 | _, [] => 0
 | p, e :: r => (if p = some e.item then 0 else 1) + itemsFrom (some e.item) r
def itemsN (l : List Ent) : Nat := itemsFrom none l
structure EntOk (C : Ctx) (e : Ent) : Prop where
 name : nameB e.item = true
 qty : 1 ≤ e.qty ∧ e.qty ≤ 1000000
 price : priceB e.price = true
 cov : C.covers e.dot = true
structure CartOk (c : Cart) : Prop where
 ctx : canL c.ctx = true
 len : c.ents.length ≤ 64
 each : ∀ e ∈ c.ents, EntOk c.ctx e
 order : c.ents.Pairwise ltE
 dots : (c.ents.map (·.dot)).Nodup
 items : itemsN c.ents ≤ 32
structure Upd where
 key : List UInt8
 dot : Dot
 item : List UInt8
 qty : Int
 price : UInt64
 seen : Cart
deriving DecidableEq
def clashE (a b : Cart) : Prop := ∃ x ∈ a.ents, ∃ y ∈ b.ents, x.dot = y.dot ∧ x ≠ y
instance (a b : Cart) : Decidable (clashE a b) := by unfold clashE; infer_instance
end Go.Ft
namespace Go.Proofs
open Go.Shelf
def Tryz.sortEnts_ren : Go.Shelf.Ren := ⟨fun | 6 => 110 | 15 => 161 | 14 => 160 | 28 => 198 | 29 => 199 | 20 => 190 | 21 => 191 | 22 => 192 | 23 => 193 | 24 => 194 | 25 => 195 | 26 => 196 | 27 => 197 | 46 => 215 | 47 => 216 | 48 => 217 | 49 => 218 | 50 => 219 | 57 => 236 | n => n, fun | 22 => 31 | 24 => 100 | 25 => 149 | 3 => 3 | 39 => 61 | 0 => 0 | 53 => 225 | 55 => 75 | 4 => 4 | 46 => 219 | 45 => 218 | 50 => 106 | 5 => 5 | 9 => 9 | 66 => 237 | 70 => 241 | 76 => 251 | 77 => 252 | n => n, fun | n => n⟩
theorem Tryz.sortEnts : Go.Proofs.SlLaysF0.n6 Tryz.prog Tryz.sortEnts_ren := {
 mixed := by kernel_rfl
 f6 := ⟨Tryz.f110.name, by decide, Tryz.func110.trans (congrArg some (by kernel_rfl))⟩
 f14 := ⟨Tryz.f160.name, by decide, Tryz.func160.trans (congrArg some (by kernel_rfl))⟩
 f15 := Tryz.func161.trans (congrArg some (by kernel_rfl))
 f20 := ⟨Tryz.f190.name, by decide, Tryz.func190.trans (congrArg some (by kernel_rfl))⟩
 f21 := ⟨Tryz.f191.name, by decide, Tryz.func191.trans (congrArg some (by kernel_rfl))⟩
 f22 := ⟨Tryz.f192.name, by decide, Tryz.func192.trans (congrArg some (by kernel_rfl))⟩
 f23 := ⟨Tryz.f193.name, by decide, Tryz.func193.trans (congrArg some (by kernel_rfl))⟩
 f24 := ⟨Tryz.f194.name, by decide, Tryz.func194.trans (congrArg some (by kernel_rfl))⟩
 f25 := ⟨Tryz.f195.name, by decide, Tryz.func195.trans (congrArg some (by kernel_rfl))⟩
 f26 := ⟨Tryz.f196.name, by decide, Tryz.func196.trans (congrArg some (by kernel_rfl))⟩
 f27 := ⟨Tryz.f197.name, by decide, Tryz.func197.trans (congrArg some (by kernel_rfl))⟩
 f28 := Tryz.func198.trans (congrArg some (by kernel_rfl))
 f29 := Tryz.func199.trans (congrArg some (by kernel_rfl))
 f46 := ⟨Tryz.f215.name, by decide, Tryz.func215.trans (congrArg some (by kernel_rfl))⟩
 f47 := Tryz.func216.trans (congrArg some (by kernel_rfl))
 f48 := Tryz.func217.trans (congrArg some (by kernel_rfl))
 f49 := ⟨Tryz.f218.name, by decide, Tryz.func218.trans (congrArg some (by kernel_rfl))⟩
 f50 := ⟨Tryz.f219.name, by decide, Tryz.func219.trans (congrArg some (by kernel_rfl))⟩
 f57 := ⟨Tryz.f236.name, by decide, Tryz.func236.trans (congrArg some (by kernel_rfl))⟩
 t0 := Tryz.underlying0
 a0 := Tryz.isAgg0
 z0 := Tryz.sizeOf0
 v0 := Tryz.zeroValue0
 t3 := Tryz.underlying3
 a3 := Tryz.isAgg3
 z3 := Tryz.sizeOf3
 v3 := Tryz.zeroValue3
 t4 := Tryz.underlying4
 a4 := Tryz.isAgg4
 z4 := Tryz.sizeOf4
 v4 := Tryz.zeroValue4
 t5 := Tryz.underlying5
 a5 := Tryz.isAgg5
 z5 := Tryz.sizeOf5
 v5 := Tryz.zeroValue5
 t9 := Tryz.underlying9
 a9 := Tryz.isAgg9
 z9 := Tryz.sizeOf9
 v9 := Tryz.zeroValue9
 t22 := Tryz.underlying31
 a22 := Tryz.isAgg31
 z22 := Tryz.sizeOf31
 v22 := Tryz.zeroValue31
 t25 := Tryz.underlying149
 a25 := Tryz.isAgg149
 z25 := Tryz.sizeOf149
 v25 := Tryz.zeroValue149
 t39 := Tryz.underlying61
 a39 := Tryz.isAgg61
 z39 := Tryz.sizeOf61
 v39 := Tryz.zeroValue61
 t45 := Tryz.underlying218
 a45 := Tryz.isAgg218
 z45 := Tryz.sizeOf218
 v45 := Tryz.zeroValue218
 t46 := Tryz.underlying219
 a46 := Tryz.isAgg219
 z46 := Tryz.sizeOf219
 v46 := Tryz.zeroValue219
 t50 := Tryz.underlying106
 a50 := Tryz.isAgg106
 z50 := Tryz.sizeOf106
 v50 := Tryz.zeroValue106
 t53 := Tryz.underlying225
 a53 := Tryz.isAgg225
 z53 := Tryz.sizeOf225
 v53 := Tryz.zeroValue225
 t55 := Tryz.underlying75
 a55 := Tryz.isAgg75
 z55 := Tryz.sizeOf75
 v55 := Tryz.zeroValue75
 t66 := Tryz.underlying237
 a66 := Tryz.isAgg237
 z66 := Tryz.sizeOf237
 v66 := Tryz.zeroValue237
 t70 := Tryz.underlying241
 a70 := Tryz.isAgg241
 z70 := Tryz.sizeOf241
 v70 := Tryz.zeroValue241
 t76 := Tryz.underlying251
 a76 := Tryz.isAgg251
 z76 := Tryz.sizeOf251
 v76 := Tryz.zeroValue251
 t77 := Tryz.underlying252
 a77 := Tryz.isAgg252
 z77 := Tryz.sizeOf252
 v77 := Tryz.zeroValue252 }
end Go.Proofs
namespace Go.Fw
theorem insE_none {e : Ent} : ∀ {l : List Ent}, (∀ y ∈ l, ¬ ltE e y) → insE e l = l ++ [e]
 | [], _ => rfl
 | x :: r, h => by
   rw [insE, if_neg (h x (by simp)), insE_none fun y hy => h y (by simp [hy])]
   rfl
theorem insE_put {e x : Ent} : ∀ {l : List Ent}, (∃ y ∈ l, ltE e y) → insE e (l ++ [x]) = insE e l ++ [x]
 | [], h => by obtain ⟨y, hy, _⟩ := h; simp at hy
 | z :: r, h => by
   rw [List.cons_append, insE, insE]
   by_cases hz : ltE e z
   · rw [if_pos hz, if_pos hz]; rfl
   · rw [if_neg hz, if_neg hz, insE_put (l := r)]
     · rfl
     · obtain ⟨y, hy, hy2⟩ := h
       rcases List.mem_cons.1 hy with rfl | hy
       · exact absurd hy2 hz
       · exact ⟨y, hy, hy2⟩
theorem insE_new {e x : Ent} : ∀ {l : List Ent}, (∀ y ∈ l, ¬ ltE e y) → ltE e x → insE e (l ++ [x]) = l ++ [e, x]
 | [], _, h => by simp [insE, h]
 | z :: r, h, hx => by
   rw [List.cons_append, insE, if_neg (h z (by simp)), insE_new (fun y hy => h y (by simp [hy])) hx]
   rfl
end Go.Fw
namespace Go.Proofs.YtakpdbmdfnialaaGreat
open Go.Fw Go.Proofs Go.RowKit Go.Sort Go.Proofs.Tryz
theorem c79 (w0 : World) (v1 : Value) (A2 A3 : Option Addr) (n2 c2 n3 c3 : Nat) (l : List Ent) (h : Sl Ent.enc 6 w0 w0.heap.size v1 l) (hn : l.length ≤ 4194304) :
   Calls Tryz.prog 79 #[.agg #[v1, .slice A2 n2 c2, .slice A3 n3 c3]] w0 fun e w' => e = .returned (if 64 < l.length ∨ 32 < itemsN l then .tuple #[.agg #[.slice none 0 0, .slice none 0 0, .slice none 0 0], .int .i64 51] else .tuple #[.agg #[v1, .slice A2 n2 c2, .slice A3 n3 c3], .int .i64 0]) ∧ Bel w0.heap.size w0 w' := by
 have hs := h
 obtain ⟨A, cap, rfl, hl, hcap, hA⟩ := h
 by_cases h1 : 64 < l.length
 · refine enter1 func79 rfl ntmps79 rfl fun a S => wp_seq_k fun _ hK1 => wp_region_lit (Zi (Zy S (.t rfl) rfl fun g1 a w S => Zi (Zk S zeroValue37 (cs := _) rfl rfl fun g2 a w S => run S (.ac rfl <| .z) fun a w S => Zb (Za (hK1 _ _ (wp_seq_k fun _ hK1 => sg S (.fa underlying37 sizeOf31 0 rfl rfl rfl <| .ld gt31 1 rfl rfl rfl <| .ln underlying31 rfl <| .yy (Yu (by omega) (Yf (.t rfl) Ev.c)) rfl <| .mv rfl <| .sk rfl rfl rfl <| .sk rfl rfl rfl <| .sk rfl rfl rfl <| .sk rfl rfl rfl <| .yy (Zz (.t rfl) Ev.c) rfl <| .z) fun a w S => Zg S (.t rfl) (wp_seq_k fun _ hK2 => wp_region_lit (run S (.yy (Yn (ps := []) (us := [_, _, _]) bld37 .nil rfl) rfl <| .z) fun a w S => Zi (Zp S sizeOf37 (.t rfl) (.t rfl) (k := 0) rfl rfl rfl (by simp [Value.oneCell']) fun a w S => run S (.ac rfl <| .z) fun a w S => Zb (Za (hK2 _ _ (wp_ret (Zd (Zn S (results2 S results79 (Rv.cell (k := 0) ⟨isAgg37, sizeOf37⟩ rfl rfl rfl) (Rv.tmp rfl)) ?_))))))))))))))
   exact ⟨by rw [if_pos (.inl h1)], S.wd.below⟩
 by_cases h2 : 32 < itemsN l
 · refine enter1 func79 rfl ntmps79 rfl fun a S => wp_seq_k fun _ hK1 => wp_region_lit (Zi (Zy S (.t rfl) rfl fun g1 a w S => Zi (Zk S zeroValue37 (cs := _) rfl rfl fun g2 a w S => run S (.ac rfl <| .z) fun a w S => Zb (Za (hK1 _ _ (wp_seq_k fun _ hK1 => sg S (.fa underlying37 sizeOf31 0 rfl rfl rfl <| .ld gt31 1 rfl rfl rfl <| .ln underlying31 rfl <| .yy (Yp (by omega) (Yf (.t rfl) Ev.c)) rfl <| .mv rfl <| .gy rfl rfl (Zc (FieldT.mk underlying37 rfl sizeOf31 rfl) (.t rfl) (i' := 0) rfl) <| .gy rfl rfl (Zt ⟨isAgg31, sizeOf31⟩ (.t rfl) (k := 1) rfl rfl) <| .gx rfl rfl (Zf call86 (.cons (.t rfl) .nil) (fun hp w W => c86 _ _ _ (by exact .old W (by assumption)) (by assumption))) <| .gy rfl rfl (Yu (by omega) (Yf (.t rfl) Ev.c)) <| .yy (Zv (.t rfl) (.t rfl)) rfl <| .z) fun a w S => Zg S (.t rfl) (wp_seq_k fun _ hK2 => wp_region_lit (run S (.yy (Yn (ps := []) (us := [_, _, _]) bld37 .nil rfl) rfl <| .z) fun a w S => Zi (Zp S sizeOf37 (.t rfl) (.t rfl) (k := 0) rfl rfl rfl (by simp [Value.oneCell']) fun a w S => run S (.ac rfl <| .z) fun a w S => Zb (Za (hK2 _ _ (wp_ret (Zd (Zn S (results2 S results79 (Rv.cell (k := 0) ⟨isAgg37, sizeOf37⟩ rfl rfl rfl) (Rv.tmp rfl)) ?_))))))))))))))
   exact ⟨by rw [if_pos (.inr h2)], S.wd.below⟩
 · refine enter1 func79 rfl ntmps79 rfl fun a S => wp_seq_k fun _ hK1 => wp_region_lit (Zi (Zy S (.t rfl) rfl fun g1 a w S => Zi (Zk S zeroValue37 (cs := _) rfl rfl fun g2 a w S => run S (.ac rfl <| .z) fun a w S => Zb (Za (hK1 _ _ (wp_seq_k fun _ hK1 => sg S (.fa underlying37 sizeOf31 0 rfl rfl rfl <| .ld gt31 1 rfl rfl rfl <| .ln underlying31 rfl <| .yy (Yp (by omega) (Yf (.t rfl) Ev.c)) rfl <| .mv rfl <| .gy rfl rfl (Zc (FieldT.mk underlying37 rfl sizeOf31 rfl) (.t rfl) (i' := 0) rfl) <| .gy rfl rfl (Zt ⟨isAgg31, sizeOf31⟩ (.t rfl) (k := 1) rfl rfl) <| .gx rfl rfl (Zf call86 (.cons (.t rfl) .nil) (fun hp w W => c86 _ _ _ (by exact .old W (by assumption)) (by assumption))) <| .gy rfl rfl (Yp (by omega) (Yf (.t rfl) Ev.c)) <| .yy (Zv (.t rfl) (.t rfl)) rfl <| .z) fun a w S => Ze S (.t rfl) (wp_skip (Za (hK1 _ _ (wp_seq_k fun _ hK1 => wp_region_lit (run S (.la gt37 1 rfl rfl rfl <| .z) fun a w S => Zi (Zp S sizeOf37 (.t rfl) (.t rfl) (k := 0) rfl rfl rfl (by simp [Value.oneCell']) fun a w S => run S (.ac rfl <| .z) fun a w S => Zb (Za (hK1 _ _ (wp_ret (Zn S (results2 S results79 (Rv.cell (k := 0) ⟨isAgg37, sizeOf37⟩ rfl rfl rfl) (Rv.tmp rfl)) ?_))))))))))))))))
   exact ⟨by rw [if_neg (by omega)], S.wd.below⟩
theorem c76 (w0 : World) (v1 : Value) (A2 A3 : Option Addr) (n2 c2 n3 c3 : Nat) (l : List Ent) (x : Ent) (h : Sl Ent.enc 6 w0 w0.heap.size v1 l) :
   Calls Tryz.prog 76 #[.agg #[v1, .slice A2 n2 c2, .slice A3 n3 c3], .agg (Ent.enc x).toArray] w0 fun e w' => e = .returned (.bool (decide (x ∈ l))) ∧ Bel w0.heap.size w0 w' := by
 obtain ⟨A, cap, rfl, hl, hcap, hA⟩ := h
 refine enter2 func76 rfl ntmps76 rfl fun a S => wp_seq_k fun _ hK1 => wp_region_lit (Zi (Zy S (.t rfl) rfl fun g1 a w S => Zi (Zy S (.t rfl) rfl fun g2 a w S => run S (.ac rfl <| .z) fun a w S => Zb (Za (hK1 _ _ (wp_seq_k fun _ hK1 => sg S (.fa underlying37 sizeOf31 0 rfl rfl rfl <| .ld gt31 1 rfl rfl rfl <| .ln underlying31 rfl <| .mc rfl <| .z) fun a w S => wp_block ?_))))))
 refine Xn S [6, 10] (X := Nat) (fun k => [(10, true, .int .i64 (k : Int))]) (fun _ => [.blk g2 (.cells (Ent.enc x).toArray 100), .blk g1 (.cells #[.slice A l.length cap, .slice A2 n2 c2, .slice A3 n3 c3] 37)]) (fun k => k ≤ l.length ∧ x ∉ l.take k) (fun k => l.length - k) 0 ⟨Nat.zero_le _, by simp⟩ ?_
 clear S
 intro k a w ⟨hk, hno⟩ S
 by_cases hlt : k < l.length
 · obtain ⟨g, o, m, rfl, hm, hd, hc⟩ := Yh hA hlt
   by_cases he : m = x
   · have rw_e := decide_eq_true (ent_iff.1 he)
     refine sg S (.lt (by omega) rfl rfl <| .z) fun a w S => wp_seq_k fun _ hK2 => Zg S (.t rfl) (wp_skip (Za (hK2 _ _ (wp_seq_k fun _ hK2 => wp_block (wp_seq_k fun _ hK3 => wp_region_lit (run S (.ix underlying31 sizeOf100 (by omega) rfl rfl <| .yy (Zu ⟨isAgg100, sizeOf100⟩ (.t rfl) (vs := [_, _, _, _, _, _]) rfl (fun _ => hc)) rfl <| .z) fun a w S => Zi (Zk S zeroValue100 (cs := _) rfl rfl fun g3 a w S => Zi (Zp S sizeOf100 (.t rfl) (.t rfl) (k := 0) rfl rfl rfl (by simp [Value.oneCell']) fun a w S => Zb (Za (hK3 _ _ (wp_seq_k fun _ hK3 => wp_region_lit (run S (.la gt100 0 rfl rfl rfl <| .la gt100 1 rfl rfl rfl <| .yy (Wh (.t rfl) (.t rfl) eq100) rfl <| .z) fun a w S => ?_))))))))))))
     rw [rw_e] at S
     refine Zb (Za (hK3 _ _ (Zg S (.t rfl) (sg S (.ac rfl <| .z) fun a w S => wp_ret (Zq (Zd (Zd (Zq (Zd (Zn S (results1 S results76 (Rv.tmp rfl)) ?_))))))))))
     exact ⟨by rw [decide_eq_true (he ▸ List.mem_of_getElem? hm)], S.wd.below⟩
   · have rw_e := decide_eq_false (fun h => he (ent_iff.2 h))
     refine sg S (.lt (by omega) rfl rfl <| .z) fun a w S => wp_seq_k fun _ hK2 => Zg S (.t rfl) (wp_skip (Za (hK2 _ _ (wp_seq_k fun _ hK2 => wp_block (wp_seq_k fun _ hK3 => wp_region_lit (run S (.ix underlying31 sizeOf100 (by omega) rfl rfl <| .yy (Zu ⟨isAgg100, sizeOf100⟩ (.t rfl) (vs := [_, _, _, _, _, _]) rfl (fun _ => hc)) rfl <| .z) fun a w S => Zi (Zk S zeroValue100 (cs := _) rfl rfl fun g3 a w S => Zi (Zp S sizeOf100 (.t rfl) (.t rfl) (k := 0) rfl rfl rfl (by simp [Value.oneCell']) fun a w S => Zb (Za (hK3 _ _ (wp_seq_k fun _ hK3 => wp_region_lit (run S (.la gt100 0 rfl rfl rfl <| .la gt100 1 rfl rfl rfl <| .yy (Wh (.t rfl) (.t rfl) eq100) rfl <| .z) fun a w S => ?_))))))))))))
     rw [rw_e] at S
     refine Zb (Za (hK3 _ _ (Ze S (.t rfl) (wp_skip (Zm (Za (hK2 _ _ (wp_region_lit (run S (.ad (by unfold I64; omega) rfl <| .mv rfl <| .z) fun a w S => Zb (Za ?_))))))))))
     refine ⟨k + 1, ⟨by omega, ?_⟩, by omega, S.pk⟩
     rw [List.take_add_one, hm, Option.toList_some]
     intro h
     rcases List.mem_append.1 h with h | h
     · exact hno h
     · simp at h; exact he h.symm
 · obtain rfl : k = l.length := by omega
   rw [List.take_length] at hno
   refine sg S (.ge (by omega) rfl rfl <| .z) fun a w S => wp_seq_k fun _ hK2 => Ze S (.t rfl) (wp_exit (Zh (Zh (Ya (Za (hK1 _ _ (sg S (.ac rfl <| .z) fun a w S => wp_ret (Zn S (results1 S results76 (Rv.tmp rfl)) ?_))))))))
   exact ⟨by rw [decide_eq_false hno], S.wd.below⟩
def outE (e : Ent) (l : List Ent) (put : Bool) : List Ent := if put then insE e l else l
theorem c78 (w0 : World) (v : Value) (l : List Ent) (e : Ent) (h : Sl Ent.enc 6 w0 w0.heap.size v l) (hn : l.length ≤ 1048576) :
   Rets Tryz.prog 78 #[v, .agg (Ent.enc e).toArray] w0 fun u L => ∃ A1 r1, u = .slice A1 (insE e l).length r1 ∧ L = [rowOf 100 6 Ent.enc A1 r1 (insE e l)] := by
 obtain ⟨A, cap, rfl, hl, hcap, hA⟩ := h
 have hil : ∀ m, (insE e m).length = m.length + 1 := fun m => insE_len e m
 unfold Go.Fw.Rets
 refine enter2 func78 rfl ntmps78 rfl fun a S => wp_seq_k fun _ hK1 => wp_region_lit (Zi (Zy S (.t rfl) rfl fun g1 a w S => run S (.ac rfl <| .z) fun a w S => Zb (Za (hK1 _ _ (sg S (.ac rfl <| .z) fun a w S => sg S (.ac rfl <| .z) fun a w S => wp_seq_k fun _ hK1 => sg S (.mv rfl <| .ln underlying31 rfl <| .mc rfl <| .z) fun a w S => wp_block ?_)))))
 replace S := S.nil_ 100 6 Ent.enc none
 refine Xn S [5, 6, 8, 11] (X := Nat × Bool × Option Addr × Nat) (fun q => [(5, true, .slice q.2.2.1 (outE e (l.take q.1) q.2.1).length q.2.2.2), (6, true, .bool q.2.1), (11, true, .int .i64 (q.1 : Int))])
   (fun q => [rowOf 100 6 Ent.enc q.2.2.1 q.2.2.2 (outE e (l.take q.1) q.2.1), .blk g1 (.cells (Ent.enc e).toArray 100)])
   (fun q => q.1 ≤ l.length ∧ (q.2.1 = true → ∃ y ∈ l.take q.1, ltE e y) ∧ (q.2.1 = false → ∀ y ∈ l.take q.1, ¬ ltE e y)) (fun q => l.length - q.1) (0, false, none, 0) ⟨Nat.zero_le _, by simp, by simp⟩ ?_
 clear S
 rintro ⟨k, put, B, cB⟩ a w ⟨hk, hp1, hp2⟩ S
 dsimp only at hk hp1 hp2 S
 have hol : (outE e (l.take k) put).length ≤ k + 1 := by
   unfold outE
   split
   · rw [hil, List.length_take]; omega
   · rw [List.length_take]; omega
 by_cases hlt : k < l.length
 · obtain ⟨g, o, x, rfl, hx, hd, hc⟩ := Yh hA hlt
   have ht : l.take (k + 1) = l.take k ++ [x] := by rw [List.take_add_one, hx, Option.toList_some]
   cases put with
   | true =>
     have hst : outE e (l.take (k + 1)) true = outE e (l.take k) true ++ [x] := by unfold outE; rw [ht, if_pos rfl, if_pos rfl, insE_put (hp1 rfl)]
     generalize outE e (l.take k) true = O at *
     refine sg S (.lt (by omega) rfl rfl <| .z) fun a w S => wp_seq_k fun _ hK2 => Zg S (.t rfl) (wp_skip (Za (hK2 _ _ (wp_seq_k fun _ hK2 => wp_block (wp_seq_k fun _ hK3 => wp_region_lit (run S (.ix underlying31 sizeOf100 (by omega) rfl rfl <| .yy (Zu ⟨isAgg100, sizeOf100⟩ (.t rfl) (vs := [_, _, _, _, _, _]) rfl (fun _ => hc)) rfl <| .z) fun a w S => Zi (Zk S zeroValue100 (cs := _) rfl rfl fun g2 a w S => Zi (Zp S sizeOf100 (.t rfl) (.t rfl) (k := 0) rfl rfl rfl (by simp [Value.oneCell']) fun a w S => Zb (Za (hK3 _ _ (wp_seq_k fun _ hK3 => sg S (.mv rfl <| .nt rfl <| .mv rfl <| .sk rfl rfl rfl <| .sk rfl rfl rfl <| .sk rfl rfl rfl <| .yy (Zv (.t rfl) Ev.c) rfl <| .z) fun a w S => Ze S (.t rfl) (wp_skip (Za (hK3 _ _ (wp_region_lit (run S (.mv rfl <| .la gt100 0 rfl rfl rfl <| .z) fun a w S => Zi (Yd S underlying31 inf100 rfl rfl rfl (.t rfl) rfl rfl rfl fun g3 a w S => Zi (Yv S underlying31 inf100 rfl (k := 2) (j := 0) rfl (.t rfl) (.t rfl) rfl rfl rfl rfl (by first | omega | (simp only [List.length_append, List.length_cons, List.length_nil]; omega)) rfl rfl rfl fun A1 cap1 a w S => run S (.as rfl <| .z) fun a w S => Zb (Zm (Za (hK2 _ _ (wp_region_lit ?_))))))))))))))))))))))
     refine run S (.ad (by unfold I64; omega) rfl <| .mv rfl <| .z) fun a w S => Zb (Za ?_)
     refine ⟨(k + 1, true, A1, cap1), ⟨by dsimp only; omega, fun _ => ?_, fun h => by cases h⟩, by dsimp only; omega, ?_⟩
     · obtain ⟨y, hy, hy2⟩ := hp1 rfl
       exact ⟨y, by rw [ht]; exact List.mem_append_left _ hy, hy2⟩
     · dsimp only; rw [hst]; exact S.pk
   | false =>
     by_cases hex : ltE e x
     · have hst : outE e (l.take (k + 1)) true = outE e (l.take k) false ++ [e] ++ [x] := by unfold outE; rw [ht, if_pos rfl, if_neg (by simp), insE_new (hp2 rfl) hex]; simp
       have rw_l : decide (ltE e x) = true := decide_eq_true hex
       generalize outE e (l.take k) false = O at *
       refine sg S (.lt (by omega) rfl rfl <| .z) fun a w S => wp_seq_k fun _ hK2 => Zg S (.t rfl) (wp_skip (Za (hK2 _ _ (wp_seq_k fun _ hK2 => wp_block (wp_seq_k fun _ hK3 => wp_region_lit (run S (.ix underlying31 sizeOf100 (by omega) rfl rfl <| .yy (Zu ⟨isAgg100, sizeOf100⟩ (.t rfl) (vs := [_, _, _, _, _, _]) rfl (fun _ => hc)) rfl <| .z) fun a w S => Zi (Zk S zeroValue100 (cs := _) rfl rfl fun g2 a w S => Zi (Zp S sizeOf100 (.t rfl) (.t rfl) (k := 0) rfl rfl rfl (by simp [Value.oneCell']) fun a w S => Zb (Za (hK3 _ _ (wp_seq_k fun _ hK3 => wp_seq_k fun _ hK4 => wp_region_lit (run S (.mv rfl <| .nt rfl <| .mv rfl <| .gy rfl rfl (Yc ⟨isAgg100, sizeOf100⟩ (.t rfl) (k := 0) rfl rfl) <| .gy rfl rfl (Yc ⟨isAgg100, sizeOf100⟩ (.t rfl) (k := 2) rfl rfl) <| .gx rfl rfl (Zf call85 (.cons (.t rfl) (.cons (.t rfl) .nil)) (fun hp w W => c85 _ _ _)) <| .z) fun a w S => ?_))))))))))))
       rw [rw_l] at S
       refine run S (.yy (Zz (.t rfl) (.t rfl)) rfl <| .z) fun a w S => Zb (Za (hK4 _ _ (Zg S (.t rfl) (wp_seq_k fun _ hK4 => wp_region_lit (run S (.mv rfl <| .la gt100 2 rfl rfl rfl <| .z) fun a w S => Zi (Yd S underlying31 inf100 rfl rfl rfl (.t rfl) rfl rfl rfl fun g3 a w S => Zi (Yv S underlying31 inf100 rfl (k := 2) (j := 0) rfl (.t rfl) (.t rfl) rfl rfl rfl rfl (by first | omega | (simp only [List.length_append, List.length_cons, List.length_nil]; omega)) rfl rfl rfl fun A1 cap1 a w S => run S (.as rfl <| .z) fun a w S => Zb (Za (hK4 _ _ (rg S (.ac rfl <| .z) hK3 fun a w S => wp_region_lit (run S (.mv rfl <| .la gt100 1 rfl rfl rfl <| .z) fun a w S => Zi (Yd S underlying31 inf100 rfl rfl rfl (.t rfl) rfl rfl rfl fun g4 a w S => Zi (Yv S underlying31 inf100 rfl (k := 3) (j := 0) rfl (.t rfl) (.t rfl) rfl rfl rfl rfl (by first | omega | (simp only [List.length_append, List.length_cons, List.length_nil]; omega)) rfl rfl rfl fun A2 cap2 a w S => run S (.as rfl <| .z) fun a w S => Zb (Zm (Za (hK2 _ _ (wp_region_lit (run S (.ad (by unfold I64; omega) rfl <| .mv rfl <| .z) fun a w S => Zb (Za ?_)))))))))))))))))))
       refine ⟨(k + 1, true, A2, cap2), ⟨by dsimp only; omega, fun _ => ⟨x, by rw [ht]; simp, hex⟩, fun h => by cases h⟩, by dsimp only; omega, ?_⟩
       dsimp only; rw [hst]; exact S.pk
     · have hst : outE e (l.take (k + 1)) false = outE e (l.take k) false ++ [x] := by unfold outE; rw [ht, if_neg (by simp), if_neg (by simp)]
       have rw_l : decide (ltE e x) = false := decide_eq_false hex
       generalize outE e (l.take k) false = O at *
       refine sg S (.lt (by omega) rfl rfl <| .z) fun a w S => wp_seq_k fun _ hK2 => Zg S (.t rfl) (wp_skip (Za (hK2 _ _ (wp_seq_k fun _ hK2 => wp_block (wp_seq_k fun _ hK3 => wp_region_lit (run S (.ix underlying31 sizeOf100 (by omega) rfl rfl <| .yy (Zu ⟨isAgg100, sizeOf100⟩ (.t rfl) (vs := [_, _, _, _, _, _]) rfl (fun _ => hc)) rfl <| .z) fun a w S => Zi (Zk S zeroValue100 (cs := _) rfl rfl fun g2 a w S => Zi (Zp S sizeOf100 (.t rfl) (.t rfl) (k := 0) rfl rfl rfl (by simp [Value.oneCell']) fun a w S => Zb (Za (hK3 _ _ (wp_seq_k fun _ hK3 => wp_seq_k fun _ hK4 => wp_region_lit (run S (.mv rfl <| .nt rfl <| .mv rfl <| .gy rfl rfl (Yc ⟨isAgg100, sizeOf100⟩ (.t rfl) (k := 0) rfl rfl) <| .gy rfl rfl (Yc ⟨isAgg100, sizeOf100⟩ (.t rfl) (k := 2) rfl rfl) <| .gx rfl rfl (Zf call85 (.cons (.t rfl) (.cons (.t rfl) .nil)) (fun hp w W => c85 _ _ _)) <| .z) fun a w S => ?_))))))))))))
       rw [rw_l] at S
       refine run S (.yy (Zz (.t rfl) (.t rfl)) rfl <| .z) fun a w S => Zb (Za (hK4 _ _ (Ze S (.t rfl) (wp_skip (Za (hK3 _ _ (wp_region_lit (run S (.mv rfl <| .la gt100 0 rfl rfl rfl <| .z) fun a w S => Zi (Yd S underlying31 inf100 rfl rfl rfl (.t rfl) rfl rfl rfl fun g3 a w S => Zi (Yv S underlying31 inf100 rfl (k := 2) (j := 0) rfl (.t rfl) (.t rfl) rfl rfl rfl rfl (by first | omega | (simp only [List.length_append, List.length_cons, List.length_nil]; omega)) rfl rfl rfl fun A1 cap1 a w S => run S (.as rfl <| .z) fun a w S => Zb (Zm (Za (hK2 _ _ (wp_region_lit (run S (.ad (by unfold I64; omega) rfl <| .mv rfl <| .z) fun a w S => Zb (Za ?_))))))))))))))))
       refine ⟨(k + 1, false, A1, cap1), ⟨by dsimp only; omega, (fun h => by cases h), fun _ y hy => ?_⟩, by dsimp only; omega, ?_⟩
       · rw [ht] at hy
         rcases List.mem_append.1 hy with hy | hy
         · exact hp2 rfl y hy
         · simp at hy; exact hy ▸ hex
       · dsimp only; rw [hst]; exact S.pk
 · obtain rfl : k = l.length := by omega
   rw [List.take_length] at S hp1 hp2 hol
   cases put with
   | true =>
     have hst : outE e l true = insE e l := by unfold outE; rw [if_pos rfl]
     rw [hst] at S
     refine sg S (.ge (by omega) rfl rfl <| .z) fun a w S => wp_seq_k fun _ hK2 => Ze S (.t rfl) (wp_exit (Zh (Zh (Ya (Za (hK1 _ _ (wp_seq_k fun _ hK1 => sg S (.mv rfl <| .nt rfl <| .z) fun a w S => Ze S (.t rfl) (wp_skip (Za (hK1 _ _ (sg S (.mv rfl <| .as rfl <| .z) fun a w S => wp_ret (Zn S (results1 S results78 (Rv.tmp rfl)) ?_))))))))))))
     exact ⟨_, _, rfl, S.wd.picks (L' := [rowOf 100 6 Ent.enc B cB (insE e l)]) (by repeat (first | exact Picks.nil | (refine Picks.rest ?_; (repeat (first | exact List.Sublist.refl _ | refine List.Sublist.cons_cons _ ?_ | refine List.Sublist.cons _ ?_)); done) | refine Picks.take 0 rfl ?_ | refine Picks.take 1 rfl ?_ | refine Picks.take 2 rfl ?_ | refine Picks.take 3 rfl ?_ | refine Picks.take 4 rfl ?_ | refine Picks.take 5 rfl ?_ | refine Picks.take 6 rfl ?_ | refine Picks.take 7 rfl ?_ | refine Picks.take 8 rfl ?_ | refine Picks.take 9 rfl ?_ | refine Picks.take 10 rfl ?_ | refine Picks.take 11 rfl ?_)), _, _, rfl, rfl⟩
   | false =>
     have hst : insE e l = outE e l false ++ [e] := by unfold outE; rw [if_neg (by simp), insE_none (hp2 rfl)]
     generalize outE e l false = O at *
     refine sg S (.ge (by omega) rfl rfl <| .z) fun a w S => wp_seq_k fun _ hK2 => Ze S (.t rfl) (wp_exit (Zh (Zh (Ya (Za (hK1 _ _ (wp_seq_k fun _ hK1 => sg S (.mv rfl <| .nt rfl <| .z) fun a w S => Zg S (.t rfl) (wp_region_lit (run S (.mv rfl <| .la gt100 1 rfl rfl rfl <| .z) fun a w S => Zi (Yd S underlying31 inf100 rfl rfl rfl (.t rfl) rfl rfl rfl fun g2 a w S => Zi (Yv S underlying31 inf100 rfl (k := 1) (j := 0) rfl (.t rfl) (.t rfl) rfl rfl rfl rfl (by first | omega | (simp only [List.length_append, List.length_cons, List.length_nil]; omega)) rfl rfl rfl fun A1 cap1 a w S => run S (.as rfl <| .z) fun a w S => Zb (Za (hK1 _ _ (sg S (.mv rfl <| .as rfl <| .z) fun a w S => wp_ret (Zn S (results1 S results78 (Rv.tmp rfl)) ?_)))))))))))))))
     exact ⟨_, _, rfl, S.wd.picks (L' := [rowOf 100 6 Ent.enc A1 cap1 (O ++ [e])]) (by repeat (first | exact Picks.nil | (refine Picks.rest ?_; (repeat (first | exact List.Sublist.refl _ | refine List.Sublist.cons_cons _ ?_ | refine List.Sublist.cons _ ?_)); done) | refine Picks.take 0 rfl ?_ | refine Picks.take 1 rfl ?_ | refine Picks.take 2 rfl ?_ | refine Picks.take 3 rfl ?_ | refine Picks.take 4 rfl ?_ | refine Picks.take 5 rfl ?_ | refine Picks.take 6 rfl ?_ | refine Picks.take 7 rfl ?_ | refine Picks.take 8 rfl ?_ | refine Picks.take 9 rfl ?_ | refine Picks.take 10 rfl ?_ | refine Picks.take 11 rfl ?_)), A1, cap1, by rw [hst], by rw [hst]⟩
end Go.Proofs.YtakpdbmdfnialaaGreat
namespace Go.Proofs.YtakpdbmdfnialaaGreat
open Go.Fw Go.Proofs Go.RowKit Go.Proofs.Tryz
theorem c135 (w0 : World) (v1 : Value) (l : List Dot) (h : Sl Dot.enc 3 w0 w0.heap.size v1 l) (hn : l.length ≤ 4194304) :
   Rets Tryz.prog 135 #[v1] w0 fun v L => ∃ A c, v = .slice A l.length c ∧ L = [rowOf 30 3 Dot.enc A c l] := by
 have h0 := h
 obtain ⟨A, cap, rfl, hl, hcap, hA⟩ := h
 unfold Go.Fw.Rets
 refine enter1 func135 rfl ntmps135 rfl fun a S => sg S (.ac rfl <| .z) fun a w S => wp_seq_k fun _ hK1 => sg S (.mv rfl <| .yy (ys_sNil underlying32 (.t rfl) Ev.c) rfl <| .z) fun a w S => ?_
 refine Xq S (.t rfl) (fun h1 => ?_) (fun h1 => ?_)
 refine sg S (.ac rfl <| .z) fun a w S => wp_ret (Zd (Zn S (results1 S results135 (Rv.tmp rfl)) ?_))
 rotate_left
 refine wp_skip (Za (hK1 _ _ (wp_seq_k fun _ hK1 => wp_region_lit (Zi (Wb S underlying32 sizeOf30 rfl fun g1 a w S => run S (.mv rfl <| .z) fun a w S => Zi (Yy _ (S.nil_ 30 _ Go.Fw.Dot.enc _) underlying32 underlying32 (.inr ⟨_, rfl⟩) inf30 rfl (k := 0) rfl (.t rfl) (.t rfl) (Src.sl (Sl.old S.wd h0) (by decide) Go.Fw.Dot.enc_len Go.Fw.Dot.enc_one) (by first | omega | (simp only [List.length_append, List.length_cons, List.length_nil]; omega) | (simp; omega)) rfl rfl rfl fun A1 cap1 a w S => ?_))))))
 simp only [List.nil_append] at S
 refine run S (.as rfl <| .z) fun a w S => Zb (Za (hK1 _ _ (wp_ret (Zn S (results1 S results135 (Rv.tmp rfl)) ?_))))
 rotate_left
 · have hnil : l = [] := by
     refine List.eq_nil_of_length_eq_zero (Decidable.byContradiction fun hne => ?_)
     obtain ⟨g, o, rfl, _⟩ := hA (by omega)
     cases h1
   subst hnil
   exact ⟨_, _, rfl, (S.nil_ 30 3 Dot.enc none).wd.sub (by repeat (first | exact List.Sublist.refl _ | exact List.nil_sublist _ | refine .cons_cons _ ?_ | refine .cons _ ?_)), none, 0, rfl, rfl⟩
 · try simp only [List.nil_append] at S ⊢
   exact ⟨_, _, rfl, S.wd.sub (by repeat (first | exact List.Sublist.refl _ | exact List.nil_sublist _ | refine .cons_cons _ ?_ | refine .cons _ ?_)), _, _, rfl, rfl⟩
end Go.Proofs.YtakpdbmdfnialaaGreat
namespace Go.Proofs.YtakpdbmdfnialaaGreat
open Go.Fw Go.Proofs Go.RowKit Go.Proofs.Tryz
theorem c65 (w0 : World) (v1 v2 : Value) (C : Ctx) (h : RdCtx w0 w0.heap.size v1 v2 C) (hn : C.marks.length ≤ 1048576) (hn' : C.cloud.length ≤ 1048576) :
   Rets Tryz.prog 65 #[.agg #[v1, v2]] w0 fun v L => ∃ A1 r1 A2 r2, v = .agg #[.slice A1 C.marks.length r1, .slice A2 C.cloud.length r2] ∧
     L = [rowOf 30 3 Dot.enc A1 r1 C.marks, rowOf 74 3 Dot.enc A2 r2 C.cloud] := by
 obtain ⟨h1, h2⟩ := id h
 obtain ⟨B1, q1, rfl, _⟩ := id h1
 obtain ⟨B2, q2, rfl, _⟩ := id h2
 unfold Go.Fw.Rets
 refine enter1 func65 rfl ntmps65 rfl fun a S => wp_seq_k fun _ hK1 => wp_region_lit (Zi (Zy S (.t rfl) rfl fun g1 a w S => Zi (Zk S zeroValue35 (cs := _) rfl rfl fun g2 a w S => Zb (Za (hK1 _ _ (wp_seq_k fun _ hK1 => h_beginE S (by kernel_rfl) 0 fun a w S => hy 0 S rfl (Zc (FieldT.mk underlying35 rfl sizeOf32 rfl) (.t rfl) (i' := 0) rfl) rfl fun a w S => hy 1 S rfl (Zt ⟨isAgg32, sizeOf32⟩ (.t rfl) (k := 0) rfl rfl) rfl fun a w S => hy 3 S rfl (Zc (FieldT.mk underlying35 rfl sizeOf33 rfl) (.t rfl) (i' := 1) rfl) rfl fun a w S => ?_))))))
 refine hy 4 S rfl (Zt ⟨isAgg33, sizeOf33⟩ (.t rfl) (k := 0) rfl rfl) rfl fun a w S => ?_
 (refine h_m (i := 2) rfl (by kernel_rfl) (Zr S call135 (.cons (.t rfl) .nil) (c135 _ _ _ (by exact .old S.wd (by assumption)) (by omega)) rfl ?_); clear S a w; rintro _ _ ⟨A1, c1, rfl, rfl⟩ a w S; refine Zw S ?_)
 (refine h_m (i := 5) rfl (by kernel_rfl) (Zr S call136 (.cons (.t rfl) .nil) (c136 _ _ _ (by exact .old S.wd (by assumption)) (by omega)) rfl ?_); clear S a w; rintro _ _ ⟨A2, c2, rfl, rfl⟩ a w S; refine Zw S ?_)
 refine hy 6 S rfl (Yn (ps := [(0, Go.Operand.tmp 5), (1, Go.Operand.tmp 8)]) (us := [_, _]) bld35 (.cons (.t rfl) (.cons (.t rfl) .nil)) rfl) rfl fun a w S => ?_
 (refine Xe (i := 7) rfl (by kernel_rfl) (Zp S sizeOf35 (.t rfl) (.t rfl) (k := 2) rfl rfl rfl (by simp [Value.oneCell']) ?_); clear S a w; intro a w S; refine Zw S ?_)
 refine Yq (by kernel_rfl) (Za (hK1 _ _ (wp_ret (Zn S (results1 S results65 (Rv.cell (k := 2) ⟨isAgg35, sizeOf35⟩ rfl rfl rfl)) ?_))))
 (replace S := S.pull 1 rfl; try simp only [List.set_cons_zero, List.set_cons_succ, List.eraseIdx_cons_succ, List.eraseIdx_cons_zero] at S)
 exact ⟨_, _, rfl, S.wd.sub (by repeat (first | exact List.Sublist.refl _ | exact List.nil_sublist _ | refine .cons_cons _ ?_ | refine .cons _ ?_)), _, _, _, _, rfl, rfl⟩
theorem c75 (w0 : World) (v1 v2 v3 v4 : Value) (C D : Ctx) (h : RdCtx w0 w0.heap.size v1 v2 C) (h' : RdCtx w0 w0.heap.size v3 v4 D) :
   Rets Tryz.prog 75 #[.agg #[v1, v2], .agg #[v3, v4]] w0 fun v L => ∃ A1 r1 A2 r2, v = .tuple #[.agg #[.slice A1 (joinL C D).1.marks.length r1, .slice A2 (joinL C D).1.cloud.length r2], .int .i64 (joinL C D).2] ∧
     L = [rowOf 30 3 Dot.enc A1 r1 (joinL C D).1.marks, rowOf 74 3 Dot.enc A2 r2 (joinL C D).1.cloud] := by
 obtain ⟨h1, h2⟩ := id h
 obtain ⟨h3, h4⟩ := id h'
 obtain ⟨B1, q1, rfl, _⟩ := id h1
 obtain ⟨B2, q2, rfl, _⟩ := id h2
 obtain ⟨B3, q3, rfl, _⟩ := id h3
 obtain ⟨B4, q4, rfl, _⟩ := id h4
 by_cases hC : canL C = true
 · by_cases hD : canL D = true
   · have hc1 := can_len hC
     have hd1 := can_len hD
     have hj1 : (C.marks ++ D.marks).length ≤ 1900000 := by rw [List.length_append]; omega
     have hj2 : (C.cloud ++ D.cloud).length ≤ 1900000 := by rw [List.length_append]; omega
     have rw_c := hC
     have rw_d := hD
     have e : joinL C D = normalL (C.marks ++ D.marks) (C.cloud ++ D.cloud) := by unfold joinL; rw [hC, hD]; rfl
     unfold Go.Fw.Rets
     refine enter2 func75 rfl ntmps75 rfl fun a S => wp_seq_k fun _ hK1 => wp_region_lit (Zi (Zy S (.t rfl) rfl fun g1 a w S => Zi (Zy S (.t rfl) rfl fun g2 a w S => Zi (Zk S zeroValue35 (cs := _) rfl rfl fun g3 a w S => run S (.ac rfl <| .z) fun a w S => Zb (Za (hK1 _ _ (wp_seq_k fun _ hK1 => wp_seq_k fun _ hK2 => wp_region_lit (run S (.la gt35 2 rfl rfl rfl <| .xx (Zf call81 (.cons (.t rfl) .nil) (fun hp w W => c81 _ _ _ _ (by exact .old W (by assumption)))) rfl <| .z) fun a w S => ?_))))))))
     rw [rw_c] at S
     refine run S (.nt rfl <| .mv rfl <| .gy rfl rfl (Yc ⟨isAgg35, sizeOf35⟩ (.t rfl) (k := 1) rfl rfl) <| .gx rfl rfl (Zf call81 (.cons (.t rfl) .nil) (fun hp w W => c81 _ _ _ _ (by exact .old W (by assumption)))) <| .z) fun a w S => ?_
     rw [rw_d] at S
     refine run S (.gy rfl rfl (Xi (.t rfl)) <| .yy (Zv (.t rfl) (.t rfl)) rfl <| .z) fun a w S => Zb (Za (hK2 _ _ (Ze S (.t rfl) (wp_skip (Za (hK1 _ _ (wp_seq_k fun _ hK1 => h_beginE S (by kernel_rfl) 0 fun a w S => hy 1 S rfl (Zc (FieldT.mk underlying35 rfl sizeOf32 rfl) (.t rfl) (i' := 0) rfl) rfl fun a w S => hy 2 S rfl (Zt ⟨isAgg32, sizeOf32⟩ (.t rfl) (k := 1) rfl rfl) rfl fun a w S => hy 4 S rfl (Zc (FieldT.mk underlying35 rfl sizeOf32 rfl) (.t rfl) (i' := 0) rfl) rfl fun a w S => hy 5 S rfl (Zt ⟨isAgg32, sizeOf32⟩ (.t rfl) (k := 0) rfl rfl) rfl fun a w S => ?_)))))))
     refine hy 8 S rfl (Zc (FieldT.mk underlying35 rfl sizeOf33 rfl) (.t rfl) (i' := 1) rfl) rfl fun a w S => hy 9 S rfl (Zt ⟨isAgg33, sizeOf33⟩ (.t rfl) (k := 1) rfl rfl) rfl fun a w S => hy 11 S rfl (Zc (FieldT.mk underlying35 rfl sizeOf33 rfl) (.t rfl) (i' := 1) rfl) rfl fun a w S => hy 12 S rfl (Zt ⟨isAgg33, sizeOf33⟩ (.t rfl) (k := 0) rfl rfl) rfl fun a w S => ?_
     refine Xd (i := 0) (j := 7) (by kernel_rfl) rfl rfl ?_ ?_
     (refine Wb S underlying32 sizeOf30 rfl ?_; clear S a w; intro g4 a w S; refine Zw S ?_)
     refine Xd (i := 3) (j := 7) (by kernel_rfl) rfl rfl ?_ ?_
     (refine Yy _ (S.nil_ 30 _ Go.Fw.Dot.enc _) underlying32 underlying32 (.inr ⟨_, rfl⟩) inf30 rfl (k := 0) rfl (.t rfl) (.t rfl) (Src.sl (Sl.old S.wd h1) (by decide) Go.Fw.Dot.enc_len Go.Fw.Dot.enc_one) (by first | omega | (simp only [List.length_append, List.length_cons, List.length_nil]; omega) | (simp; omega)) rfl rfl rfl ?_; clear S a w; intro A1 cap1 a w S; refine Zw S ?_)
     simp only [List.nil_append] at S
     refine Xd (i := 6) (j := 7) (by kernel_rfl) rfl rfl ?_ ?_
     (refine Yy _ S underlying32 underlying32 (.inr ⟨_, rfl⟩) inf30 rfl (k := 0) rfl (.t rfl) (.t rfl) (Src.sl (Sl.old S.wd h3) (by decide) Go.Fw.Dot.enc_len Go.Fw.Dot.enc_one) (by first | omega | (simp only [List.length_append, List.length_cons, List.length_nil]; omega) | (simp; omega)) rfl rfl rfl ?_; clear S a w; intro A2 cap2 a w S; refine Zw S ?_)
     (refine h_m (i := 7) rfl (by kernel_rfl) (Wb S underlying33 sizeOf74 rfl ?_); clear S a w; intro g5 a w S; refine Zw S ?_)
     (refine h_m (i := 10) rfl (by kernel_rfl) (Yy _ (S.nil_ 74 _ Go.Fw.Dot.enc _) underlying33 underlying33 (.inr ⟨_, rfl⟩) inf74 rfl (k := 0) rfl (.t rfl) (.t rfl) (Src.sl (Sl.old S.wd h2) (by decide) Go.Fw.Dot.enc_len Go.Fw.Dot.enc_one) (by first | omega | (simp only [List.length_append, List.length_cons, List.length_nil]; omega) | (simp; omega)) rfl rfl rfl ?_); clear S a w; intro A3 cap3 a w S; refine Zw S ?_)
     simp only [List.nil_append] at S
     (refine h_m (i := 13) rfl (by kernel_rfl) (Yy _ S underlying33 underlying33 (.inr ⟨_, rfl⟩) inf74 rfl (k := 0) rfl (.t rfl) (.t rfl) (Src.sl (Sl.old S.wd h4) (by decide) Go.Fw.Dot.enc_len Go.Fw.Dot.enc_one) (by first | omega | (simp only [List.length_append, List.length_cons, List.length_nil]; omega) | (simp; omega)) rfl rfl rfl ?_); clear S a w; intro A4 cap4 a w S; refine Zw S ?_)
     (refine h_m (i := 14) rfl (by kernel_rfl) (Zr S call145 (.cons (.t rfl) (.cons (.t rfl) .nil)) (c145 _ _ _ _ _ (by exact Sl.of_own S.wd (k := 1) rfl (fun _ => rfl)) (by exact Sl.of_own S.wd (k := 0) rfl (fun _ => rfl)) (by assumption) (by assumption)) rfl ?_); clear S a w; rintro _ _ ⟨A11, c11, A21, c21, rfl, rfl⟩ a w S; refine Zw S ?_)
     refine hy 15 S rfl (Xj (.t rfl) rfl) rfl fun a w S => hy 16 S rfl (Xj (.t rfl) rfl) rfl fun a w S => ?_
     (refine Xe (i := 17) rfl (by kernel_rfl) (Zp S sizeOf35 (.t rfl) (.t rfl) (k := 4) rfl rfl rfl (by simp [Value.oneCell']) ?_); clear S a w; intro a w S; refine Zw S ?_)
     refine hy 18 S rfl (Yb (.t rfl)) rfl fun a w S => Yq (by kernel_rfl) (Za (hK1 _ _ (wp_ret (Zn S (results2 S results75 (Rv.cell (k := 4) ⟨isAgg35, sizeOf35⟩ rfl rfl rfl) (Rv.tmp rfl)) ?_))))
     rotate_left
     (refine Wb S underlying33 sizeOf74 rfl ?_; clear S a w; intro g5 a w S; refine Zw S ?_)
     (refine h_m (i := 6) rfl (by kernel_rfl) (Yy _ S underlying32 underlying32 (.inr ⟨_, rfl⟩) inf30 rfl (k := 0) rfl (.t rfl) (.t rfl) (Src.sl (Sl.old S.wd h3) (by decide) Go.Fw.Dot.enc_len Go.Fw.Dot.enc_one) (by first | omega | (simp only [List.length_append, List.length_cons, List.length_nil]; omega) | (simp; omega)) rfl rfl rfl ?_); clear S a w; intro A2 cap2 a w S; refine Zw S ?_)
     (refine h_m (i := 10) rfl (by kernel_rfl) (Yy _ (S.nil_ 74 _ Go.Fw.Dot.enc _) underlying33 underlying33 (.inr ⟨_, rfl⟩) inf74 rfl (k := 0) rfl (.t rfl) (.t rfl) (Src.sl (Sl.old S.wd h2) (by decide) Go.Fw.Dot.enc_len Go.Fw.Dot.enc_one) (by first | omega | (simp only [List.length_append, List.length_cons, List.length_nil]; omega) | (simp; omega)) rfl rfl rfl ?_); clear S a w; intro A3 cap3 a w S; refine Zw S ?_)
     simp only [List.nil_append] at S
     (refine h_m (i := 13) rfl (by kernel_rfl) (Yy _ S underlying33 underlying33 (.inr ⟨_, rfl⟩) inf74 rfl (k := 0) rfl (.t rfl) (.t rfl) (Src.sl (Sl.old S.wd h4) (by decide) Go.Fw.Dot.enc_len Go.Fw.Dot.enc_one) (by first | omega | (simp only [List.length_append, List.length_cons, List.length_nil]; omega) | (simp; omega)) rfl rfl rfl ?_); clear S a w; intro A4 cap4 a w S; refine Zw S ?_)
     (refine h_m (i := 14) rfl (by kernel_rfl) (Zr S call145 (.cons (.t rfl) (.cons (.t rfl) .nil)) (c145 _ _ _ _ _ (by exact Sl.of_own S.wd (k := 1) rfl (fun _ => rfl)) (by exact Sl.of_own S.wd (k := 0) rfl (fun _ => rfl)) (by assumption) (by assumption)) rfl ?_); clear S a w; rintro _ _ ⟨A11, c11, A21, c21, rfl, rfl⟩ a w S; refine Zw S ?_)
     refine hy 15 S rfl (Xj (.t rfl) rfl) rfl fun a w S => hy 16 S rfl (Xj (.t rfl) rfl) rfl fun a w S => ?_
     (refine Xe (i := 17) rfl (by kernel_rfl) (Zp S sizeOf35 (.t rfl) (.t rfl) (k := 4) rfl rfl rfl (by simp [Value.oneCell']) ?_); clear S a w; intro a w S; refine Zw S ?_)
     refine hy 18 S rfl (Yb (.t rfl)) rfl fun a w S => Yq (by kernel_rfl) (Za (hK1 _ _ (wp_ret (Zn S (results2 S results75 (Rv.cell (k := 4) ⟨isAgg35, sizeOf35⟩ rfl rfl rfl) (Rv.tmp rfl)) ?_))))
     rotate_left
     (refine Wb S underlying33 sizeOf74 rfl ?_; clear S a w; intro g5 a w S; refine Zw S ?_)
     (refine h_m (i := 3) rfl (by kernel_rfl) (Yy _ (S.nil_ 30 _ Go.Fw.Dot.enc _) underlying32 underlying32 (.inr ⟨_, rfl⟩) inf30 rfl (k := 0) rfl (.t rfl) (.t rfl) (Src.sl (Sl.old S.wd h1) (by decide) Go.Fw.Dot.enc_len Go.Fw.Dot.enc_one) (by first | omega | (simp only [List.length_append, List.length_cons, List.length_nil]; omega) | (simp; omega)) rfl rfl rfl ?_); clear S a w; intro A1 cap1 a w S; refine Zw S ?_)
     simp only [List.nil_append] at S
     (refine h_m (i := 6) rfl (by kernel_rfl) (Yy _ S underlying32 underlying32 (.inr ⟨_, rfl⟩) inf30 rfl (k := 0) rfl (.t rfl) (.t rfl) (Src.sl (Sl.old S.wd h3) (by decide) Go.Fw.Dot.enc_len Go.Fw.Dot.enc_one) (by first | omega | (simp only [List.length_append, List.length_cons, List.length_nil]; omega) | (simp; omega)) rfl rfl rfl ?_); clear S a w; intro A2 cap2 a w S; refine Zw S ?_)
     (refine h_m (i := 10) rfl (by kernel_rfl) (Yy _ (S.nil_ 74 _ Go.Fw.Dot.enc _) underlying33 underlying33 (.inr ⟨_, rfl⟩) inf74 rfl (k := 0) rfl (.t rfl) (.t rfl) (Src.sl (Sl.old S.wd h2) (by decide) Go.Fw.Dot.enc_len Go.Fw.Dot.enc_one) (by first | omega | (simp only [List.length_append, List.length_cons, List.length_nil]; omega) | (simp; omega)) rfl rfl rfl ?_); clear S a w; intro A3 cap3 a w S; refine Zw S ?_)
     simp only [List.nil_append] at S
     (refine h_m (i := 13) rfl (by kernel_rfl) (Yy _ S underlying33 underlying33 (.inr ⟨_, rfl⟩) inf74 rfl (k := 0) rfl (.t rfl) (.t rfl) (Src.sl (Sl.old S.wd h4) (by decide) Go.Fw.Dot.enc_len Go.Fw.Dot.enc_one) (by first | omega | (simp only [List.length_append, List.length_cons, List.length_nil]; omega) | (simp; omega)) rfl rfl rfl ?_); clear S a w; intro A4 cap4 a w S; refine Zw S ?_)
     (refine h_m (i := 14) rfl (by kernel_rfl) (Zr S call145 (.cons (.t rfl) (.cons (.t rfl) .nil)) (c145 _ _ _ _ _ (by exact Sl.of_own S.wd (k := 1) rfl (fun _ => rfl)) (by exact Sl.of_own S.wd (k := 0) rfl (fun _ => rfl)) (by assumption) (by assumption)) rfl ?_); clear S a w; rintro _ _ ⟨A11, c11, A21, c21, rfl, rfl⟩ a w S; refine Zw S ?_)
     refine hy 15 S rfl (Xj (.t rfl) rfl) rfl fun a w S => hy 16 S rfl (Xj (.t rfl) rfl) rfl fun a w S => ?_
     (refine Xe (i := 17) rfl (by kernel_rfl) (Zp S sizeOf35 (.t rfl) (.t rfl) (k := 4) rfl rfl rfl (by simp [Value.oneCell']) ?_); clear S a w; intro a w S; refine Zw S ?_)
     refine hy 18 S rfl (Yb (.t rfl)) rfl fun a w S => Yq (by kernel_rfl) (Za (hK1 _ _ (wp_ret (Zn S (results2 S results75 (Rv.cell (k := 4) ⟨isAgg35, sizeOf35⟩ rfl rfl rfl) (Rv.tmp rfl)) ?_))))
     rotate_left
     (refine Wb S underlying33 sizeOf74 rfl ?_; clear S a w; intro g4 a w S; refine Zw S ?_)
     (refine h_m (i := 0) rfl (by kernel_rfl) (Wb S underlying32 sizeOf30 rfl ?_); clear S a w; intro g5 a w S; refine Zw S ?_)
     (refine h_m (i := 3) rfl (by kernel_rfl) (Yy _ (S.nil_ 30 _ Go.Fw.Dot.enc _) underlying32 underlying32 (.inr ⟨_, rfl⟩) inf30 rfl (k := 0) rfl (.t rfl) (.t rfl) (Src.sl (Sl.old S.wd h1) (by decide) Go.Fw.Dot.enc_len Go.Fw.Dot.enc_one) (by first | omega | (simp only [List.length_append, List.length_cons, List.length_nil]; omega) | (simp; omega)) rfl rfl rfl ?_); clear S a w; intro A1 cap1 a w S; refine Zw S ?_)
     simp only [List.nil_append] at S
     (refine h_m (i := 6) rfl (by kernel_rfl) (Yy _ S underlying32 underlying32 (.inr ⟨_, rfl⟩) inf30 rfl (k := 0) rfl (.t rfl) (.t rfl) (Src.sl (Sl.old S.wd h3) (by decide) Go.Fw.Dot.enc_len Go.Fw.Dot.enc_one) (by first | omega | (simp only [List.length_append, List.length_cons, List.length_nil]; omega) | (simp; omega)) rfl rfl rfl ?_); clear S a w; intro A2 cap2 a w S; refine Zw S ?_)
     (refine h_m (i := 10) rfl (by kernel_rfl) (Yy _ (S.nil_ 74 _ Go.Fw.Dot.enc _) underlying33 underlying33 (.inr ⟨_, rfl⟩) inf74 rfl (k := 0) rfl (.t rfl) (.t rfl) (Src.sl (Sl.old S.wd h2) (by decide) Go.Fw.Dot.enc_len Go.Fw.Dot.enc_one) (by first | omega | (simp only [List.length_append, List.length_cons, List.length_nil]; omega) | (simp; omega)) rfl rfl rfl ?_); clear S a w; intro A3 cap3 a w S; refine Zw S ?_)
     simp only [List.nil_append] at S
     (refine h_m (i := 13) rfl (by kernel_rfl) (Yy _ S underlying33 underlying33 (.inr ⟨_, rfl⟩) inf74 rfl (k := 0) rfl (.t rfl) (.t rfl) (Src.sl (Sl.old S.wd h4) (by decide) Go.Fw.Dot.enc_len Go.Fw.Dot.enc_one) (by first | omega | (simp only [List.length_append, List.length_cons, List.length_nil]; omega) | (simp; omega)) rfl rfl rfl ?_); clear S a w; intro A4 cap4 a w S; refine Zw S ?_)
     (refine h_m (i := 14) rfl (by kernel_rfl) (Zr S call145 (.cons (.t rfl) (.cons (.t rfl) .nil)) (c145 _ _ _ _ _ (by exact Sl.of_own S.wd (k := 1) rfl (fun _ => rfl)) (by exact Sl.of_own S.wd (k := 0) rfl (fun _ => rfl)) (by assumption) (by assumption)) rfl ?_); clear S a w; rintro _ _ ⟨A11, c11, A21, c21, rfl, rfl⟩ a w S; refine Zw S ?_)
     refine hy 15 S rfl (Xj (.t rfl) rfl) rfl fun a w S => hy 16 S rfl (Xj (.t rfl) rfl) rfl fun a w S => ?_
     (refine Xe (i := 17) rfl (by kernel_rfl) (Zp S sizeOf35 (.t rfl) (.t rfl) (k := 4) rfl rfl rfl (by simp [Value.oneCell']) ?_); clear S a w; intro a w S; refine Zw S ?_)
     refine hy 18 S rfl (Yb (.t rfl)) rfl fun a w S => Yq (by kernel_rfl) (Za (hK1 _ _ (wp_ret (Zn S (results2 S results75 (Rv.cell (k := 4) ⟨isAgg35, sizeOf35⟩ rfl rfl rfl) (Rv.tmp rfl)) ?_))))
     rotate_left
     all_goals rw [e]
     all_goals exact ⟨_, _, rfl, S.wd.sub (by repeat (first | exact List.Sublist.refl _ | exact List.nil_sublist _ | refine .cons_cons _ ?_ | refine .cons _ ?_)), _, _, _, _, rfl, rfl⟩
   · have hD : canL D = false := by simpa using hD
     have rw_c := hC
     have rw_d := hD
     unfold Go.Fw.Rets
     refine enter2 func75 rfl ntmps75 rfl fun a S => wp_seq_k fun _ hK1 => wp_region_lit (Zi (Zy S (.t rfl) rfl fun g1 a w S => Zi (Zy S (.t rfl) rfl fun g2 a w S => Zi (Zk S zeroValue35 (cs := _) rfl rfl fun g3 a w S => run S (.ac rfl <| .z) fun a w S => Zb (Za (hK1 _ _ (wp_seq_k fun _ hK1 => wp_seq_k fun _ hK2 => wp_region_lit (run S (.la gt35 2 rfl rfl rfl <| .xx (Zf call81 (.cons (.t rfl) .nil) (fun hp w W => c81 _ _ _ _ (by exact .old W (by assumption)))) rfl <| .z) fun a w S => ?_))))))))
     rw [rw_c] at S
     refine run S (.nt rfl <| .mv rfl <| .gy rfl rfl (Yc ⟨isAgg35, sizeOf35⟩ (.t rfl) (k := 1) rfl rfl) <| .gx rfl rfl (Zf call81 (.cons (.t rfl) .nil) (fun hp w W => c81 _ _ _ _ (by exact .old W (by assumption)))) <| .z) fun a w S => ?_
     rw [rw_d] at S
     refine run S (.gy rfl rfl (Xi (.t rfl)) <| .yy (Zv (.t rfl) (.t rfl)) rfl <| .z) fun a w S => Zb (Za (hK2 _ _ (Zg S (.t rfl) (wp_seq_k fun _ hK2 => wp_region_lit (run S (.yy (Yn (ps := []) (us := [_, _]) bld35 .nil rfl) rfl <| .z) fun a w S => Zi (Zp S sizeOf35 (.t rfl) (.t rfl) (k := 0) rfl rfl rfl (by simp [Value.oneCell']) fun a w S => run S (.ac rfl <| .z) fun a w S => Zb (Za (hK2 _ _ (wp_ret (Zd (Zn S (results2 S results75 (Rv.cell (k := 0) ⟨isAgg35, sizeOf35⟩ rfl rfl rfl) (Rv.tmp rfl)) ?_)))))))))))
     have e : joinL C D = (⟨[], []⟩, 30) := by unfold joinL; rw [hC, hD]; rfl
     rw [e]
     exact ⟨_, _, rfl, ((S.nil_ 74 3 Dot.enc none).nil_ 30 3 Dot.enc none).wd.sub (by repeat (first | exact List.Sublist.refl _ | exact List.nil_sublist _ | refine .cons_cons _ ?_ | refine .cons _ ?_)), none, 0, none, 0, rfl, rfl⟩
 · have hC : canL C = false := by simpa using hC
   have rw_c := hC
   unfold Go.Fw.Rets
   refine enter2 func75 rfl ntmps75 rfl fun a S => wp_seq_k fun _ hK1 => wp_region_lit (Zi (Zy S (.t rfl) rfl fun g1 a w S => Zi (Zy S (.t rfl) rfl fun g2 a w S => Zi (Zk S zeroValue35 (cs := _) rfl rfl fun g3 a w S => run S (.ac rfl <| .z) fun a w S => Zb (Za (hK1 _ _ (wp_seq_k fun _ hK1 => wp_seq_k fun _ hK2 => wp_region_lit (run S (.la gt35 2 rfl rfl rfl <| .xx (Zf call81 (.cons (.t rfl) .nil) (fun hp w W => c81 _ _ _ _ (by exact .old W (by assumption)))) rfl <| .z) fun a w S => ?_))))))))
   rw [rw_c] at S
   refine run S (.nt rfl <| .mv rfl <| .sk rfl rfl rfl <| .sk rfl rfl rfl <| .sk rfl rfl rfl <| .yy (Zz (.t rfl) Ev.c) rfl <| .z) fun a w S => Zb (Za (hK2 _ _ (Zg S (.t rfl) (wp_seq_k fun _ hK2 => wp_region_lit (run S (.yy (Yn (ps := []) (us := [_, _]) bld35 .nil rfl) rfl <| .z) fun a w S => Zi (Zp S sizeOf35 (.t rfl) (.t rfl) (k := 0) rfl rfl rfl (by simp [Value.oneCell']) fun a w S => run S (.ac rfl <| .z) fun a w S => Zb (Za (hK2 _ _ (wp_ret (Zd (Zn S (results2 S results75 (Rv.cell (k := 0) ⟨isAgg35, sizeOf35⟩ rfl rfl rfl) (Rv.tmp rfl)) ?_)))))))))))
   have e : joinL C D = (⟨[], []⟩, 30) := by unfold joinL; rw [hC]; rfl
   rw [e]
   exact ⟨_, _, rfl, ((S.nil_ 74 3 Dot.enc none).nil_ 30 3 Dot.enc none).wd.sub (by repeat (first | exact List.Sublist.refl _ | exact List.nil_sublist _ | refine .cons_cons _ ?_ | refine .cons _ ?_)), none, 0, none, 0, rfl, rfl⟩
theorem c168 (w0 : World) (v1 v2 : Value) (C : Ctx) (x y z : Int) (h : RdCtx w0 w0.heap.size v1 v2 C) :
   Rets Tryz.prog 168 #[.agg #[v1, v2], .agg #[.int .i64 x, .int .i64 y, .int .i64 z]] w0 fun v L => ∃ A1 r1 A2 r2, v = .tuple #[.agg #[.slice A1 (addL C ⟨x, y, z⟩).1.marks.length r1, .slice A2 (addL C ⟨x, y, z⟩).1.cloud.length r2], .int .i64 (addL C ⟨x, y, z⟩).2] ∧
     L = [rowOf 30 3 Dot.enc A1 r1 (addL C ⟨x, y, z⟩).1.marks, rowOf 74 3 Dot.enc A2 r2 (addL C ⟨x, y, z⟩).1.cloud] := by
 obtain ⟨h1, h2⟩ := id h
 obtain ⟨B1, q1, rfl, _⟩ := id h1
 obtain ⟨B2, q2, rfl, _⟩ := id h2
 cases rw_c : canL C with
 | true =>
   have hc1 := can_len rw_c
   have hj : (C.cloud ++ [(⟨x, y, z⟩ : Dot)]).length ≤ 1900000 := by simp; omega
   have e : addL C ⟨x, y, z⟩ = normalL C.marks (C.cloud ++ [⟨x, y, z⟩]) := by
     unfold addL
     rw [rw_c]
     cases hd : mayD ⟨x, y, z⟩ with
     | true => rfl
     | false => exact (normalL_bad2 (k := C.cloud.length) (by simp) hd).symm
   unfold Go.Fw.Rets
   refine enter2 func168 rfl ntmps168 rfl fun a S => wp_seq_k fun _ hK1 => wp_region_lit (Zi (Zy S (.t rfl) rfl fun g1 a w S => Zi (Zy S (.t rfl) rfl fun g2 a w S => Zi (Zk S zeroValue35 (cs := _) rfl rfl fun g3 a w S => run S (.ac rfl <| .z) fun a w S => Zb (Za (hK1 _ _ (wp_seq_k fun _ hK1 => wp_seq_k fun _ hK2 => wp_region_lit (run S (.la gt35 2 rfl rfl rfl <| .xx (Zf call81 (.cons (.t rfl) .nil) (fun hp w W => c81 _ _ _ _ (by exact .old W (by assumption)))) rfl <| .z) fun a w S => ?_))))))))
   rw [rw_c] at S
   refine run S (.nt rfl <| .z) fun a w S => Zb (Za (hK2 _ _ (Ze S (.t rfl) (wp_skip (Za (hK1 _ _ (wp_seq_k fun _ hK1 => h_beginE S (by kernel_rfl) 0 fun a w S => hy 0 S rfl (Zc (FieldT.mk underlying35 rfl sizeOf32 rfl) (.t rfl) (i' := 0) rfl) rfl fun a w S => hy 1 S rfl (Zt ⟨isAgg32, sizeOf32⟩ (.t rfl) (k := 1) rfl rfl) rfl fun a w S => hy 3 S rfl (Zc (FieldT.mk underlying35 rfl sizeOf33 rfl) (.t rfl) (i' := 1) rfl) rfl fun a w S => hy 4 S rfl (Zt ⟨isAgg33, sizeOf33⟩ (.t rfl) (k := 1) rfl rfl) rfl fun a w S => ?_)))))))
   refine hy 6 S rfl (Yc ⟨isAgg74, sizeOf74⟩ (.t rfl) (k := 0) rfl rfl) rfl fun a w S => ?_
   refine Xd (i := 2) (j := 7) (by kernel_rfl) rfl rfl ?_ ?_
   (refine Wb S underlying33 sizeOf74 rfl ?_; clear S a w; intro g4 a w S; refine Zw S ?_)
   refine Xd (i := 5) (j := 7) (by kernel_rfl) rfl rfl ?_ ?_
   (refine Yy _ (S.nil_ 74 _ Go.Fw.Dot.enc _) underlying33 underlying33 (.inr ⟨_, rfl⟩) inf74 rfl (k := 0) rfl (.t rfl) (.t rfl) (Src.sl (Sl.old S.wd h2) (by decide) Go.Fw.Dot.enc_len Go.Fw.Dot.enc_one) (by first | omega | (simp only [List.length_append, List.length_cons, List.length_nil]; omega) | (simp; omega)) rfl rfl rfl ?_; clear S a w; intro A1 cap1 a w S; refine Zw S ?_)
   simp only [List.nil_append] at S
   (refine h_m (i := 7) rfl (by kernel_rfl) (Yd S underlying33 inf74 rfl rfl rfl (.t rfl) rfl rfl rfl ?_); clear S a w; intro g5 a w S; refine Zw S ?_)
   (refine h_m (i := 8) rfl (by kernel_rfl) (Yv S underlying33 inf74 rfl (k := 1) (j := 0) rfl (.t rfl) (.t rfl) rfl Go.Fw.Dot.mkEnc rfl rfl (by first | omega | (simp only [List.length_append, List.length_cons, List.length_nil]; omega)) rfl rfl rfl ?_); clear S a w; intro A2 cap2 a w S; refine Zw S ?_)
   (refine h_m (i := 9) rfl (by kernel_rfl) (Zr S call145 (.cons (.t rfl) (.cons (.t rfl) .nil)) (c145 _ _ _ _ _ (by exact .old S.wd (by assumption)) (by exact Sl.of_own S.wd (k := 1) rfl (fun _ => rfl)) (by omega) (by assumption)) rfl ?_); clear S a w; rintro _ _ ⟨A11, c11, A21, c21, rfl, rfl⟩ a w S; refine Zw S ?_)
   refine hy 10 S rfl (Xj (.t rfl) rfl) rfl fun a w S => hy 11 S rfl (Xj (.t rfl) rfl) rfl fun a w S => ?_
   (refine Xe (i := 12) rfl (by kernel_rfl) (Zp S sizeOf35 (.t rfl) (.t rfl) (k := 4) rfl rfl rfl (by simp [Value.oneCell']) ?_); clear S a w; intro a w S; refine Zw S ?_)
   refine hy 13 S rfl (Yb (.t rfl)) rfl fun a w S => Yq (by kernel_rfl) (Za (hK1 _ _ (wp_ret (Zn S (results2 S results168 (Rv.cell (k := 4) ⟨isAgg35, sizeOf35⟩ rfl rfl rfl) (Rv.tmp rfl)) ?_))))
   rotate_left
   (refine Yd S underlying33 inf74 rfl rfl rfl (.t rfl) rfl rfl rfl ?_; clear S a w; intro g5 a w S; refine Zw S ?_)
   (refine h_m (i := 5) rfl (by kernel_rfl) (Yy _ (S.nil_ 74 _ Go.Fw.Dot.enc _) underlying33 underlying33 (.inr ⟨_, rfl⟩) inf74 rfl (k := 0) rfl (.t rfl) (.t rfl) (Src.sl (Sl.old S.wd h2) (by decide) Go.Fw.Dot.enc_len Go.Fw.Dot.enc_one) (by first | omega | (simp only [List.length_append, List.length_cons, List.length_nil]; omega) | (simp; omega)) rfl rfl rfl ?_); clear S a w; intro A1 cap1 a w S; refine Zw S ?_)
   simp only [List.nil_append] at S
   (refine h_m (i := 8) rfl (by kernel_rfl) (Yv S underlying33 inf74 rfl (k := 0) (j := 1) rfl (.t rfl) (.t rfl) rfl Go.Fw.Dot.mkEnc rfl rfl (by first | omega | (simp only [List.length_append, List.length_cons, List.length_nil]; omega)) rfl rfl rfl ?_); clear S a w; intro A2 cap2 a w S; refine Zw S ?_)
   (refine h_m (i := 9) rfl (by kernel_rfl) (Zr S call145 (.cons (.t rfl) (.cons (.t rfl) .nil)) (c145 _ _ _ _ _ (by exact .old S.wd (by assumption)) (by exact Sl.of_own S.wd (k := 0) rfl (fun _ => rfl)) (by omega) (by assumption)) rfl ?_); clear S a w; rintro _ _ ⟨A11, c11, A21, c21, rfl, rfl⟩ a w S; refine Zw S ?_)
   refine hy 10 S rfl (Xj (.t rfl) rfl) rfl fun a w S => hy 11 S rfl (Xj (.t rfl) rfl) rfl fun a w S => ?_
   (refine Xe (i := 12) rfl (by kernel_rfl) (Zp S sizeOf35 (.t rfl) (.t rfl) (k := 4) rfl rfl rfl (by simp [Value.oneCell']) ?_); clear S a w; intro a w S; refine Zw S ?_)
   refine hy 13 S rfl (Yb (.t rfl)) rfl fun a w S => Yq (by kernel_rfl) (Za (hK1 _ _ (wp_ret (Zn S (results2 S results168 (Rv.cell (k := 4) ⟨isAgg35, sizeOf35⟩ rfl rfl rfl) (Rv.tmp rfl)) ?_))))
   rotate_left
   (refine Yd S underlying33 inf74 rfl rfl rfl (.t rfl) rfl rfl rfl ?_; clear S a w; intro g4 a w S; refine Zw S ?_)
   (refine h_m (i := 2) rfl (by kernel_rfl) (Wb S underlying33 sizeOf74 rfl ?_); clear S a w; intro g5 a w S; refine Zw S ?_)
   (refine h_m (i := 5) rfl (by kernel_rfl) (Yy _ (S.nil_ 74 _ Go.Fw.Dot.enc _) underlying33 underlying33 (.inr ⟨_, rfl⟩) inf74 rfl (k := 0) rfl (.t rfl) (.t rfl) (Src.sl (Sl.old S.wd h2) (by decide) Go.Fw.Dot.enc_len Go.Fw.Dot.enc_one) (by first | omega | (simp only [List.length_append, List.length_cons, List.length_nil]; omega) | (simp; omega)) rfl rfl rfl ?_); clear S a w; intro A1 cap1 a w S; refine Zw S ?_)
   simp only [List.nil_append] at S
   (refine h_m (i := 8) rfl (by kernel_rfl) (Yv S underlying33 inf74 rfl (k := 0) (j := 1) rfl (.t rfl) (.t rfl) rfl Go.Fw.Dot.mkEnc rfl rfl (by first | omega | (simp only [List.length_append, List.length_cons, List.length_nil]; omega)) rfl rfl rfl ?_); clear S a w; intro A2 cap2 a w S; refine Zw S ?_)
   (refine h_m (i := 9) rfl (by kernel_rfl) (Zr S call145 (.cons (.t rfl) (.cons (.t rfl) .nil)) (c145 _ _ _ _ _ (by exact .old S.wd (by assumption)) (by exact Sl.of_own S.wd (k := 0) rfl (fun _ => rfl)) (by omega) (by assumption)) rfl ?_); clear S a w; rintro _ _ ⟨A11, c11, A21, c21, rfl, rfl⟩ a w S; refine Zw S ?_)
   refine hy 10 S rfl (Xj (.t rfl) rfl) rfl fun a w S => hy 11 S rfl (Xj (.t rfl) rfl) rfl fun a w S => ?_
   (refine Xe (i := 12) rfl (by kernel_rfl) (Zp S sizeOf35 (.t rfl) (.t rfl) (k := 4) rfl rfl rfl (by simp [Value.oneCell']) ?_); clear S a w; intro a w S; refine Zw S ?_)
   refine hy 13 S rfl (Yb (.t rfl)) rfl fun a w S => Yq (by kernel_rfl) (Za (hK1 _ _ (wp_ret (Zn S (results2 S results168 (Rv.cell (k := 4) ⟨isAgg35, sizeOf35⟩ rfl rfl rfl) (Rv.tmp rfl)) ?_))))
   rotate_left
   all_goals rw [e]
   all_goals exact ⟨_, _, rfl, S.wd.sub (by repeat (first | exact List.Sublist.refl _ | exact List.nil_sublist _ | refine .cons_cons _ ?_ | refine .cons _ ?_)), _, _, _, _, rfl, rfl⟩
 | false =>
   unfold Go.Fw.Rets
   refine enter2 func168 rfl ntmps168 rfl fun a S => wp_seq_k fun _ hK1 => wp_region_lit (Zi (Zy S (.t rfl) rfl fun g1 a w S => Zi (Zy S (.t rfl) rfl fun g2 a w S => Zi (Zk S zeroValue35 (cs := _) rfl rfl fun g3 a w S => run S (.ac rfl <| .z) fun a w S => Zb (Za (hK1 _ _ (wp_seq_k fun _ hK1 => wp_seq_k fun _ hK2 => wp_region_lit (run S (.la gt35 2 rfl rfl rfl <| .xx (Zf call81 (.cons (.t rfl) .nil) (fun hp w W => c81 _ _ _ _ (by exact .old W (by assumption)))) rfl <| .z) fun a w S => ?_))))))))
   rw [rw_c] at S
   refine run S (.nt rfl <| .z) fun a w S => Zb (Za (hK2 _ _ (Zg S (.t rfl) (wp_seq_k fun _ hK2 => wp_region_lit (run S (.yy (Yn (ps := []) (us := [_, _]) bld35 .nil rfl) rfl <| .z) fun a w S => Zi (Zp S sizeOf35 (.t rfl) (.t rfl) (k := 0) rfl rfl rfl (by simp [Value.oneCell']) fun a w S => run S (.ac rfl <| .z) fun a w S => Zb (Za (hK2 _ _ (wp_ret (Zd (Zn S (results2 S results168 (Rv.cell (k := 0) ⟨isAgg35, sizeOf35⟩ rfl rfl rfl) (Rv.tmp rfl)) ?_)))))))))))
   have e : addL C ⟨x, y, z⟩ = (⟨[], []⟩, 30) := by unfold addL; rw [rw_c]; rfl
   rw [e]
   exact ⟨_, _, rfl, ((S.nil_ 74 3 Dot.enc none).nil_ 30 3 Dot.enc none).wd.sub (by repeat (first | exact List.Sublist.refl _ | exact List.nil_sublist _ | refine .cons_cons _ ?_ | refine .cons _ ?_)), none, 0, none, 0, rfl, rfl⟩
end Go.Proofs.YtakpdbmdfnialaaGreat
namespace Go.Fw
theorem otherE_no {s : List UInt8} {l : List Ent} {k : Nat} {x : Ent} (h : l[k]? = some x) (hs : x.item = s) : otherE s (l.take (k + 1)) = otherE s (l.take k) := by
 rw [List.take_add_one, h, Option.toList_some]
 unfold otherE
 simp [hs]
theorem otherE_yes {s : List UInt8} {l : List Ent} {k : Nat} {x : Ent} (h : l[k]? = some x) (hs : x.item ≠ s) : otherE s (l.take (k + 1)) = otherE s (l.take k) ++ [x] := by
 rw [List.take_add_one, h, Option.toList_some]
 unfold otherE
 simp [hs]
theorem otherE_len (s : List UInt8) (l : List Ent) (k : Nat) : (otherE s (l.take k)).length ≤ l.length := by
 have h1 := List.length_filter_le (fun x : Ent => !decide (x.item = s)) (l.take k)
 have h2 : (l.take k).length ≤ l.length := by rw [List.length_take]; omega
 unfold otherE
 omega
end Go.Fw
namespace Go.Proofs.YtakpdbmdfnialaaGreat
open Go.Fw Go.Proofs Go.RowKit Go.Proofs.Tryz
end Go.Proofs.YtakpdbmdfnialaaGreat
namespace Go.Proofs.YtakpdbmdfnialaaGreat
open Go.Fw Go.Proofs Go.RowKit Go.Proofs.Tryz
theorem c113 (w0 : World) (u : Upd) (v1 v2 v3 : Value) (h : Sl Ent.enc 6 w0 w0.heap.size v1 u.seen.ents) (hr : RdCtx w0 w0.heap.size v2 v3 u.seen.ctx) :
   Rets Tryz.prog 113 #[.agg (Upd.enc u v1 v2 v3).toArray] w0 fun v L => ∃ A1 r1 A2 r2 A3 r3, v = .tuple #[.agg #[.slice A1 (applyU u).1.ents.length r1, .slice A2 (applyU u).1.ctx.marks.length r2, .slice A3 (applyU u).1.ctx.cloud.length r3], .int .i64 (applyU u).2] ∧
     L = [rowOf 100 6 Ent.enc A1 r1 (applyU u).1.ents, rowOf 30 3 Dot.enc A2 r2 (applyU u).1.ctx.marks, rowOf 74 3 Dot.enc A3 r3 (applyU u).1.ctx.cloud] := by
 have hs := h
 have hrr := hr
 obtain ⟨A, cap, rfl, hl, hcap, hA⟩ := h
 obtain ⟨⟨A2, cap2, rfl, _⟩, ⟨A3, cap3, rfl, _⟩⟩ := hr
 by_cases hm : mayE u = 0
 rotate_left
 · have rw_m : decide (mayE u = 0) = false := decide_eq_false hm
   have e : applyU u = (Cart.zero, mayE u) := by unfold applyU; rw [if_neg hm]
   unfold Go.Fw.Rets
   refine enter1 func113 rfl ntmps113 rfl fun a S => wp_seq_k fun _ hK1 => wp_region_lit (Zi (Zy S (.t rfl) rfl fun g1 a w S => Zi (Zk S zeroValue37 (cs := _) rfl rfl fun g2 a w S => run S (.ac rfl <| .z) fun a w S => Zb (Za (hK1 _ _ (wp_seq_k fun _ hK1 => sg S (.la gt77 1 rfl rfl rfl <| .xx (Zf call128 (.cons (.t rfl) .nil) (fun hp w W => c128 _ _ _ _ _ (by exact .old W (by assumption)) (by exact .old W (by assumption)))) rfl <| .as rfl <| .z) fun a w S => sg S (.mv rfl <| .yy (Yu (by omega) (Yg (.t rfl) Ev.c)) rfl <| .z) fun a w S => Zg S (.t rfl) (wp_seq_k fun _ hK2 => wp_region_lit (run S (.yy (Yn (ps := []) (us := [_, _, _]) bld37 .nil rfl) rfl <| .mv rfl <| .z) fun a w S => Zi (Zp S sizeOf37 (.t rfl) (.t rfl) (k := 0) rfl rfl rfl (by simp [Value.oneCell']) fun a w S => run S (.as rfl <| .z) fun a w S => Zb (Za (hK2 _ _ (wp_ret (Zd (Zn S (results2 S results113 (Rv.cell (k := 0) ⟨isAgg37, sizeOf37⟩ rfl rfl rfl) (Rv.tmp rfl)) ?_))))))))))))))
   rw [e]
   exact ⟨_, _, rfl, (((S.nil_ 74 3 Dot.enc none).nil_ 30 3 Dot.enc none).nil_ 100 6 Ent.enc none).wd.sub (by repeat (first | exact List.Sublist.refl _ | exact List.nil_sublist _ | refine .cons_cons _ ?_ | refine .cons _ ?_)), none, 0, none, 0, none, 0, rfl, rfl⟩
 have hu := Vs hm
 have hlen := hu.seen.len
 have rw_m := hm
 unfold Go.Fw.Rets
 refine enter1 func113 rfl ntmps113 rfl fun a S => wp_seq_k fun _ hK1 => wp_region_lit (Zi (Zy S (.t rfl) rfl fun g1 a w S => Zi (Zk S zeroValue37 (cs := _) rfl rfl fun g2 a w S => run S (.ac rfl <| .z) fun a w S => Zb (Za (hK1 _ _ (wp_seq_k fun _ hK1 => wp_seq_k fun _ hK2 => wp_region_lit (run S (.la gt77 1 rfl rfl rfl <| .xx (Zf call128 (.cons (.t rfl) .nil) (fun hp w W => c128 _ _ _ _ _ (by exact .old W (by assumption)) (by exact .old W (by assumption)))) rfl <| .z) fun a w S => ?_)))))))
 rw [rw_m] at S
 refine run S (.as rfl <| .z) fun a w S => Zb (Za (hK2 _ _ (sg S (.mv rfl <| .yy (Yp (by omega) (Yg (.t rfl) Ev.c)) rfl <| .z) fun a w S => Ze S (.t rfl) (wp_skip (Za (hK1 _ _ (wp_seq_k fun _ hK1 => wp_region_lit (Zi (Zk S zeroValue37 (cs := _) rfl rfl fun g3 a w S => Zb (Za (hK1 _ _ (wp_seq_k fun _ hK1 => sg S (.fa underlying77 sizeOf37 7 rfl rfl rfl <| .fa underlying37 sizeOf31 7 rfl rfl rfl <| .ld gt31 2 rfl rfl rfl <| .ln underlying31 rfl <| .mc rfl <| .z) fun a w S => wp_block ?_))))))))))))
 have en : (addL u.seen.ctx u.dot).2 ≠ 0 → applyU u = (Cart.zero, (addL u.seen.ctx u.dot).2) := fun h => by unfold applyU; rw [if_pos hm, if_neg h]
 have ey : (addL u.seen.ctx u.dot).2 = 0 → applyU u = sizedC ⟨applyE u, (addL u.seen.ctx u.dot).1⟩ := fun h => by unfold applyU; rw [if_pos hm, if_pos h]
 refine Xn (S.nil_ 100 6 Ent.enc none) [20] (X := Nat × Option Addr × Nat) (fun q => [(20, true, .int .i64 (q.1 : Int))])
   (fun q => [rowOf 100 6 Ent.enc q.2.1 q.2.2 (otherE u.item (u.seen.ents.take q.1)), .blk g3 (.cells #[.slice q.2.1 (otherE u.item (u.seen.ents.take q.1)).length q.2.2, .slice none 0 0, .slice none 0 0] 37), .blk g2 (.cells #[.slice none 0 0, .slice none 0 0, .slice none 0 0] 37), .blk g1 (.cells (Upd.enc u (.slice A u.seen.ents.length cap) (.slice A2 u.seen.ctx.marks.length cap2) (.slice A3 u.seen.ctx.cloud.length cap3)).toArray 77)])
   (fun q => q.1 ≤ u.seen.ents.length) (fun q => u.seen.ents.length - q.1) (0, none, 0) (Nat.zero_le _) ?_
 clear S
 rintro ⟨k, B, cB⟩ a w hk S
 dsimp only at hk S
 have hol := otherE_len u.item u.seen.ents k
 by_cases hlt : k < u.seen.ents.length
 · obtain ⟨g, o, x, rfl, hx, hd, hc⟩ := Yh hA hlt
   by_cases hi : x.item = u.item
   · have rw_i : decide (x.item ≠ u.item) = false := decide_eq_false fun h => h hi
     have hst := otherE_no hx hi
     refine sg S (.lt (by omega) rfl rfl <| .z) fun a w S => wp_seq_k fun _ hK2 => Zg S (.t rfl) (wp_skip (Za (hK2 _ _ (wp_seq_k fun _ hK2 => wp_block (wp_seq_k fun _ hK3 => wp_region_lit (run S (.ix underlying31 sizeOf100 (by omega) rfl rfl <| .yy (Zu ⟨isAgg100, sizeOf100⟩ (.t rfl) (vs := [_, _, _, _, _, _]) rfl (fun _ => hc)) rfl <| .z) fun a w S => Zi (Zk S zeroValue100 (cs := _) rfl rfl fun g4 a w S => Zi (Zp S sizeOf100 (.t rfl) (.t rfl) (k := 0) rfl rfl rfl (by simp [Value.oneCell']) fun a w S => Zb (Za (hK3 _ _ (wp_seq_k fun _ hK3 => wp_region_lit (run S (.fa underlying100 sizeOf9 0 rfl rfl rfl <| .ld gt9 0 rfl rfl rfl <| .fa underlying77 sizeOf9 4 rfl rfl rfl <| .ld gt9 4 rfl rfl rfl <| .yy (Wk (.t rfl) (.t rfl)) rfl <| .z) fun a w S => ?_))))))))))))
     rw [rw_i] at S
     refine Zb (Za (hK3 _ _ (Ze S (.t rfl) (wp_skip (Zm (Za (hK2 _ _ (wp_region_lit (run S (.ad (by unfold I64; omega) rfl <| .mv rfl <| .z) fun a w S => Zb (Za ?_))))))))))
     exact ⟨(k + 1, B, cB), by dsimp only; omega, by dsimp only; omega, by dsimp only; rw [hst]; exact S.pk⟩
   · have rw_i : decide (x.item ≠ u.item) = true := decide_eq_true hi
     have hst := otherE_yes hx hi
     refine sg S (.lt (by omega) rfl rfl <| .z) fun a w S => wp_seq_k fun _ hK2 => Zg S (.t rfl) (wp_skip (Za (hK2 _ _ (wp_seq_k fun _ hK2 => wp_block (wp_seq_k fun _ hK3 => wp_region_lit (run S (.ix underlying31 sizeOf100 (by omega) rfl rfl <| .yy (Zu ⟨isAgg100, sizeOf100⟩ (.t rfl) (vs := [_, _, _, _, _, _]) rfl (fun _ => hc)) rfl <| .z) fun a w S => Zi (Zk S zeroValue100 (cs := _) rfl rfl fun g4 a w S => Zi (Zp S sizeOf100 (.t rfl) (.t rfl) (k := 0) rfl rfl rfl (by simp [Value.oneCell']) fun a w S => Zb (Za (hK3 _ _ (wp_seq_k fun _ hK3 => wp_region_lit (run S (.fa underlying100 sizeOf9 0 rfl rfl rfl <| .ld gt9 0 rfl rfl rfl <| .fa underlying77 sizeOf9 4 rfl rfl rfl <| .ld gt9 4 rfl rfl rfl <| .yy (Wk (.t rfl) (.t rfl)) rfl <| .z) fun a w S => ?_))))))))))))
     rw [rw_i] at S
     refine Zb (Za (hK3 _ _ (Zg S (.t rfl) (wp_region_lit (run S (.fa underlying37 sizeOf31 0 rfl rfl rfl <| .ld gt31 2 rfl rfl rfl <| .la gt100 0 rfl rfl rfl <| .z) fun a w S => Zi (Yd S underlying31 inf100 rfl rfl rfl (.t rfl) rfl rfl rfl fun g5 a w S => Zi (Yv S underlying31 inf100 rfl (k := 2) (j := 0) rfl (.t rfl) (.t rfl) rfl rfl rfl rfl (by first | omega | (simp only [List.length_append, List.length_cons, List.length_nil]; omega)) rfl rfl rfl fun A1 cap1 a w S => run S (.fa underlying37 sizeOf31 0 rfl rfl rfl <| .z) fun a w S => Zi (Vv S sizeOf31 (.t rfl) (.t rfl) (k := 3) rfl rfl (by simp) fun a w S => Zb (Zm (Za (hK2 _ _ (wp_region_lit (run S (.ad (by unfold I64; omega) rfl <| .mv rfl <| .z) fun a w S => Zb (Za ?_))))))))))))))
     exact ⟨(k + 1, A1, cap1), by dsimp only; omega, by dsimp only; omega, by dsimp only; rw [hst]; exact S.pk⟩
 · obtain rfl : k = u.seen.ents.length := by omega
   rw [List.take_length] at S hol
   have hal := applyE_len hu
   by_cases hq : 0 < u.qty
   · have rw_q : decide (0 < u.qty) = true := decide_eq_true hq
     have rw_ue : #[Value.string (bs u.item), Value.int .i64 u.dot.node, Value.int .i64 u.dot.life, Value.int .i64 u.dot.count, Value.int .i64 u.qty, Value.int .u64 (u.price.toNat : Int)] = (Ent.enc u.ent).toArray := rfl
     have rw_hae : insE u.ent (otherE u.item u.seen.ents) = applyE u := by unfold applyE; rw [if_pos hq]
     by_cases hd : (addL u.seen.ctx u.dot).2 = 0
     rotate_left
     · have rw_d : decide ((addL u.seen.ctx ⟨u.dot.node, u.dot.life, u.dot.count⟩).2 = 0) = false := decide_eq_false hd
       have e := en hd
       refine sg S (.ge (by omega) rfl rfl <| .z) fun a w S => wp_seq_k fun _ hK2 => Ze S (.t rfl) (wp_exit (Zh (Zh (Ya (Za (hK1 _ _ (wp_seq_k fun _ hK1 => sg S (.fa underlying77 sizeOf3 5 rfl rfl rfl <| .ld gt3 3 rfl rfl rfl <| .yy (Yu (by omega) (Yf (.t rfl) Ev.c)) rfl <| .z) fun a w S => Zg S (.t rfl) (wp_region_lit (run S (.fa underlying37 sizeOf31 0 rfl rfl rfl <| .ld gt31 1 rfl rfl rfl <| .fa underlying77 sizeOf9 4 rfl rfl rfl <| .ld gt9 3 rfl rfl rfl <| .fa underlying77 sizeOf74 1 rfl rfl rfl <| .la gt74 3 rfl rfl rfl <| .fa underlying77 sizeOf3 5 rfl rfl rfl <| .ld gt3 3 rfl rfl rfl <| .fa underlying77 sizeOf75 6 rfl rfl rfl <| .ld gt75 3 rfl rfl rfl <| .yy (Yn (ps := [(0, Go.Operand.tmp 42), (1, Go.Operand.tmp 44), (2, Go.Operand.tmp 46), (3, Go.Operand.tmp 48)]) (us := [_, _, _, _, _, _]) bld100 (.cons (.t rfl) (.cons (.t rfl) (.cons (.t rfl) (.cons (.t rfl) .nil)))) rfl) rfl <| .z) fun a w S => ?_)))))))))
       rw [rw_ue] at S
       (refine Zi (Zr S call78 (.cons (.t rfl) (.cons (.t rfl) .nil)) (c78 _ _ _ _ (by exact Sl.of_own S.wd (k := 0) rfl (fun _ => rfl)) (by omega)) rfl ?_); clear S a w; rintro _ _ ⟨A11, r11, rfl, rfl⟩ a w S)
       rw [rw_ue] at S
       rw [rw_hae] at S
       refine run S (.fa underlying37 sizeOf31 0 rfl rfl rfl <| .z) fun a w S => ?_
       rw [rw_ue] at S
       refine Zi (Vv S sizeOf31 (.t rfl) (.t rfl) (k := 2) rfl rfl (by simp) fun a w S => ?_)
       rw [rw_ue] at S
       refine Zb ?_
       rw [rw_ue] at S
       refine Za (hK1 _ _ ?_)
       rw [rw_ue] at S
       refine wp_seq_k fun _ hK1 => ?_
       rw [rw_ue] at S
       refine wp_region_lit ?_
       rw [rw_ue] at S
       refine run S (.fa underlying77 sizeOf37 7 rfl rfl rfl <| .z) fun a w S => ?_
       rw [rw_ue] at S
       refine run S (.fa underlying37 sizeOf35 8 rfl rfl rfl <| .z) fun a w S => ?_
       rw [rw_ue] at S
       refine run S (.la gt35 4 rfl rfl rfl <| .z) fun a w S => ?_
       rw [rw_ue] at S
       refine run S (.fa underlying77 sizeOf74 1 rfl rfl rfl <| .z) fun a w S => ?_
       rw [rw_ue] at S
       refine run S (.la gt74 4 rfl rfl rfl <| .z) fun a w S => ?_
       rw [rw_ue] at S
       (refine Zi (Zr S call168 (.cons (.t rfl) (.cons (.t rfl) .nil)) (c168 _ _ _ _ _ _ _ (by exact .old S.wd (by assumption))) rfl ?_); clear S a w; rintro _ _ ⟨A12, r12, A21, r21, rfl, rfl⟩ a w S)
       rw [rw_ue] at S
       refine run S (.mv rfl <| .z) fun a w S => ?_
       rw [rw_ue] at S
       refine run S (.ex rfl rfl <| .z) fun a w S => ?_
       rw [rw_ue] at S
       refine run S (.ex rfl rfl <| .z) fun a w S => ?_
       rw [rw_ue] at S
       refine Zi (Zk S zeroValue35 (cs := _) rfl rfl fun g4 a w S => ?_)
       rw [rw_ue] at S
       refine Zi (Zp S sizeOf35 (.t rfl) (.t rfl) (k := 0) rfl rfl rfl (by simp [Value.oneCell']) fun a w S => ?_)
       rw [rw_ue] at S
       refine run S (.as rfl <| .z) fun a w S => ?_
       rw [rw_ue] at S
       refine Zb ?_
       rw [rw_ue] at S
       refine Za (hK1 _ _ ?_)
       rw [rw_ue] at S
       refine wp_seq_k fun _ hK1 => ?_
       rw [rw_ue] at S
       refine wp_seq_k fun _ hK3 => ?_
       rw [rw_ue] at S
       refine wp_region_lit ?_
       rw [rw_ue] at S
       refine run S (.mv rfl <| .z) fun a w S => ?_
       rw [rw_ue] at S
       refine run S (.yy (Yu (by omega) (Yg (.t rfl) Ev.c)) rfl <| .z) fun a w S => ?_
       rw [rw_ue] at S
       refine Zb ?_
       rw [rw_ue] at S
       refine Za (hK3 _ _ ?_)
       rw [rw_ue] at S
       refine Zg S (.t rfl) ?_
       rw [rw_ue] at S
       refine wp_seq_k fun _ hK3 => ?_
       rw [rw_ue] at S
       refine wp_region_lit ?_
       rw [rw_ue] at S
       refine run S (.yy (Yn (ps := []) (us := [_, _, _]) bld37 .nil rfl) rfl <| .z) fun a w S => ?_
       rw [rw_ue] at S
       refine run S (.mv rfl <| .z) fun a w S => ?_
       rw [rw_ue] at S
       refine Zi (Zp S sizeOf37 (.t rfl) (.t rfl) (k := 6) rfl rfl rfl (by simp [Value.oneCell']) fun a w S => ?_)
       rw [rw_ue] at S
       refine run S (.as rfl <| .z) fun a w S => ?_
       rw [rw_ue] at S
       refine Zb ?_
       rw [rw_ue] at S
       refine Za (hK3 _ _ ?_)
       rw [rw_ue] at S
       refine wp_ret ?_
       rw [rw_ue] at S
       refine Zd ?_
       rw [rw_ue] at S
       refine Zn S (results2 S results113 (Rv.cell (k := 6) ⟨isAgg37, sizeOf37⟩ rfl rfl rfl) (Rv.tmp rfl)) ?_
       rw [rw_ue] at S
       rw [e]
       exact ⟨_, _, rfl, (((S.nil_ 74 3 Dot.enc none).nil_ 30 3 Dot.enc none).nil_ 100 6 Ent.enc none).wd.sub (by repeat (first | exact List.Sublist.refl _ | exact List.nil_sublist _ | refine .cons_cons _ ?_ | refine .cons _ ?_)), none, 0, none, 0, none, 0, rfl, rfl⟩
     have rw_d : (addL u.seen.ctx ⟨u.dot.node, u.dot.life, u.dot.count⟩).2 = 0 := hd
     by_cases hbig : 64 < (applyE u).length ∨ 32 < itemsN (applyE u)
     · have rw_b : ∀ x y : Value, (if 64 < (applyE u).length ∨ 32 < itemsN (applyE u) then x else y) = x := fun _ _ => if_pos hbig
       have e : applyU u = (Cart.zero, 51) := by rw [ey hd]; unfold sizedC; exact if_pos hbig
       refine sg S (.ge (by omega) rfl rfl <| .z) fun a w S => wp_seq_k fun _ hK2 => Ze S (.t rfl) (wp_exit (Zh (Zh (Ya (Za (hK1 _ _ (wp_seq_k fun _ hK1 => sg S (.fa underlying77 sizeOf3 5 rfl rfl rfl <| .ld gt3 3 rfl rfl rfl <| .yy (Yu (by omega) (Yf (.t rfl) Ev.c)) rfl <| .z) fun a w S => Zg S (.t rfl) (wp_region_lit (run S (.fa underlying37 sizeOf31 0 rfl rfl rfl <| .ld gt31 1 rfl rfl rfl <| .fa underlying77 sizeOf9 4 rfl rfl rfl <| .ld gt9 3 rfl rfl rfl <| .fa underlying77 sizeOf74 1 rfl rfl rfl <| .la gt74 3 rfl rfl rfl <| .fa underlying77 sizeOf3 5 rfl rfl rfl <| .ld gt3 3 rfl rfl rfl <| .fa underlying77 sizeOf75 6 rfl rfl rfl <| .ld gt75 3 rfl rfl rfl <| .yy (Yn (ps := [(0, Go.Operand.tmp 42), (1, Go.Operand.tmp 44), (2, Go.Operand.tmp 46), (3, Go.Operand.tmp 48)]) (us := [_, _, _, _, _, _]) bld100 (.cons (.t rfl) (.cons (.t rfl) (.cons (.t rfl) (.cons (.t rfl) .nil)))) rfl) rfl <| .z) fun a w S => ?_)))))))))
       rw [rw_ue] at S
       (refine Zi (Zr S call78 (.cons (.t rfl) (.cons (.t rfl) .nil)) (c78 _ _ _ _ (by exact Sl.of_own S.wd (k := 0) rfl (fun _ => rfl)) (by omega)) rfl ?_); clear S a w; rintro _ _ ⟨A11, r11, rfl, rfl⟩ a w S)
       rw [rw_ue] at S
       rw [rw_hae] at S
       refine run S (.fa underlying37 sizeOf31 0 rfl rfl rfl <| .z) fun a w S => ?_
       rw [rw_ue] at S
       refine Zi (Vv S sizeOf31 (.t rfl) (.t rfl) (k := 2) rfl rfl (by simp) fun a w S => ?_)
       rw [rw_ue] at S
       refine Zb ?_
       rw [rw_ue] at S
       refine Za (hK1 _ _ ?_)
       rw [rw_ue] at S
       refine wp_seq_k fun _ hK1 => ?_
       rw [rw_ue] at S
       refine wp_region_lit ?_
       rw [rw_ue] at S
       refine run S (.fa underlying77 sizeOf37 7 rfl rfl rfl <| .z) fun a w S => ?_
       rw [rw_ue] at S
       refine run S (.fa underlying37 sizeOf35 8 rfl rfl rfl <| .z) fun a w S => ?_
       rw [rw_ue] at S
       refine run S (.la gt35 4 rfl rfl rfl <| .z) fun a w S => ?_
       rw [rw_ue] at S
       refine run S (.fa underlying77 sizeOf74 1 rfl rfl rfl <| .z) fun a w S => ?_
       rw [rw_ue] at S
       refine run S (.la gt74 4 rfl rfl rfl <| .z) fun a w S => ?_
       rw [rw_ue] at S
       (refine Zi (Zr S call168 (.cons (.t rfl) (.cons (.t rfl) .nil)) (c168 _ _ _ _ _ _ _ (by exact .old S.wd (by assumption))) rfl ?_); clear S a w; rintro _ _ ⟨A12, r12, A21, r21, rfl, rfl⟩ a w S)
       rw [rw_ue] at S
       rw [rw_d] at S
       refine run S (.mv rfl <| .z) fun a w S => ?_
       rw [rw_ue] at S
       refine run S (.ex rfl rfl <| .z) fun a w S => ?_
       rw [rw_ue] at S
       refine run S (.ex rfl rfl <| .z) fun a w S => ?_
       rw [rw_ue] at S
       refine Zi (Zk S zeroValue35 (cs := _) rfl rfl fun g4 a w S => ?_)
       rw [rw_ue] at S
       refine Zi (Zp S sizeOf35 (.t rfl) (.t rfl) (k := 0) rfl rfl rfl (by simp [Value.oneCell']) fun a w S => ?_)
       rw [rw_ue] at S
       refine run S (.as rfl <| .z) fun a w S => ?_
       rw [rw_ue] at S
       refine Zb ?_
       rw [rw_ue] at S
       refine Za (hK1 _ _ ?_)
       rw [rw_ue] at S
       refine wp_seq_k fun _ hK1 => ?_
       rw [rw_ue] at S
       refine wp_seq_k fun _ hK3 => ?_
       rw [rw_ue] at S
       refine wp_region_lit ?_
       rw [rw_ue] at S
       refine run S (.mv rfl <| .z) fun a w S => ?_
       rw [rw_ue] at S
       refine run S (.yy (Yp (by omega) (Yg (.t rfl) Ev.c)) rfl <| .z) fun a w S => ?_
       rw [rw_ue] at S
       refine Zb ?_
       rw [rw_ue] at S
       refine Za (hK3 _ _ ?_)
       rw [rw_ue] at S
       refine Ze S (.t rfl) ?_
       rw [rw_ue] at S
       refine wp_skip ?_
       rw [rw_ue] at S
       refine Za (hK1 _ _ ?_)
       rw [rw_ue] at S
       refine wp_seq_k fun _ hK1 => ?_
       rw [rw_ue] at S
       refine wp_region_lit ?_
       rw [rw_ue] at S
       refine run S (.la gt35 0 rfl rfl rfl <| .z) fun a w S => ?_
       rw [rw_ue] at S
       refine run S (.fa underlying37 sizeOf35 1 rfl rfl rfl <| .z) fun a w S => ?_
       rw [rw_ue] at S
       refine Zi (Yw S sizeOf35 (.t rfl) (.t rfl) (k := 5) rfl rfl (by simp [Value.oneCell']) (by simp) fun a w S => ?_)
       rw [rw_ue] at S
       refine Zb ?_
       rw [rw_ue] at S
       refine Za (hK1 _ _ ?_)
       rw [rw_ue] at S
       refine wp_seq_k fun _ hK1 => ?_
       rw [rw_ue] at S
       refine wp_region_lit ?_
       rw [rw_ue] at S
       refine run S (.la gt37 5 rfl rfl rfl <| .z) fun a w S => ?_
       rw [rw_ue] at S
       refine run S (.xx (Zf call79 (.cons (.t rfl) .nil) (fun hp w W => c79 _ _ _ _ _ _ _ _ _ (by exact Sl.of_own W (k := 3) rfl (fun _ => rfl)) (by omega))) rfl <| .z) fun a w S => ?_
       rw [rw_ue] at S
       rw [rw_b] at S
       refine run S (.ex rfl rfl <| .z) fun a w S => ?_
       rw [rw_ue] at S
       refine run S (.ex rfl rfl <| .z) fun a w S => ?_
       rw [rw_ue] at S
       refine Zi (Zp S sizeOf37 (.t rfl) (.t rfl) (k := 6) rfl rfl rfl (by simp [Value.oneCell']) fun a w S => ?_)
       rw [rw_ue] at S
       refine run S (.as rfl <| .z) fun a w S => ?_
       rw [rw_ue] at S
       refine Zb ?_
       rw [rw_ue] at S
       refine Za (hK1 _ _ ?_)
       rw [rw_ue] at S
       refine wp_ret ?_
       rw [rw_ue] at S
       refine Zn S (results2 S results113 (Rv.cell (k := 6) ⟨isAgg37, sizeOf37⟩ rfl rfl rfl) (Rv.tmp rfl)) ?_
       rw [rw_ue] at S
       rw [e]
       exact ⟨_, _, rfl, (((S.nil_ 74 3 Dot.enc none).nil_ 30 3 Dot.enc none).nil_ 100 6 Ent.enc none).wd.sub (by repeat (first | exact List.Sublist.refl _ | exact List.nil_sublist _ | refine .cons_cons _ ?_ | refine .cons _ ?_)), none, 0, none, 0, none, 0, rfl, rfl⟩
     · have rw_b : ∀ x y : Value, (if 64 < (applyE u).length ∨ 32 < itemsN (applyE u) then x else y) = y := fun _ _ => if_neg hbig
       have e : applyU u = (⟨applyE u, (addL u.seen.ctx u.dot).1⟩, 0) := by rw [ey hd]; unfold sizedC; exact if_neg hbig
       refine sg S (.ge (by omega) rfl rfl <| .z) fun a w S => wp_seq_k fun _ hK2 => Ze S (.t rfl) (wp_exit (Zh (Zh (Ya (Za (hK1 _ _ (wp_seq_k fun _ hK1 => sg S (.fa underlying77 sizeOf3 5 rfl rfl rfl <| .ld gt3 3 rfl rfl rfl <| .yy (Yu (by omega) (Yf (.t rfl) Ev.c)) rfl <| .z) fun a w S => Zg S (.t rfl) (wp_region_lit (run S (.fa underlying37 sizeOf31 0 rfl rfl rfl <| .ld gt31 1 rfl rfl rfl <| .fa underlying77 sizeOf9 4 rfl rfl rfl <| .ld gt9 3 rfl rfl rfl <| .fa underlying77 sizeOf74 1 rfl rfl rfl <| .la gt74 3 rfl rfl rfl <| .fa underlying77 sizeOf3 5 rfl rfl rfl <| .ld gt3 3 rfl rfl rfl <| .fa underlying77 sizeOf75 6 rfl rfl rfl <| .ld gt75 3 rfl rfl rfl <| .yy (Yn (ps := [(0, Go.Operand.tmp 42), (1, Go.Operand.tmp 44), (2, Go.Operand.tmp 46), (3, Go.Operand.tmp 48)]) (us := [_, _, _, _, _, _]) bld100 (.cons (.t rfl) (.cons (.t rfl) (.cons (.t rfl) (.cons (.t rfl) .nil)))) rfl) rfl <| .z) fun a w S => ?_)))))))))
       rw [rw_ue] at S
       (refine Zi (Zr S call78 (.cons (.t rfl) (.cons (.t rfl) .nil)) (c78 _ _ _ _ (by exact Sl.of_own S.wd (k := 0) rfl (fun _ => rfl)) (by omega)) rfl ?_); clear S a w; rintro _ _ ⟨A11, r11, rfl, rfl⟩ a w S)
       rw [rw_ue] at S
       rw [rw_hae] at S
       refine run S (.fa underlying37 sizeOf31 0 rfl rfl rfl <| .z) fun a w S => ?_
       rw [rw_ue] at S
       refine Zi (Vv S sizeOf31 (.t rfl) (.t rfl) (k := 2) rfl rfl (by simp) fun a w S => ?_)
       rw [rw_ue] at S
       refine Zb ?_
       rw [rw_ue] at S
       refine Za (hK1 _ _ ?_)
       rw [rw_ue] at S
       refine wp_seq_k fun _ hK1 => ?_
       rw [rw_ue] at S
       refine wp_region_lit ?_
       rw [rw_ue] at S
       refine run S (.fa underlying77 sizeOf37 7 rfl rfl rfl <| .z) fun a w S => ?_
       rw [rw_ue] at S
       refine run S (.fa underlying37 sizeOf35 8 rfl rfl rfl <| .z) fun a w S => ?_
       rw [rw_ue] at S
       refine run S (.la gt35 4 rfl rfl rfl <| .z) fun a w S => ?_
       rw [rw_ue] at S
       refine run S (.fa underlying77 sizeOf74 1 rfl rfl rfl <| .z) fun a w S => ?_
       rw [rw_ue] at S
       refine run S (.la gt74 4 rfl rfl rfl <| .z) fun a w S => ?_
       rw [rw_ue] at S
       (refine Zi (Zr S call168 (.cons (.t rfl) (.cons (.t rfl) .nil)) (c168 _ _ _ _ _ _ _ (by exact .old S.wd (by assumption))) rfl ?_); clear S a w; rintro _ _ ⟨A12, r12, A21, r21, rfl, rfl⟩ a w S)
       rw [rw_ue] at S
       rw [rw_d] at S
       refine run S (.mv rfl <| .z) fun a w S => ?_
       rw [rw_ue] at S
       refine run S (.ex rfl rfl <| .z) fun a w S => ?_
       rw [rw_ue] at S
       refine run S (.ex rfl rfl <| .z) fun a w S => ?_
       rw [rw_ue] at S
       refine Zi (Zk S zeroValue35 (cs := _) rfl rfl fun g4 a w S => ?_)
       rw [rw_ue] at S
       refine Zi (Zp S sizeOf35 (.t rfl) (.t rfl) (k := 0) rfl rfl rfl (by simp [Value.oneCell']) fun a w S => ?_)
       rw [rw_ue] at S
       refine run S (.as rfl <| .z) fun a w S => ?_
       rw [rw_ue] at S
       refine Zb ?_
       rw [rw_ue] at S
       refine Za (hK1 _ _ ?_)
       rw [rw_ue] at S
       refine wp_seq_k fun _ hK1 => ?_
       rw [rw_ue] at S
       refine wp_seq_k fun _ hK3 => ?_
       rw [rw_ue] at S
       refine wp_region_lit ?_
       rw [rw_ue] at S
       refine run S (.mv rfl <| .z) fun a w S => ?_
       rw [rw_ue] at S
       refine run S (.yy (Yp (by omega) (Yg (.t rfl) Ev.c)) rfl <| .z) fun a w S => ?_
       rw [rw_ue] at S
       refine Zb ?_
       rw [rw_ue] at S
       refine Za (hK3 _ _ ?_)
       rw [rw_ue] at S
       refine Ze S (.t rfl) ?_
       rw [rw_ue] at S
       refine wp_skip ?_
       rw [rw_ue] at S
       refine Za (hK1 _ _ ?_)
       rw [rw_ue] at S
       refine wp_seq_k fun _ hK1 => ?_
       rw [rw_ue] at S
       refine wp_region_lit ?_
       rw [rw_ue] at S
       refine run S (.la gt35 0 rfl rfl rfl <| .z) fun a w S => ?_
       rw [rw_ue] at S
       refine run S (.fa underlying37 sizeOf35 1 rfl rfl rfl <| .z) fun a w S => ?_
       rw [rw_ue] at S
       refine Zi (Yw S sizeOf35 (.t rfl) (.t rfl) (k := 5) rfl rfl (by simp [Value.oneCell']) (by simp) fun a w S => ?_)
       rw [rw_ue] at S
       refine Zb ?_
       rw [rw_ue] at S
       refine Za (hK1 _ _ ?_)
       rw [rw_ue] at S
       refine wp_seq_k fun _ hK1 => ?_
       rw [rw_ue] at S
       refine wp_region_lit ?_
       rw [rw_ue] at S
       refine run S (.la gt37 5 rfl rfl rfl <| .z) fun a w S => ?_
       rw [rw_ue] at S
       refine run S (.xx (Zf call79 (.cons (.t rfl) .nil) (fun hp w W => c79 _ _ _ _ _ _ _ _ _ (by exact Sl.of_own W (k := 3) rfl (fun _ => rfl)) (by omega))) rfl <| .z) fun a w S => ?_
       rw [rw_ue] at S
       rw [rw_b] at S
       refine run S (.ex rfl rfl <| .z) fun a w S => ?_
       rw [rw_ue] at S
       refine run S (.ex rfl rfl <| .z) fun a w S => ?_
       rw [rw_ue] at S
       refine Zi (Zp S sizeOf37 (.t rfl) (.t rfl) (k := 6) rfl rfl rfl (by simp [Value.oneCell']) fun a w S => ?_)
       rw [rw_ue] at S
       refine run S (.as rfl <| .z) fun a w S => ?_
       rw [rw_ue] at S
       refine Zb ?_
       rw [rw_ue] at S
       refine Za (hK1 _ _ ?_)
       rw [rw_ue] at S
       refine wp_ret ?_
       rw [rw_ue] at S
       refine Zn S (results2 S results113 (Rv.cell (k := 6) ⟨isAgg37, sizeOf37⟩ rfl rfl rfl) (Rv.tmp rfl)) ?_
       rw [rw_ue] at S
       rw [e]
       exact ⟨_, _, rfl, S.wd.pk, _, _, _, _, _, _, rfl, rfl⟩
   · have rw_q : decide (0 < u.qty) = false := decide_eq_false hq
     have hae : otherE u.item u.seen.ents = applyE u := by unfold applyE; rw [if_neg hq]
     rw [hae] at S
     by_cases hd : (addL u.seen.ctx u.dot).2 = 0
     rotate_left
     · have rw_d : decide ((addL u.seen.ctx ⟨u.dot.node, u.dot.life, u.dot.count⟩).2 = 0) = false := decide_eq_false hd
       have e := en hd
       refine sg S (.ge (by omega) rfl rfl <| .z) fun a w S => wp_seq_k fun _ hK2 => Ze S (.t rfl) (wp_exit (Zh (Zh (Ya (Za (hK1 _ _ (wp_seq_k fun _ hK1 => sg S (.fa underlying77 sizeOf3 5 rfl rfl rfl <| .ld gt3 3 rfl rfl rfl <| .yy (Yp (by omega) (Yf (.t rfl) Ev.c)) rfl <| .z) fun a w S => Ze S (.t rfl) (wp_skip (Za (hK1 _ _ (wp_seq_k fun _ hK1 => wp_region_lit (run S (.fa underlying77 sizeOf37 7 rfl rfl rfl <| .fa underlying37 sizeOf35 8 rfl rfl rfl <| .la gt35 3 rfl rfl rfl <| .fa underlying77 sizeOf74 1 rfl rfl rfl <| .la gt74 3 rfl rfl rfl <| .z) fun a w S => ?_))))))))))))
       (refine Zi (Zr S call168 (.cons (.t rfl) (.cons (.t rfl) .nil)) (c168 _ _ _ _ _ _ _ (by exact .old S.wd (by assumption))) rfl ?_); clear S a w; rintro _ _ ⟨A11, r11, A21, r21, rfl, rfl⟩ a w S)
       refine run S (.mv rfl <| .ex rfl rfl <| .ex rfl rfl <| .z) fun a w S => Zi (Zk S zeroValue35 (cs := _) rfl rfl fun g4 a w S => Zi (Zp S sizeOf35 (.t rfl) (.t rfl) (k := 0) rfl rfl rfl (by simp [Value.oneCell']) fun a w S => run S (.as rfl <| .z) fun a w S => Zb (Za (hK1 _ _ (wp_seq_k fun _ hK1 => sg S (.mv rfl <| .yy (Yu (by omega) (Yg (.t rfl) Ev.c)) rfl <| .z) fun a w S => Zg S (.t rfl) (wp_seq_k fun _ hK3 => wp_region_lit (run S (.yy (Yn (ps := []) (us := [_, _, _]) bld37 .nil rfl) rfl <| .mv rfl <| .z) fun a w S => Zi (Zp S sizeOf37 (.t rfl) (.t rfl) (k := 5) rfl rfl rfl (by simp [Value.oneCell']) fun a w S => run S (.as rfl <| .z) fun a w S => Zb (Za (hK3 _ _ (wp_ret (Zd (Zn S (results2 S results113 (Rv.cell (k := 5) ⟨isAgg37, sizeOf37⟩ rfl rfl rfl) (Rv.tmp rfl)) ?_)))))))))))))
       rw [e]
       exact ⟨_, _, rfl, (((S.nil_ 74 3 Dot.enc none).nil_ 30 3 Dot.enc none).nil_ 100 6 Ent.enc none).wd.sub (by repeat (first | exact List.Sublist.refl _ | exact List.nil_sublist _ | refine .cons_cons _ ?_ | refine .cons _ ?_)), none, 0, none, 0, none, 0, rfl, rfl⟩
     have rw_d : (addL u.seen.ctx ⟨u.dot.node, u.dot.life, u.dot.count⟩).2 = 0 := hd
     by_cases hbig : 64 < (applyE u).length ∨ 32 < itemsN (applyE u)
     · have rw_b : ∀ x y : Value, (if 64 < (applyE u).length ∨ 32 < itemsN (applyE u) then x else y) = x := fun _ _ => if_pos hbig
       have e : applyU u = (Cart.zero, 51) := by rw [ey hd]; unfold sizedC; exact if_pos hbig
       refine sg S (.ge (by omega) rfl rfl <| .z) fun a w S => wp_seq_k fun _ hK2 => Ze S (.t rfl) (wp_exit (Zh (Zh (Ya (Za (hK1 _ _ (wp_seq_k fun _ hK1 => sg S (.fa underlying77 sizeOf3 5 rfl rfl rfl <| .ld gt3 3 rfl rfl rfl <| .yy (Yp (by omega) (Yf (.t rfl) Ev.c)) rfl <| .z) fun a w S => Ze S (.t rfl) (wp_skip (Za (hK1 _ _ (wp_seq_k fun _ hK1 => wp_region_lit (run S (.fa underlying77 sizeOf37 7 rfl rfl rfl <| .fa underlying37 sizeOf35 8 rfl rfl rfl <| .la gt35 3 rfl rfl rfl <| .fa underlying77 sizeOf74 1 rfl rfl rfl <| .la gt74 3 rfl rfl rfl <| .z) fun a w S => ?_))))))))))))
       (refine Zi (Zr S call168 (.cons (.t rfl) (.cons (.t rfl) .nil)) (c168 _ _ _ _ _ _ _ (by exact .old S.wd (by assumption))) rfl ?_); clear S a w; rintro _ _ ⟨A11, r11, A21, r21, rfl, rfl⟩ a w S)
       rw [rw_d] at S
       refine run S (.mv rfl <| .ex rfl rfl <| .ex rfl rfl <| .z) fun a w S => Zi (Zk S zeroValue35 (cs := _) rfl rfl fun g4 a w S => Zi (Zp S sizeOf35 (.t rfl) (.t rfl) (k := 0) rfl rfl rfl (by simp [Value.oneCell']) fun a w S => run S (.as rfl <| .z) fun a w S => Zb (Za (hK1 _ _ (wp_seq_k fun _ hK1 => sg S (.mv rfl <| .yy (Yp (by omega) (Yg (.t rfl) Ev.c)) rfl <| .z) fun a w S => Ze S (.t rfl) (wp_skip (Za (hK1 _ _ (wp_seq_k fun _ hK1 => wp_region_lit (run S (.la gt35 0 rfl rfl rfl <| .fa underlying37 sizeOf35 1 rfl rfl rfl <| .z) fun a w S => Zi (Yw S sizeOf35 (.t rfl) (.t rfl) (k := 4) rfl rfl (by simp [Value.oneCell']) (by simp) fun a w S => Zb (Za (hK1 _ _ (wp_seq_k fun _ hK1 => wp_region_lit (run S (.la gt37 4 rfl rfl rfl <| .xx (Zf call79 (.cons (.t rfl) .nil) (fun hp w W => c79 _ _ _ _ _ _ _ _ _ (by exact Sl.of_own W (k := 3) rfl (fun _ => rfl)) (by omega))) rfl <| .z) fun a w S => ?_)))))))))))))))
       rw [rw_b] at S
       refine run S (.ex rfl rfl <| .ex rfl rfl <| .z) fun a w S => Zi (Zp S sizeOf37 (.t rfl) (.t rfl) (k := 5) rfl rfl rfl (by simp [Value.oneCell']) fun a w S => run S (.as rfl <| .z) fun a w S => Zb (Za (hK1 _ _ (wp_ret (Zn S (results2 S results113 (Rv.cell (k := 5) ⟨isAgg37, sizeOf37⟩ rfl rfl rfl) (Rv.tmp rfl)) ?_)))))
       rw [e]
       exact ⟨_, _, rfl, (((S.nil_ 74 3 Dot.enc none).nil_ 30 3 Dot.enc none).nil_ 100 6 Ent.enc none).wd.sub (by repeat (first | exact List.Sublist.refl _ | exact List.nil_sublist _ | refine .cons_cons _ ?_ | refine .cons _ ?_)), none, 0, none, 0, none, 0, rfl, rfl⟩
     · have rw_b : ∀ x y : Value, (if 64 < (applyE u).length ∨ 32 < itemsN (applyE u) then x else y) = y := fun _ _ => if_neg hbig
       have e : applyU u = (⟨applyE u, (addL u.seen.ctx u.dot).1⟩, 0) := by rw [ey hd]; unfold sizedC; exact if_neg hbig
       refine sg S (.ge (by omega) rfl rfl <| .z) fun a w S => wp_seq_k fun _ hK2 => Ze S (.t rfl) (wp_exit (Zh (Zh (Ya (Za (hK1 _ _ (wp_seq_k fun _ hK1 => sg S (.fa underlying77 sizeOf3 5 rfl rfl rfl <| .ld gt3 3 rfl rfl rfl <| .yy (Yp (by omega) (Yf (.t rfl) Ev.c)) rfl <| .z) fun a w S => Ze S (.t rfl) (wp_skip (Za (hK1 _ _ (wp_seq_k fun _ hK1 => wp_region_lit (run S (.fa underlying77 sizeOf37 7 rfl rfl rfl <| .fa underlying37 sizeOf35 8 rfl rfl rfl <| .la gt35 3 rfl rfl rfl <| .fa underlying77 sizeOf74 1 rfl rfl rfl <| .la gt74 3 rfl rfl rfl <| .z) fun a w S => ?_))))))))))))
       (refine Zi (Zr S call168 (.cons (.t rfl) (.cons (.t rfl) .nil)) (c168 _ _ _ _ _ _ _ (by exact .old S.wd (by assumption))) rfl ?_); clear S a w; rintro _ _ ⟨A11, r11, A21, r21, rfl, rfl⟩ a w S)
       rw [rw_d] at S
       refine run S (.mv rfl <| .ex rfl rfl <| .ex rfl rfl <| .z) fun a w S => Zi (Zk S zeroValue35 (cs := _) rfl rfl fun g4 a w S => Zi (Zp S sizeOf35 (.t rfl) (.t rfl) (k := 0) rfl rfl rfl (by simp [Value.oneCell']) fun a w S => run S (.as rfl <| .z) fun a w S => Zb (Za (hK1 _ _ (wp_seq_k fun _ hK1 => sg S (.mv rfl <| .yy (Yp (by omega) (Yg (.t rfl) Ev.c)) rfl <| .z) fun a w S => Ze S (.t rfl) (wp_skip (Za (hK1 _ _ (wp_seq_k fun _ hK1 => wp_region_lit (run S (.la gt35 0 rfl rfl rfl <| .fa underlying37 sizeOf35 1 rfl rfl rfl <| .z) fun a w S => Zi (Yw S sizeOf35 (.t rfl) (.t rfl) (k := 4) rfl rfl (by simp [Value.oneCell']) (by simp) fun a w S => Zb (Za (hK1 _ _ (wp_seq_k fun _ hK1 => wp_region_lit (run S (.la gt37 4 rfl rfl rfl <| .xx (Zf call79 (.cons (.t rfl) .nil) (fun hp w W => c79 _ _ _ _ _ _ _ _ _ (by exact Sl.of_own W (k := 3) rfl (fun _ => rfl)) (by omega))) rfl <| .z) fun a w S => ?_)))))))))))))))
       rw [rw_b] at S
       refine run S (.ex rfl rfl <| .ex rfl rfl <| .z) fun a w S => Zi (Zp S sizeOf37 (.t rfl) (.t rfl) (k := 5) rfl rfl rfl (by simp [Value.oneCell']) fun a w S => run S (.as rfl <| .z) fun a w S => Zb (Za (hK1 _ _ (wp_ret (Zn S (results2 S results113 (Rv.cell (k := 5) ⟨isAgg37, sizeOf37⟩ rfl rfl rfl) (Rv.tmp rfl)) ?_)))))
       rw [e]
       exact ⟨_, _, rfl, S.wd.pk, _, _, _, _, _, _, rfl, rfl⟩
end Go.Proofs.YtakpdbmdfnialaaGreat
namespace Go.Fw
theorem filter_yes {α : Type} {p : α → Bool} {l : List α} {k : Nat} {x : α} (h : l[k]? = some x) (hp : p x = true) : (l.take (k + 1)).filter p = (l.take k).filter p ++ [x] := by
 rw [List.take_add_one, h, Option.toList_some]
 simp [hp]
theorem filter_no {α : Type} {p : α → Bool} {l : List α} {k : Nat} {x : α} (h : l[k]? = some x) (hp : p x = false) : (l.take (k + 1)).filter p = (l.take k).filter p := by
 rw [List.take_add_one, h, Option.toList_some]
 simp [hp]
theorem filter_take {α : Type} (p : α → Bool) (l : List α) (k : Nat) : ((l.take k).filter p).length ≤ l.length := by
 have h1 := List.length_filter_le p (l.take k)
 have h2 : (l.take k).length ≤ l.length := by rw [List.length_take]; omega
 omega
def stayB (b : Cart) (x : Ent) : Bool := decide (x ∈ b.ents) || !b.ctx.covers x.dot
def newB (a : Cart) (x : Ent) : Bool := !a.ctx.covers x.dot
theorem stays_filter (a b : Cart) : staysE a b = a.ents.filter (stayB b) := rfl
end Go.Fw
namespace Go.Proofs.YtakpdbmdfnialaaGreat
open Go.Fw Go.Proofs Go.RowKit Go.Proofs.Tryz
end Go.Proofs.YtakpdbmdfnialaaGreat
namespace Go.Fw
def joinF (a b : Cart) (k : Nat) : List Ent := ((b.ents.take k).filter (newB a)).foldl (fun l x => insE x l) (staysE a b)
end Go.Fw
namespace Go.Proofs.YtakpdbmdfnialaaGreat
open Go.Fw Go.Proofs Go.RowKit Go.Proofs.Tryz
theorem c29 (w0 : World) (v1 v2 v3 v4 v5 v6 : Value) (X Y : Cart) (h : Sl Ent.enc 6 w0 w0.heap.size v1 X.ents) (hr : RdCtx w0 w0.heap.size v2 v3 X.ctx) (h' : Sl Ent.enc 6 w0 w0.heap.size v4 Y.ents) (hr' : RdCtx w0 w0.heap.size v5 v6 Y.ctx) :
   Rets Tryz.prog 29 #[.agg #[v1, v2, v3], .agg #[v4, v5, v6]] w0 fun v L => ∃ A1 r1 A2 r2 A3 r3, v = .tuple #[.agg #[.slice A1 (joinK X Y).1.ents.length r1, .slice A2 (joinK X Y).1.ctx.marks.length r2, .slice A3 (joinK X Y).1.ctx.cloud.length r3], .int .i64 (joinK X Y).2] ∧
     L = [rowOf 100 6 Ent.enc A1 r1 (joinK X Y).1.ents, rowOf 30 3 Dot.enc A2 r2 (joinK X Y).1.ctx.marks, rowOf 74 3 Dot.enc A3 r3 (joinK X Y).1.ctx.cloud] := by
 have hs := h
 have hrr := hr
 have hs' := h'
 have hrr' := hr'
 obtain ⟨A, cap, rfl, hl, hcap, hA⟩ := h
 obtain ⟨⟨A2, cap2, rfl, _⟩, ⟨A3, cap3, rfl, _⟩⟩ := hr
 obtain ⟨B, capB, rfl, hlB, hcapB, hB⟩ := h'
 obtain ⟨⟨B2, capB2, rfl, _⟩, ⟨B3, capB3, rfl, _⟩⟩ := hr'
 by_cases hX : canE X = 0
 rotate_left
 · have rw_x : decide (canE X ≠ 0) = true := decide_eq_true hX
   have e : joinK X Y = (Cart.zero, canE X) := by unfold joinK; rw [if_neg hX]
   unfold Go.Fw.Rets
   refine enter2 func29 rfl ntmps29 rfl fun a S => wp_seq_k fun _ hK1 => wp_region_lit (Zi (Zy S (.t rfl) rfl fun g1 a w S => Zi (Zy S (.t rfl) rfl fun g2 a w S => Zi (Zk S zeroValue37 (cs := _) rfl rfl fun g3 a w S => run S (.ac rfl <| .z) fun a w S => Zb (Za (hK1 _ _ (wp_seq_k fun _ hK1 => sg S (.la gt37 2 rfl rfl rfl <| .xx (Zf call32 (.cons (.t rfl) .nil) (fun hp w W => c32 _ _ _ _ _ (by exact .old W (by assumption)) (by exact .old W (by assumption)))) rfl <| .as rfl <| .z) fun a w S => sg S (.mv rfl <| .yy (Yu (by omega) (Yg (.t rfl) Ev.c)) rfl <| .z) fun a w S => Zg S (.t rfl) (wp_seq_k fun _ hK2 => wp_region_lit (run S (.yy (Yn (ps := []) (us := [_, _, _]) bld37 .nil rfl) rfl <| .mv rfl <| .z) fun a w S => Zi (Zp S sizeOf37 (.t rfl) (.t rfl) (k := 0) rfl rfl rfl (by simp [Value.oneCell']) fun a w S => run S (.as rfl <| .z) fun a w S => Zb (Za (hK2 _ _ (wp_ret (Zd (Zn S (results2 S results29 (Rv.cell (k := 0) ⟨isAgg37, sizeOf37⟩ rfl rfl rfl) (Rv.tmp rfl)) ?_)))))))))))))))
   rw [e]
   exact ⟨_, _, rfl, (((S.nil_ 74 3 Dot.enc none).nil_ 30 3 Dot.enc none).nil_ 100 6 Ent.enc none).wd.sub (by repeat (first | exact List.Sublist.refl _ | exact List.nil_sublist _ | refine .cons_cons _ ?_ | refine .cons _ ?_)), none, 0, none, 0, none, 0, rfl, rfl⟩
 have rw_x := hX
 by_cases hY : canE Y = 0
 rotate_left
 · have rw_y : decide (canE Y ≠ 0) = true := decide_eq_true hY
   have e : joinK X Y = (Cart.zero, canE Y) := by unfold joinK; rw [if_pos hX, if_neg hY]
   unfold Go.Fw.Rets
   refine enter2 func29 rfl ntmps29 rfl fun a S => wp_seq_k fun _ hK1 => wp_region_lit (Zi (Zy S (.t rfl) rfl fun g1 a w S => Zi (Zy S (.t rfl) rfl fun g2 a w S => Zi (Zk S zeroValue37 (cs := _) rfl rfl fun g3 a w S => run S (.ac rfl <| .z) fun a w S => Zb (Za (hK1 _ _ (wp_seq_k fun _ hK1 => wp_seq_k fun _ hK2 => wp_region_lit (run S (.la gt37 2 rfl rfl rfl <| .xx (Zf call32 (.cons (.t rfl) .nil) (fun hp w W => c32 _ _ _ _ _ (by exact .old W (by assumption)) (by exact .old W (by assumption)))) rfl <| .z) fun a w S => ?_))))))))
   rw [rw_x] at S
   refine run S (.as rfl <| .z) fun a w S => Zb (Za (hK2 _ _ (sg S (.mv rfl <| .yy (Yp (by omega) (Yg (.t rfl) Ev.c)) rfl <| .z) fun a w S => Ze S (.t rfl) (wp_skip (Za (hK1 _ _ (wp_seq_k fun _ hK1 => sg S (.la gt37 1 rfl rfl rfl <| .xx (Zf call32 (.cons (.t rfl) .nil) (fun hp w W => c32 _ _ _ _ _ (by exact .old W (by assumption)) (by exact .old W (by assumption)))) rfl <| .as rfl <| .z) fun a w S => sg S (.mv rfl <| .yy (Yu (by omega) (Yg (.t rfl) Ev.c)) rfl <| .z) fun a w S => Zg S (.t rfl) (wp_seq_k fun _ hK2 => wp_region_lit (run S (.yy (Yn (ps := []) (us := [_, _, _]) bld37 .nil rfl) rfl <| .mv rfl <| .z) fun a w S => Zi (Zp S sizeOf37 (.t rfl) (.t rfl) (k := 0) rfl rfl rfl (by simp [Value.oneCell']) fun a w S => run S (.as rfl <| .z) fun a w S => Zb (Za (hK2 _ _ (wp_ret (Zd (Zn S (results2 S results29 (Rv.cell (k := 0) ⟨isAgg37, sizeOf37⟩ rfl rfl rfl) (Rv.tmp rfl)) ?_)))))))))))))))
   rw [e]
   exact ⟨_, _, rfl, (((S.nil_ 74 3 Dot.enc none).nil_ 30 3 Dot.enc none).nil_ 100 6 Ent.enc none).wd.sub (by repeat (first | exact List.Sublist.refl _ | exact List.nil_sublist _ | refine .cons_cons _ ?_ | refine .cons _ ?_)), none, 0, none, 0, none, 0, rfl, rfl⟩
 have rw_y := hY
 have oX := (Wv X).1 hX
 have oY := (Wv Y).1 hY
 have lX := oX.len
 have lY := oY.len
 by_cases hj : (joinL X.ctx Y.ctx).2 = 0
 rotate_left
 · have rw_j : decide ((joinL X.ctx Y.ctx).2 ≠ 0) = true := decide_eq_true hj
   have e : joinK X Y = (Cart.zero, (joinL X.ctx Y.ctx).2) := by unfold joinK; rw [if_pos hX, if_pos hY, if_neg hj]
   unfold Go.Fw.Rets
   refine enter2 func29 rfl ntmps29 rfl fun a S => wp_seq_k fun _ hK1 => wp_region_lit (Zi (Zy S (.t rfl) rfl fun g1 a w S => Zi (Zy S (.t rfl) rfl fun g2 a w S => Zi (Zk S zeroValue37 (cs := _) rfl rfl fun g3 a w S => run S (.ac rfl <| .z) fun a w S => Zb (Za (hK1 _ _ (wp_seq_k fun _ hK1 => wp_seq_k fun _ hK2 => wp_region_lit (run S (.la gt37 2 rfl rfl rfl <| .xx (Zf call32 (.cons (.t rfl) .nil) (fun hp w W => c32 _ _ _ _ _ (by exact .old W (by assumption)) (by exact .old W (by assumption)))) rfl <| .z) fun a w S => ?_))))))))
   rw [rw_x] at S
   refine run S (.as rfl <| .z) fun a w S => Zb (Za (hK2 _ _ (sg S (.mv rfl <| .yy (Yp (by omega) (Yg (.t rfl) Ev.c)) rfl <| .z) fun a w S => Ze S (.t rfl) (wp_skip (Za (hK1 _ _ (wp_seq_k fun _ hK1 => wp_seq_k fun _ hK2 => wp_region_lit (run S (.la gt37 1 rfl rfl rfl <| .xx (Zf call32 (.cons (.t rfl) .nil) (fun hp w W => c32 _ _ _ _ _ (by exact .old W (by assumption)) (by exact .old W (by assumption)))) rfl <| .z) fun a w S => ?_))))))))
   rw [rw_y] at S
   refine run S (.as rfl <| .z) fun a w S => Zb (Za (hK2 _ _ (sg S (.mv rfl <| .yy (Yp (by omega) (Yg (.t rfl) Ev.c)) rfl <| .z) fun a w S => Ze S (.t rfl) (wp_skip (Za (hK1 _ _ (wp_seq_k fun _ hK1 => wp_region_lit (run S (.fa underlying37 sizeOf35 1 rfl rfl rfl <| .la gt35 2 rfl rfl rfl <| .fa underlying37 sizeOf35 1 rfl rfl rfl <| .la gt35 1 rfl rfl rfl <| .z) fun a w S => ?_))))))))
   (refine Zi (Zr S call75 (.cons (.t rfl) (.cons (.t rfl) .nil)) (c75 _ _ _ _ _ _ _ (by exact .old S.wd (by assumption)) (by exact .old S.wd (by assumption))) rfl ?_); clear S a w; rintro _ _ ⟨A11, r11, A21, r21, rfl, rfl⟩ a w S)
   refine run S (.mv rfl <| .ex rfl rfl <| .ex rfl rfl <| .z) fun a w S => Zi (Zk S zeroValue35 (cs := _) rfl rfl fun g4 a w S => Zi (Zp S sizeOf35 (.t rfl) (.t rfl) (k := 0) rfl rfl rfl (by simp [Value.oneCell']) fun a w S => run S (.as rfl <| .z) fun a w S => Zb (Za (hK1 _ _ (wp_seq_k fun _ hK1 => sg S (.mv rfl <| .yy (Yu (by omega) (Yg (.t rfl) Ev.c)) rfl <| .z) fun a w S => Zg S (.t rfl) (wp_seq_k fun _ hK2 => wp_region_lit (run S (.yy (Yn (ps := []) (us := [_, _, _]) bld37 .nil rfl) rfl <| .mv rfl <| .z) fun a w S => Zi (Zp S sizeOf37 (.t rfl) (.t rfl) (k := 3) rfl rfl rfl (by simp [Value.oneCell']) fun a w S => run S (.as rfl <| .z) fun a w S => Zb (Za (hK2 _ _ (wp_ret (Zd (Zn S (results2 S results29 (Rv.cell (k := 3) ⟨isAgg37, sizeOf37⟩ rfl rfl rfl) (Rv.tmp rfl)) ?_)))))))))))))
   rw [e]
   exact ⟨_, _, rfl, (((S.nil_ 74 3 Dot.enc none).nil_ 30 3 Dot.enc none).nil_ 100 6 Ent.enc none).wd.sub (by repeat (first | exact List.Sublist.refl _ | exact List.nil_sublist _ | refine .cons_cons _ ?_ | refine .cons _ ?_)), none, 0, none, 0, none, 0, rfl, rfl⟩
 have rw_j := hj
 have eJ : joinK X Y = if 64 < (joinE X Y).length ∨ 32 < itemsN (joinE X Y) then (Cart.zero, 51) else if clashE X Y then (Cart.zero, 50) else (⟨joinE X Y, (joinL X.ctx Y.ctx).1⟩, 0) := by
   unfold joinK
   rw [if_pos hX, if_pos hY, if_pos hj]
   unfold sizedC
   by_cases h2 : 64 < (joinE X Y).length ∨ 32 < itemsN (joinE X Y)
   · rw [if_pos h2, if_pos h2, if_neg (by dsimp only; omega)]
   · rw [if_neg h2, if_neg h2, if_pos rfl]
 unfold Go.Fw.Rets
 refine enter2 func29 rfl ntmps29 rfl fun a S => wp_seq_k fun _ hK1 => wp_region_lit (Zi (Zy S (.t rfl) rfl fun g1 a w S => Zi (Zy S (.t rfl) rfl fun g2 a w S => Zi (Zk S zeroValue37 (cs := _) rfl rfl fun g3 a w S => run S (.ac rfl <| .z) fun a w S => Zb (Za (hK1 _ _ (wp_seq_k fun _ hK1 => wp_seq_k fun _ hK2 => wp_region_lit (run S (.la gt37 2 rfl rfl rfl <| .xx (Zf call32 (.cons (.t rfl) .nil) (fun hp w W => c32 _ _ _ _ _ (by exact .old W (by assumption)) (by exact .old W (by assumption)))) rfl <| .z) fun a w S => ?_))))))))
 rw [rw_x] at S
 refine run S (.as rfl <| .z) fun a w S => Zb (Za (hK2 _ _ (sg S (.mv rfl <| .yy (Yp (by omega) (Yg (.t rfl) Ev.c)) rfl <| .z) fun a w S => Ze S (.t rfl) (wp_skip (Za (hK1 _ _ (wp_seq_k fun _ hK1 => wp_seq_k fun _ hK2 => wp_region_lit (run S (.la gt37 1 rfl rfl rfl <| .xx (Zf call32 (.cons (.t rfl) .nil) (fun hp w W => c32 _ _ _ _ _ (by exact .old W (by assumption)) (by exact .old W (by assumption)))) rfl <| .z) fun a w S => ?_))))))))
 rw [rw_y] at S
 refine run S (.as rfl <| .z) fun a w S => Zb (Za (hK2 _ _ (sg S (.mv rfl <| .yy (Yp (by omega) (Yg (.t rfl) Ev.c)) rfl <| .z) fun a w S => Ze S (.t rfl) (wp_skip (Za (hK1 _ _ (wp_seq_k fun _ hK1 => wp_region_lit (run S (.fa underlying37 sizeOf35 1 rfl rfl rfl <| .la gt35 2 rfl rfl rfl <| .fa underlying37 sizeOf35 1 rfl rfl rfl <| .la gt35 1 rfl rfl rfl <| .z) fun a w S => ?_))))))))
 (refine Zi (Zr S call75 (.cons (.t rfl) (.cons (.t rfl) .nil)) (c75 _ _ _ _ _ _ _ (by exact .old S.wd (by assumption)) (by exact .old S.wd (by assumption))) rfl ?_); clear S a w; rintro _ _ ⟨A11, r11, A21, r21, rfl, rfl⟩ a w S)
 rw [rw_j] at S
 refine run S (.mv rfl <| .ex rfl rfl <| .ex rfl rfl <| .z) fun a w S => Zi (Zk S zeroValue35 (cs := _) rfl rfl fun g4 a w S => Zi (Zp S sizeOf35 (.t rfl) (.t rfl) (k := 0) rfl rfl rfl (by simp [Value.oneCell']) fun a w S => run S (.as rfl <| .z) fun a w S => Zb (Za (hK1 _ _ (wp_seq_k fun _ hK1 => sg S (.mv rfl <| .yy (Yp (by omega) (Yg (.t rfl) Ev.c)) rfl <| .z) fun a w S => Ze S (.t rfl) (wp_skip (Za (hK1 _ _ (wp_seq_k fun _ hK1 => wp_region_lit (run S (.la gt35 0 rfl rfl rfl <| .yy (Yn (ps := [(1, Go.Operand.tmp 45)]) (us := [_, _, _]) bld37 (.cons (.t rfl) .nil) rfl) rfl <| .z) fun a w S => Zi (Zk S zeroValue37 (cs := _) rfl rfl fun g5 a w S => Zi (Zp S sizeOf37 (.t rfl) (.t rfl) (k := 0) rfl rfl rfl (by simp [Value.oneCell']) fun a w S => Zb (Za (hK1 _ _ (wp_seq_k fun _ hK1 => sg S (.fa underlying37 sizeOf31 0 rfl rfl rfl <| .ld gt31 6 rfl rfl rfl <| .ln underlying31 rfl <| .mc rfl <| .z) fun a w S => wp_block ?_)))))))))))))))
 generalize (joinL X.ctx Y.ctx).1 = R at S eJ
 have hcX := can_ctx hX
 have hcY := can_ctx hY
 have rw_covX := can_covers hcX
 have rw_covY := can_covers hcY
 refine Xn (S.nil_ 100 6 Ent.enc none) [50] (X := Nat × Option Addr × Nat) (fun q => [(50, true, .int .i64 (q.1 : Int))])
   (fun q => [rowOf 100 6 Ent.enc q.2.1 q.2.2 ((X.ents.take q.1).filter (stayB Y)), .blk g5 (.cells #[.slice q.2.1 ((X.ents.take q.1).filter (stayB Y)).length q.2.2, .slice A11 R.marks.length r11, .slice A21 R.cloud.length r21] 37), rowOf 30 3 Dot.enc A11 r11 R.marks, rowOf 74 3 Dot.enc A21 r21 R.cloud, .blk g3 (.cells #[.slice none 0 0, .slice none 0 0, .slice none 0 0] 37), .blk g2 (.cells #[.slice B Y.ents.length capB, .slice B2 Y.ctx.marks.length capB2, .slice B3 Y.ctx.cloud.length capB3] 37), .blk g1 (.cells #[.slice A X.ents.length cap, .slice A2 X.ctx.marks.length cap2, .slice A3 X.ctx.cloud.length cap3] 37)])
   (fun q => q.1 ≤ X.ents.length) (fun q => X.ents.length - q.1) (0, none, 0) (Nat.zero_le _) ?_
 clear S
 rintro ⟨k, D, cD⟩ a w hk S
 dsimp only at hk S
 have hol := filter_take (stayB Y) X.ents k
 by_cases hlt : k < X.ents.length
 · obtain ⟨g, o, x, rfl, hx, hd, hc⟩ := Yh hA hlt
   cases hp : stayB Y x with
   | false =>
     have rw_p : (decide (x ∈ Y.ents) || !Y.ctx.covers ⟨x.dot.node, x.dot.life, x.dot.count⟩) = false := hp
     have hst := filter_no hx hp
     refine sg S (.lt (by omega) rfl rfl <| .z) fun a w S => wp_seq_k fun _ hK2 => Zg S (.t rfl) (wp_skip (Za (hK2 _ _ (wp_seq_k fun _ hK2 => wp_block (wp_seq_k fun _ hK3 => wp_region_lit (run S (.ix underlying31 sizeOf100 (by omega) rfl rfl <| .yy (Zu ⟨isAgg100, sizeOf100⟩ (.t rfl) (vs := [_, _, _, _, _, _]) rfl (fun _ => hc)) rfl <| .z) fun a w S => Zi (Zk S zeroValue100 (cs := _) rfl rfl fun g6 a w S => Zi (Zp S sizeOf100 (.t rfl) (.t rfl) (k := 0) rfl rfl rfl (by simp [Value.oneCell']) fun a w S => Zb (Za (hK3 _ _ (wp_seq_k fun _ hK3 => wp_region_lit (run S (.la gt37 6 rfl rfl rfl <| .la gt100 0 rfl rfl rfl <| .xx (Zf call76 (.cons (.t rfl) (.cons (.t rfl) .nil)) (fun hp w W => c76 _ _ _ _ _ _ _ _ _ _ (by exact .old W (by assumption)))) rfl <| .mv rfl <| .z) fun a w S => Yt S rfl rfl (Yr.ys (Zc (FieldT.mk underlying37 rfl sizeOf35 rfl) (.t rfl) (i' := 1) rfl)) rfl fun a w S => Yt S rfl rfl (Yr.ys (Yc ⟨isAgg35, sizeOf35⟩ (Ev.g rfl) (k := 6) rfl rfl)) rfl fun a w S => Yt S rfl rfl (Yr.ys (Zc (FieldT.mk underlying100 rfl sizeOf74 rfl) (.t rfl) (i' := 1) rfl)) rfl fun a w S => Yt S rfl rfl (Yr.ys (Yc ⟨isAgg74, sizeOf74⟩ (Ev.g rfl) (k := 0) rfl rfl)) rfl fun a w S => ?_))))))))))))
     refine Yt S rfl rfl (Zf call77 (.cons (Ev.g rfl) (.cons (Ev.g rfl) .nil)) (fun hp w W => c77 _ _ _ _ _ _ _ (by exact .old W (by assumption)))) rfl fun a w S => ?_
     rw [rw_covY] at S
     refine Yt S rfl rfl (Yr.ys (Xi (Ev.g rfl))) rfl fun a w S => run S (.yy (Vb (.t rfl) Ev.c (Ev.g rfl)) rfl <| .z) fun a w S => ?_
     rw [rw_p] at S
     refine Zb (Za (hK3 _ _ (Ze S (.t rfl) (wp_skip (Zm (Za (hK2 _ _ (wp_region_lit (run S (.ad (by unfold I64; omega) rfl <| .mv rfl <| .z) fun a w S => Zb (Za ?_))))))))))
     exact ⟨(k + 1, D, cD), by dsimp only; omega, by dsimp only; omega, by dsimp only; rw [hst]; exact S.pk⟩
   | true =>
     have rw_p : (decide (x ∈ Y.ents) || !Y.ctx.covers ⟨x.dot.node, x.dot.life, x.dot.count⟩) = true := hp
     have hst := filter_yes hx hp
     refine sg S (.lt (by omega) rfl rfl <| .z) fun a w S => wp_seq_k fun _ hK2 => Zg S (.t rfl) (wp_skip (Za (hK2 _ _ (wp_seq_k fun _ hK2 => wp_block (wp_seq_k fun _ hK3 => wp_region_lit (run S (.ix underlying31 sizeOf100 (by omega) rfl rfl <| .yy (Zu ⟨isAgg100, sizeOf100⟩ (.t rfl) (vs := [_, _, _, _, _, _]) rfl (fun _ => hc)) rfl <| .z) fun a w S => Zi (Zk S zeroValue100 (cs := _) rfl rfl fun g6 a w S => Zi (Zp S sizeOf100 (.t rfl) (.t rfl) (k := 0) rfl rfl rfl (by simp [Value.oneCell']) fun a w S => Zb (Za (hK3 _ _ (wp_seq_k fun _ hK3 => wp_region_lit (run S (.la gt37 6 rfl rfl rfl <| .la gt100 0 rfl rfl rfl <| .xx (Zf call76 (.cons (.t rfl) (.cons (.t rfl) .nil)) (fun hp w W => c76 _ _ _ _ _ _ _ _ _ _ (by exact .old W (by assumption)))) rfl <| .mv rfl <| .z) fun a w S => Yt S rfl rfl (Yr.ys (Zc (FieldT.mk underlying37 rfl sizeOf35 rfl) (.t rfl) (i' := 1) rfl)) rfl fun a w S => Yt S rfl rfl (Yr.ys (Yc ⟨isAgg35, sizeOf35⟩ (Ev.g rfl) (k := 6) rfl rfl)) rfl fun a w S => Yt S rfl rfl (Yr.ys (Zc (FieldT.mk underlying100 rfl sizeOf74 rfl) (.t rfl) (i' := 1) rfl)) rfl fun a w S => Yt S rfl rfl (Yr.ys (Yc ⟨isAgg74, sizeOf74⟩ (Ev.g rfl) (k := 0) rfl rfl)) rfl fun a w S => ?_))))))))))))
     refine Yt S rfl rfl (Zf call77 (.cons (Ev.g rfl) (.cons (Ev.g rfl) .nil)) (fun hp w W => c77 _ _ _ _ _ _ _ (by exact .old W (by assumption)))) rfl fun a w S => ?_
     rw [rw_covY] at S
     refine Yt S rfl rfl (Yr.ys (Xi (Ev.g rfl))) rfl fun a w S => run S (.yy (Vb (.t rfl) Ev.c (Ev.g rfl)) rfl <| .z) fun a w S => ?_
     rw [rw_p] at S
     refine Zb (Za (hK3 _ _ (Zg S (.t rfl) (wp_region_lit (run S (.fa underlying37 sizeOf31 0 rfl rfl rfl <| .ld gt31 2 rfl rfl rfl <| .la gt100 0 rfl rfl rfl <| .z) fun a w S => Zi (Yd S underlying31 inf100 rfl rfl rfl (.t rfl) rfl rfl rfl fun g7 a w S => Zi (Yv S underlying31 inf100 rfl (k := 2) (j := 0) rfl (.t rfl) (.t rfl) rfl rfl rfl rfl (by first | omega | (simp only [List.length_append, List.length_cons, List.length_nil]; omega)) rfl rfl rfl fun A1 cap1 a w S => run S (.fa underlying37 sizeOf31 0 rfl rfl rfl <| .z) fun a w S => Zi (Vv S sizeOf31 (.t rfl) (.t rfl) (k := 3) rfl rfl (by simp) fun a w S => Zb (Zm (Za (hK2 _ _ (wp_region_lit (run S (.ad (by unfold I64; omega) rfl <| .mv rfl <| .z) fun a w S => Zb (Za ?_))))))))))))))
     exact ⟨(k + 1, A1, cap1), by dsimp only; omega, by dsimp only; omega, by dsimp only; rw [hst]; exact S.pk⟩
 obtain rfl : k = X.ents.length := by omega
 rw [List.take_length, ← stays_filter] at S hol
 refine sg S (.ge (by omega) rfl rfl <| .z) fun a w S => wp_seq_k fun _ hK2 => Ze S (.t rfl) (wp_exit (Zh (Zh (Ya (Za (hK1 _ _ (wp_seq_k fun _ hK1 => sg S (.fa underlying37 sizeOf31 0 rfl rfl rfl <| .ld gt31 5 rfl rfl rfl <| .ln underlying31 rfl <| .mc rfl <| .z) fun a w S => wp_block ?_)))))))
 have e0 : joinF X Y 0 = staysE X Y := rfl
 rw [← e0] at S
 refine Xn S [75] (X := Nat × Option Addr × Nat) (fun q => [(75, true, .int .i64 (q.1 : Int))])
   (fun q => [rowOf 100 6 Ent.enc q.2.1 q.2.2 (joinF X Y q.1), .blk g5 (.cells #[.slice q.2.1 (joinF X Y q.1).length q.2.2, .slice A11 R.marks.length r11, .slice A21 R.cloud.length r21] 37), rowOf 30 3 Dot.enc A11 r11 R.marks, rowOf 74 3 Dot.enc A21 r21 R.cloud, .blk g3 (.cells #[.slice none 0 0, .slice none 0 0, .slice none 0 0] 37), .blk g2 (.cells #[.slice B Y.ents.length capB, .slice B2 Y.ctx.marks.length capB2, .slice B3 Y.ctx.cloud.length capB3] 37), .blk g1 (.cells #[.slice A X.ents.length cap, .slice A2 X.ctx.marks.length cap2, .slice A3 X.ctx.cloud.length cap3] 37)])
   (fun q => q.1 ≤ Y.ents.length) (fun q => Y.ents.length - q.1) (0, D, cD) (Nat.zero_le _) ?_
 clear S
 rintro ⟨k, E, cE⟩ a w hk S
 dsimp only at hk S
 have hol3 : (joinF X Y k).length ≤ 200 := by
   unfold joinF
   have hol2 := filter_take (newB X) Y.ents k
   rw [fold_ins_len]; omega
 by_cases hlt : k < Y.ents.length
 · obtain ⟨g, o, x, rfl, hx, hd, hc⟩ := Yh hB hlt
   cases hp : newB X x with
   | false =>
     have hst : joinF X Y (k + 1) = joinF X Y k := by unfold joinF; rw [filter_no hx hp]
     have rw_c : X.ctx.covers ⟨x.dot.node, x.dot.life, x.dot.count⟩ = true := by simpa [newB] using hp
     refine sg S (.lt (by omega) rfl rfl <| .z) fun a w S => wp_seq_k fun _ hK3 => Zg S (.t rfl) (wp_skip (Za (hK3 _ _ (wp_seq_k fun _ hK3 => wp_block (wp_seq_k fun _ hK4 => wp_region_lit (run S (.ix underlying31 sizeOf100 (by omega) rfl rfl <| .yy (Zu ⟨isAgg100, sizeOf100⟩ (.t rfl) (vs := [_, _, _, _, _, _]) rfl (fun _ => hc)) rfl <| .z) fun a w S => Zi (Zk S zeroValue100 (cs := _) rfl rfl fun g6 a w S => Zi (Zp S sizeOf100 (.t rfl) (.t rfl) (k := 0) rfl rfl rfl (by simp [Value.oneCell']) fun a w S => Zb (Za (hK4 _ _ (wp_seq_k fun _ hK4 => wp_region_lit (run S (.fa underlying37 sizeOf35 1 rfl rfl rfl <| .la gt35 7 rfl rfl rfl <| .fa underlying100 sizeOf74 1 rfl rfl rfl <| .la gt74 0 rfl rfl rfl <| .xx (Zf call77 (.cons (.t rfl) (.cons (.t rfl) .nil)) (fun hp w W => c77 _ _ _ _ _ _ _ (by exact .old W (by assumption)))) rfl <| .z) fun a w S => ?_))))))))))))
     rw [rw_covX] at S
     rw [rw_c] at S
     refine run S (.nt rfl <| .z) fun a w S => Zb (Za (hK4 _ _ (Ze S (.t rfl) (wp_skip (Zm (Za (hK3 _ _ (wp_region_lit (run S (.ad (by unfold I64; omega) rfl <| .mv rfl <| .z) fun a w S => Zb (Za ?_))))))))))
     exact ⟨(k + 1, E, cE), by dsimp only; omega, by dsimp only; omega, by dsimp only; rw [hst]; exact S.pk⟩
   | true =>
     have hst : joinF X Y (k + 1) = insE x (joinF X Y k) := by unfold joinF; rw [filter_yes hx hp, List.foldl_append]; rfl
     have rw_c : X.ctx.covers ⟨x.dot.node, x.dot.life, x.dot.count⟩ = false := by simpa [newB] using hp
     generalize joinF X Y k = O at S hst hol3
     refine sg S (.lt (by omega) rfl rfl <| .z) fun a w S => wp_seq_k fun _ hK3 => Zg S (.t rfl) (wp_skip (Za (hK3 _ _ (wp_seq_k fun _ hK3 => wp_block (wp_seq_k fun _ hK4 => wp_region_lit (run S (.ix underlying31 sizeOf100 (by omega) rfl rfl <| .yy (Zu ⟨isAgg100, sizeOf100⟩ (.t rfl) (vs := [_, _, _, _, _, _]) rfl (fun _ => hc)) rfl <| .z) fun a w S => Zi (Zk S zeroValue100 (cs := _) rfl rfl fun g6 a w S => Zi (Zp S sizeOf100 (.t rfl) (.t rfl) (k := 0) rfl rfl rfl (by simp [Value.oneCell']) fun a w S => Zb (Za (hK4 _ _ (wp_seq_k fun _ hK4 => wp_region_lit (run S (.fa underlying37 sizeOf35 1 rfl rfl rfl <| .la gt35 7 rfl rfl rfl <| .fa underlying100 sizeOf74 1 rfl rfl rfl <| .la gt74 0 rfl rfl rfl <| .xx (Zf call77 (.cons (.t rfl) (.cons (.t rfl) .nil)) (fun hp w W => c77 _ _ _ _ _ _ _ (by exact .old W (by assumption)))) rfl <| .z) fun a w S => ?_))))))))))))
     rw [rw_covX] at S
     rw [rw_c] at S
     refine run S (.nt rfl <| .z) fun a w S => Zb (Za (hK4 _ _ (Zg S (.t rfl) (wp_region_lit (run S (.fa underlying37 sizeOf31 0 rfl rfl rfl <| .ld gt31 2 rfl rfl rfl <| .la gt100 0 rfl rfl rfl <| .z) fun a w S => ?_)))))
     (refine Zi (Zr S call78 (.cons (.t rfl) (.cons (.t rfl) .nil)) (c78 _ _ _ _ (by exact Sl.of_own S.wd (k := 1) rfl (fun _ => rfl)) (by omega)) rfl ?_); clear S a w; rintro _ _ ⟨A12, r12, rfl, rfl⟩ a w S)
     refine run S (.fa underlying37 sizeOf31 0 rfl rfl rfl <| .z) fun a w S => Zi (Vv S sizeOf31 (.t rfl) (.t rfl) (k := 3) rfl rfl (by simp) fun a w S => Zb (Zm (Za (hK3 _ _ (wp_region_lit (run S (.ad (by unfold I64; omega) rfl <| .mv rfl <| .z) fun a w S => Zb (Za ?_)))))))
     exact ⟨(k + 1, A12, r12), by dsimp only; omega, by dsimp only; omega, by dsimp only; rw [hst]; exact S.pk⟩
 obtain rfl : k = Y.ents.length := by omega
 have e1 : joinF X Y Y.ents.length = joinE X Y := by unfold joinF; rw [List.take_length]; rfl
 rw [e1] at S hol3
 have hjl := joinE_len oX oY
 by_cases hbig : 64 < (joinE X Y).length ∨ 32 < itemsN (joinE X Y)
 · have rw_b : ∀ x y : Value, (if 64 < (joinE X Y).length ∨ 32 < itemsN (joinE X Y) then x else y) = x := fun _ _ => if_pos hbig
   rw [if_pos hbig] at eJ
   refine sg S (.ge (by omega) rfl rfl <| .z) fun a w S => wp_seq_k fun _ hK3 => Ze S (.t rfl) (wp_exit (Zh (Zh (Ya (Za (hK1 _ _ (wp_seq_k fun _ hK1 => wp_seq_k fun _ hK4 => wp_region_lit (run S (.la gt37 1 rfl rfl rfl <| .xx (Zf call79 (.cons (.t rfl) .nil) (fun hp w W => c79 _ _ _ _ _ _ _ _ _ (by exact Sl.of_own W (k := 0) rfl (fun _ => rfl)) (by omega))) rfl <| .z) fun a w S => ?_))))))))
   rw [rw_b] at S
   refine run S (.mv rfl <| .ex rfl rfl <| .ex rfl rfl <| .z) fun a w S => Zi (Zk S zeroValue37 (cs := _) rfl rfl fun g6 a w S => Zi (Zp S sizeOf37 (.t rfl) (.t rfl) (k := 0) rfl rfl rfl (by simp [Value.oneCell']) fun a w S => run S (.as rfl <| .z) fun a w S => Zb (Za (hK4 _ _ (sg S (.mv rfl <| .yy (Yu (by omega) (Yg (.t rfl) Ev.c)) rfl <| .z) fun a w S => Zg S (.t rfl) (wp_seq_k fun _ hK4 => wp_region_lit (run S (.yy (Yn (ps := []) (us := [_, _, _]) bld37 .nil rfl) rfl <| .mv rfl <| .z) fun a w S => Zi (Zp S sizeOf37 (.t rfl) (.t rfl) (k := 5) rfl rfl rfl (by simp [Value.oneCell']) fun a w S => run S (.as rfl <| .z) fun a w S => Zb (Za (hK4 _ _ (wp_ret (Zd (Zn S (results2 S results29 (Rv.cell (k := 5) ⟨isAgg37, sizeOf37⟩ rfl rfl rfl) (Rv.tmp rfl)) ?_)))))))))))))
   rw [eJ]
   exact ⟨_, _, rfl, (((S.nil_ 74 3 Dot.enc none).nil_ 30 3 Dot.enc none).nil_ 100 6 Ent.enc none).wd.sub (by repeat (first | exact List.Sublist.refl _ | exact List.nil_sublist _ | refine .cons_cons _ ?_ | refine .cons _ ?_)), none, 0, none, 0, none, 0, rfl, rfl⟩
 have rw_b : ∀ x y : Value, (if 64 < (joinE X Y).length ∨ 32 < itemsN (joinE X Y) then x else y) = y := fun _ _ => if_neg hbig
 rw [if_neg hbig] at eJ
 refine sg S (.ge (by omega) rfl rfl <| .z) fun a w S => wp_seq_k fun _ hK3 => Ze S (.t rfl) (wp_exit (Zh (Zh (Ya (Za (hK1 _ _ (wp_seq_k fun _ hK1 => wp_seq_k fun _ hK4 => wp_region_lit (run S (.la gt37 1 rfl rfl rfl <| .xx (Zf call79 (.cons (.t rfl) .nil) (fun hp w W => c79 _ _ _ _ _ _ _ _ _ (by exact Sl.of_own W (k := 0) rfl (fun _ => rfl)) (by omega))) rfl <| .z) fun a w S => ?_))))))))
 rw [rw_b] at S
 refine run S (.mv rfl <| .ex rfl rfl <| .ex rfl rfl <| .z) fun a w S => Zi (Zk S zeroValue37 (cs := _) rfl rfl fun g6 a w S => Zi (Zp S sizeOf37 (.t rfl) (.t rfl) (k := 0) rfl rfl rfl (by simp [Value.oneCell']) fun a w S => run S (.as rfl <| .z) fun a w S => Zb (Za (hK4 _ _ (sg S (.mv rfl <| .yy (Yp (by omega) (Yg (.t rfl) Ev.c)) rfl <| .z) fun a w S => Ze S (.t rfl) (wp_skip (Za (hK1 _ _ (wp_seq_k fun _ hK1 => sg S (.fa underlying37 sizeOf31 0 rfl rfl rfl <| .ld gt31 7 rfl rfl rfl <| .ln underlying31 rfl <| .mc rfl <| .z) fun a w S => wp_block ?_)))))))))
 refine Xn S [103] (X := Nat) (fun k => [(103, true, .int .i64 (k : Int))])
   (fun q => [rowOf 100 6 Ent.enc E cE (joinE X Y), .blk g5 (.cells #[.slice E (joinE X Y).length cE, .slice A11 R.marks.length r11, .slice A21 R.cloud.length r21] 37), rowOf 30 3 Dot.enc A11 r11 R.marks, rowOf 74 3 Dot.enc A21 r21 R.cloud, .blk g3 (.cells #[.slice none 0 0, .slice none 0 0, .slice none 0 0] 37), .blk g2 (.cells #[.slice B Y.ents.length capB, .slice B2 Y.ctx.marks.length capB2, .slice B3 Y.ctx.cloud.length capB3] 37), .blk g1 (.cells #[.slice A X.ents.length cap, .slice A2 X.ctx.marks.length cap2, .slice A3 X.ctx.cloud.length cap3] 37)])
   (fun k => k ≤ X.ents.length ∧ ∀ x ∈ X.ents.take k, ∀ y ∈ Y.ents, x.dot = y.dot → x = y) (fun k => X.ents.length - k) 0 ⟨Nat.zero_le _, by simp⟩ ?_
 clear S
 rintro k a w ⟨hk, hno⟩ S
 by_cases hlt : k < X.ents.length
 · obtain ⟨g, o, x, rfl, hx, hd, hc⟩ := Yh hA hlt
   refine sg S (.lt (by omega) rfl rfl <| .z) fun a w S => wp_seq_k fun _ hK4 => Zg S (.t rfl) (wp_skip (Za (hK4 _ _ (wp_seq_k fun _ hK4 => wp_block (wp_seq_k fun _ hK5 => wp_region_lit (run S (.ix underlying31 sizeOf100 (by omega) rfl rfl <| .yy (Zu ⟨isAgg100, sizeOf100⟩ (.t rfl) (vs := [_, _, _, _, _, _]) rfl (fun _ => hc)) rfl <| .z) fun a w S => Zi (Zk S zeroValue100 (cs := _) rfl rfl fun g7 a w S => Zi (Zp S sizeOf100 (.t rfl) (.t rfl) (k := 0) rfl rfl rfl (by simp [Value.oneCell']) fun a w S => Zb (Za (hK5 _ _ (sg S (.fa underlying37 sizeOf31 0 rfl rfl rfl <| .ld gt31 6 rfl rfl rfl <| .ln underlying31 rfl <| .mc rfl <| .z) fun a w S => wp_block ?_)))))))))))
   refine Xn S [110] (X := Nat) (fun k => [(110, true, .int .i64 (k : Int))])
     (fun q => [.blk g7 (.cells (Ent.enc x).toArray 100), rowOf 100 6 Ent.enc E cE (joinE X Y), .blk g5 (.cells #[.slice E (joinE X Y).length cE, .slice A11 R.marks.length r11, .slice A21 R.cloud.length r21] 37), rowOf 30 3 Dot.enc A11 r11 R.marks, rowOf 74 3 Dot.enc A21 r21 R.cloud, .blk g3 (.cells #[.slice none 0 0, .slice none 0 0, .slice none 0 0] 37), .blk g2 (.cells #[.slice B Y.ents.length capB, .slice B2 Y.ctx.marks.length capB2, .slice B3 Y.ctx.cloud.length capB3] 37), .blk g1 (.cells #[.slice (some ⟨g, o, none⟩) X.ents.length cap, .slice A2 X.ctx.marks.length cap2, .slice A3 X.ctx.cloud.length cap3] 37)])
     (fun m => m ≤ Y.ents.length ∧ ∀ y ∈ Y.ents.take m, x.dot = y.dot → x = y) (fun m => Y.ents.length - m) 0 ⟨Nat.zero_le _, by simp⟩ ?_
   clear S
   rintro m a w ⟨hm, hno2⟩ S
   by_cases hlt : m < Y.ents.length
   · obtain ⟨g', o', y, rfl, hy, hd', hc'⟩ := Yh hB hlt
     by_cases h1 : x.dot = y.dot
     · by_cases h2 : x = y
       · have rw_1 := decide_eq_true (Vj.1 h1)
         have rw_2 := decide_eq_true (ent_iff.1 h2)
         refine sg S (.lt (by omega) rfl rfl <| .z) fun a w S => wp_seq_k fun _ hK5 => Zg S (.t rfl) (wp_skip (Za (hK5 _ _ (wp_seq_k fun _ hK5 => wp_block (wp_seq_k fun _ hK6 => wp_region_lit (run S (.ix underlying31 sizeOf100 (by omega) rfl rfl <| .yy (Zu ⟨isAgg100, sizeOf100⟩ (.t rfl) (vs := [_, _, _, _, _, _]) rfl (fun _ => hc')) rfl <| .z) fun a w S => Zi (Zk S zeroValue100 (cs := _) rfl rfl fun g8 a w S => Zi (Zp S sizeOf100 (.t rfl) (.t rfl) (k := 0) rfl rfl rfl (by simp [Value.oneCell']) fun a w S => Zb (Za (hK6 _ _ (wp_seq_k fun _ hK6 => wp_region_lit (run S (.fa underlying100 sizeOf74 1 rfl rfl rfl <| .la gt74 1 rfl rfl rfl <| .fa underlying100 sizeOf74 1 rfl rfl rfl <| .la gt74 0 rfl rfl rfl <| .yy (Wh (.t rfl) (.t rfl) eq74) rfl <| .z) fun a w S => ?_))))))))))))
         rw [rw_1] at S
         refine run S (.mv rfl <| .gy rfl rfl (Yc ⟨isAgg100, sizeOf100⟩ (.t rfl) (k := 1) rfl rfl) <| .gy rfl rfl (Yc ⟨isAgg100, sizeOf100⟩ (.t rfl) (k := 0) rfl rfl) <| .gy rfl rfl (ys_neA (.t rfl) (.t rfl) eq100) <| .z) fun a w S => ?_
         rw [rw_2] at S
         refine run S (.yy (Zz (.t rfl) (.t rfl)) rfl <| .z) fun a w S => Zb (Za (hK6 _ _ (Ze S (.t rfl) (wp_skip (Zm (Za (hK5 _ _ (wp_region_lit (run S (.ad (by unfold I64; omega) rfl <| .mv rfl <| .z) fun a w S => Zb (Za ?_))))))))))
         refine ⟨m + 1, ⟨by omega, fun z hz hzd => ?_⟩, by omega, S.pk⟩
         rw [List.take_add_one, hy, Option.toList_some] at hz
         rcases List.mem_append.1 hz with hz | hz
         · exact hno2 z hz hzd
         · simp at hz; subst hz; exact h2
       · have rw_1 := decide_eq_true (Vj.1 h1)
         have rw_2 := decide_eq_false (fun h => h2 (ent_iff.2 h))
         refine sg S (.lt (by omega) rfl rfl <| .z) fun a w S => wp_seq_k fun _ hK5 => Zg S (.t rfl) (wp_skip (Za (hK5 _ _ (wp_seq_k fun _ hK5 => wp_block (wp_seq_k fun _ hK6 => wp_region_lit (run S (.ix underlying31 sizeOf100 (by omega) rfl rfl <| .yy (Zu ⟨isAgg100, sizeOf100⟩ (.t rfl) (vs := [_, _, _, _, _, _]) rfl (fun _ => hc')) rfl <| .z) fun a w S => Zi (Zk S zeroValue100 (cs := _) rfl rfl fun g8 a w S => Zi (Zp S sizeOf100 (.t rfl) (.t rfl) (k := 0) rfl rfl rfl (by simp [Value.oneCell']) fun a w S => Zb (Za (hK6 _ _ (wp_seq_k fun _ hK6 => wp_region_lit (run S (.fa underlying100 sizeOf74 1 rfl rfl rfl <| .la gt74 1 rfl rfl rfl <| .fa underlying100 sizeOf74 1 rfl rfl rfl <| .la gt74 0 rfl rfl rfl <| .yy (Wh (.t rfl) (.t rfl) eq74) rfl <| .z) fun a w S => ?_))))))))))))
         rw [rw_1] at S
         refine run S (.mv rfl <| .gy rfl rfl (Yc ⟨isAgg100, sizeOf100⟩ (.t rfl) (k := 1) rfl rfl) <| .gy rfl rfl (Yc ⟨isAgg100, sizeOf100⟩ (.t rfl) (k := 0) rfl rfl) <| .gy rfl rfl (ys_neA (.t rfl) (.t rfl) eq100) <| .z) fun a w S => ?_
         rw [rw_2] at S
         refine run S (.yy (Zz (.t rfl) (.t rfl)) rfl <| .z) fun a w S => Zb (Za (hK6 _ _ (Zg S (.t rfl) (wp_seq_k fun _ hK6 => wp_region_lit (run S (.yy (Yn (ps := []) (us := [_, _, _]) bld37 .nil rfl) rfl <| .z) fun a w S => Zi (Zp S sizeOf37 (.t rfl) (.t rfl) (k := 6) rfl rfl rfl (by simp [Value.oneCell']) fun a w S => run S (.ac rfl <| .z) fun a w S => Zb (Za (hK6 _ _ (wp_ret (Zq (Zd (Zd (Zq (Zq (Zd (Zd (Zq (Zd (Zn S (results2 S results29 (Rv.cell (k := 6) ⟨isAgg37, sizeOf37⟩ rfl rfl rfl) (Rv.tmp rfl)) ?_)))))))))))))))))))
         have hcl : clashE X Y := ⟨x, List.mem_of_getElem? hx, y, List.mem_of_getElem? hy, h1, h2⟩
         rw [if_pos hcl] at eJ
         rw [eJ]
         exact ⟨_, _, rfl, (((S.nil_ 74 3 Dot.enc none).nil_ 30 3 Dot.enc none).nil_ 100 6 Ent.enc none).wd.sub (by repeat (first | exact List.Sublist.refl _ | exact List.nil_sublist _ | refine .cons_cons _ ?_ | refine .cons _ ?_)), none, 0, none, 0, none, 0, rfl, rfl⟩
     · have rw_1 := decide_eq_false (fun h => h1 (Vj.2 h))
       refine sg S (.lt (by omega) rfl rfl <| .z) fun a w S => wp_seq_k fun _ hK5 => Zg S (.t rfl) (wp_skip (Za (hK5 _ _ (wp_seq_k fun _ hK5 => wp_block (wp_seq_k fun _ hK6 => wp_region_lit (run S (.ix underlying31 sizeOf100 (by omega) rfl rfl <| .yy (Zu ⟨isAgg100, sizeOf100⟩ (.t rfl) (vs := [_, _, _, _, _, _]) rfl (fun _ => hc')) rfl <| .z) fun a w S => Zi (Zk S zeroValue100 (cs := _) rfl rfl fun g8 a w S => Zi (Zp S sizeOf100 (.t rfl) (.t rfl) (k := 0) rfl rfl rfl (by simp [Value.oneCell']) fun a w S => Zb (Za (hK6 _ _ (wp_seq_k fun _ hK6 => wp_region_lit (run S (.fa underlying100 sizeOf74 1 rfl rfl rfl <| .la gt74 1 rfl rfl rfl <| .fa underlying100 sizeOf74 1 rfl rfl rfl <| .la gt74 0 rfl rfl rfl <| .yy (Wh (.t rfl) (.t rfl) eq74) rfl <| .z) fun a w S => ?_))))))))))))
       rw [rw_1] at S
       refine run S (.mv rfl <| .sk rfl rfl rfl <| .sk rfl rfl rfl <| .sk rfl rfl rfl <| .yy (Zv (.t rfl) Ev.c) rfl <| .z) fun a w S => Zb (Za (hK6 _ _ (Ze S (.t rfl) (wp_skip (Zm (Za (hK5 _ _ (wp_region_lit (run S (.ad (by unfold I64; omega) rfl <| .mv rfl <| .z) fun a w S => Zb (Za ?_))))))))))
       refine ⟨m + 1, ⟨by omega, fun z hz hzd => ?_⟩, by omega, S.pk⟩
       rw [List.take_add_one, hy, Option.toList_some] at hz
       rcases List.mem_append.1 hz with hz | hz
       · exact hno2 z hz hzd
       · simp at hz; subst hz; exact absurd hzd h1
   · obtain rfl : m = Y.ents.length := by omega
     rw [List.take_length] at hno2
     refine sg S (.ge (by omega) rfl rfl <| .z) fun a w S => wp_seq_k fun _ hK5 => Ze S (.t rfl) (wp_exit (Zh (Zh (Ya (Zm (Za (hK4 _ _ (wp_region_lit (run S (.ad (by unfold I64; omega) rfl <| .mv rfl <| .z) fun a w S => Zb (Za ?_))))))))))
     refine ⟨k + 1, ⟨by omega, fun z hz => ?_⟩, by omega, S.pk⟩
     rw [List.take_add_one, hx, Option.toList_some] at hz
     rcases List.mem_append.1 hz with hz | hz
     · exact hno z hz
     · simp at hz; subst hz; exact hno2
 obtain rfl : k = X.ents.length := by omega
 rw [List.take_length] at hno
 have hcl : ¬ clashE X Y := fun ⟨x, hx, y, hy, h1, h2⟩ => h2 (hno x hx y hy h1)
 rw [if_neg hcl] at eJ
 refine sg S (.ge (by omega) rfl rfl <| .z) fun a w S => wp_seq_k fun _ hK4 => Ze S (.t rfl) (wp_exit (Zh (Zh (Ya (Za (hK1 _ _ (wp_seq_k fun _ hK1 => wp_region_lit (run S (.la gt37 1 rfl rfl rfl <| .z) fun a w S => Zi (Zp S sizeOf37 (.t rfl) (.t rfl) (k := 4) rfl rfl rfl (by simp [Value.oneCell']) fun a w S => run S (.ac rfl <| .z) fun a w S => Zb (Za (hK1 _ _ (wp_ret (Zn S (results2 S results29 (Rv.cell (k := 4) ⟨isAgg37, sizeOf37⟩ rfl rfl rfl) (Rv.tmp rfl)) ?_)))))))))))))
 rw [eJ]
 exact ⟨_, _, rfl, S.wd.pk, _, _, _, _, _, _, rfl, rfl⟩
end Go.Proofs.YtakpdbmdfnialaaGreat
