/- Contracts and laws that the statement Ajo leans on, part 4. -/
import Derived.Test.YtakpdbmdfnialaaGreatAjoK3
import Derived.ScopeJumps
import Derived.LoopN
import Derived.Recover
import Derived.Lib.OthersKept
import Derived.Shelf.SlGeneric
import Derived.Shelf.SlSortCmp.WholeK
import Derived.Ground.SlsfProg
import Derived.Test.YtakpdbmdfnialaaGreatProg
set_option linter.unusedVariables false
set_option linter.unusedSimpArgs false
set_option maxRecDepth 100000
namespace Go.Proofs.YtakpdbmdfnialaaGreat
open Go.Fw Go.Proofs Go.RowKit Go.Proofs.Tryz
theorem growC_len (C : Ctx) (d : Dot) : (growC C d).marks.length ≤ C.marks.length + 1 ∧ (growC C d).cloud.length ≤ C.cloud.length + 1 := by
 unfold growC
 split
 · omega
 · split
   · simp
   · have := setL_len d C.marks false
     simp only [Bool.false_eq_true, if_false] at this
     dsimp only
     omega
theorem growF_len : ∀ (b : List Dot) (C : Ctx), (b.foldl growC C).marks.length ≤ C.marks.length + b.length ∧ (b.foldl growC C).cloud.length ≤ C.cloud.length + b.length
 | [], C => by simp
 | d :: r, C => by
   have h1 := growC_len C d
   have h2 := growF_len r (growC C d)
   simp only [List.foldl_cons, List.length_cons]
   omega
set_option maxHeartbeats 4000000 in
theorem c112 (w0 : World) (v1 v2 : Value) (l d : List Dot) (h : Sl Dot.enc 3 w0 w0.heap.size v1 l) (h' : Sl Dot.enc 3 w0 w0.heap.size v2 d) (hn : l.length ≤ 2097152) (hn' : d.length ≤ 2097152) :
   Rets Tryz.prog 112 #[v1, v2] w0 fun v L => ∃ A1 c1 A2 c2, v = .tuple #[.agg #[.slice A1 (normalL l d).1.marks.length c1, .slice A2 (normalL l d).1.cloud.length c2], .int .i64 (normalL l d).2] ∧
     L = [rowOf 30 3 Dot.enc A1 c1 (normalL l d).1.marks, rowOf 74 3 Dot.enc A2 c2 (normalL l d).1.cloud] := by
 have hd0 := h'
 obtain ⟨A, cap, rfl, hl, hcap, hA⟩ := h
 obtain ⟨A', cap', rfl, hl', hcap', hA'⟩ := h'
 unfold Go.Fw.Rets
 refine enter2 func112 rfl ntmps112 rfl fun a S => wp_seq_k fun _ hK1 => wp_region_lit (Zj (Zn S zeroValue35 (cs := _) rfl rfl fun g1 a w S => run S (.ac rfl <| .z) fun a w S => Zb (Za (hK1 _ _ (sg S (.ac rfl <| .z) fun a w S => wp_seq_k fun _ hK1 => sg S (.mv rfl <| .ln underlying32 rfl <| .mc rfl <| .z) fun a w S => wp_block ?_)))))
 refine Xk (S.nil_ 74 3 Dot.enc none) (X := Nat × Option Addr × Nat) (fun q => [(20, true, .int .i64 (q.1 : Int)), (6, true, .slice q.2.1 (l.take q.1).length q.2.2)])
   (fun q _ => [rowOf 74 3 Dot.enc q.2.1 q.2.2 (l.take q.1), .blk g1 (.cells #[.slice none 0 0, .slice none 0 0] 35)])
   (fun q => q.1 ≤ l.length ∧ ∀ x ∈ l.take q.1, mayD x = true) (fun q => l.length - q.1) (0, none, 0) ⟨Nat.zero_le _, by simp⟩ ?_
 clear S
 intro ⟨k, B, cB⟩ a w ⟨hk, hall⟩ S
 dsimp only at hk hall S
 by_cases hlt : k < l.length
 · obtain ⟨g, o, m, rfl, hmm, hd, hc⟩ := Yg hA hlt
   have hout : (l.take k).length = k := by simp; omega
   have heta : (⟨m.node, m.life, m.count⟩ : Dot) = m := rfl
   clear hA hA'
   by_cases h1 : mayD m = true
   · have rw_eta : (⟨m.node, m.life, m.count⟩ : Dot) = m := rfl
     have rw_t : l.take k ++ [m] = l.take (k + 1) := by rw [List.take_add_one, hmm]; rfl
     refine sg S (.lt (by omega) rfl rfl <| .z) fun a w S => wp_seq_k fun _ hK2 => Zg S (.t rfl) (wp_skip (Za (hK2 _ _ (wp_seq_k fun _ hK2 => wp_block (wp_seq_k fun _ hK3 => wp_region_lit (run S (.ix underlying32 sizeOf30 (by omega) rfl rfl <| .yy (Zp ⟨isAgg30, sizeOf30⟩ (.t rfl) (vs := [_, _, _]) rfl (fun _ => hc)) rfl <| .z) fun a w S => Zj (Zn S zeroValue30 (cs := _) rfl rfl fun g2 a w S => Zj (Zq S sizeOf30 (.t rfl) (.t rfl) (k := 0) rfl rfl rfl (by simp [Value.oneCell']) fun a w S => Zb (Za (hK3 _ _ (wp_seq_k fun _ hK3 => sg S (.la gt30 0 rfl rfl rfl <| .xx (Zf call163 (.cons (.t rfl) .nil) (fun hp w W => c163 _ _ _ _)) rfl <| .xx (Zf call162 (.cons (.t rfl) .nil) (fun hp w W => c162 _ _ _ _ _ (by assumption))) rfl <| .nt rfl <| .z) fun a w S => Ze S (.t rfl) (wp_skip (Za (hK3 _ _ (wp_region_lit (run S (.mv rfl <| .la gt30 0 rfl rfl rfl <| .xx (Zf call163 (.cons (.t rfl) .nil) (fun hp w W => c163 _ _ _ _)) rfl <| .z) fun a w S => Zj (Yf S underlying33 inf74 rfl rfl rfl (.t rfl) rfl rfl rfl fun g3 a w S => ?_)))))))))))))))))
     refine Zj (Yw S underlying33 inf74 rfl (k := 2) (j := 0) rfl (.t rfl) (.t rfl) rfl rfl rfl rfl (by first | omega | (simp only [List.length_append, List.length_cons, List.length_nil]; omega)) rfl rfl rfl fun A1 cap1 a w S => ?_)
     rw [rw_t] at S
     refine run S (.as rfl <| .z) fun a w S => Zb (Zk (Za (hK2 _ _ (wp_region_lit (run S (.ad (by unfold I64; omega) rfl <| .mv rfl <| .z) fun a w S => Zb (Za ?_))))))
     exact ⟨(k + 1, A1, cap1), ⟨by dsimp only; omega, all_step hmm hall h1⟩, by dsimp only; omega, S.wk⟩
   · have h1 : mayD m = false := by simpa using h1
     refine sg S (.lt (by omega) rfl rfl <| .z) fun a w S => wp_seq_k fun _ hK2 => Zg S (.t rfl) (wp_skip (Za (hK2 _ _ (wp_seq_k fun _ hK2 => wp_block (wp_seq_k fun _ hK3 => wp_region_lit (run S (.ix underlying32 sizeOf30 (by omega) rfl rfl <| .yy (Zp ⟨isAgg30, sizeOf30⟩ (.t rfl) (vs := [_, _, _]) rfl (fun _ => hc)) rfl <| .z) fun a w S => Zj (Zn S zeroValue30 (cs := _) rfl rfl fun g2 a w S => Zj (Zq S sizeOf30 (.t rfl) (.t rfl) (k := 0) rfl rfl rfl (by simp [Value.oneCell']) fun a w S => Zb (Za (hK3 _ _ (wp_seq_k fun _ hK3 => sg S (.la gt30 0 rfl rfl rfl <| .xx (Zf call163 (.cons (.t rfl) .nil) (fun hp w W => c163 _ _ _ _)) rfl <| .xx (Zf call162 (.cons (.t rfl) .nil) (fun hp w W => c162 _ _ _ _ _ (by assumption))) rfl <| .nt rfl <| .z) fun a w S => Zg S (.t rfl) (wp_seq_k fun _ hK4 => wp_region_lit (run S (.yy (Xd (ps := []) (us := [_, _]) bld35 .nil rfl) rfl <| .z) fun a w S => Zj (Zq S sizeOf35 (.t rfl) (.t rfl) (k := 2) rfl rfl rfl (by simp [Value.oneCell']) fun a w S => run S (.ac rfl <| .z) fun a w S => Zb (Za (hK4 _ _ (wp_ret (Zd (Zr (Zd (Zd (Zr (Zd ?_)))))))))))))))))))))))
     refine Zm S (results2 S results112 (Rv.cell (k := 2) ⟨isAgg35, sizeOf35⟩ rfl rfl rfl) (Rv.tmp rfl)) ?_
     rw [normalL_bad1 hmm h1]
     exact ⟨_, _, rfl, ((S.nil_ 74 3 Dot.enc none).nil_ 30 3 Dot.enc none).wd.sub (by repeat (first | exact List.Sublist.refl _ | exact List.nil_sublist _ | refine .cons_cons _ ?_ | refine .cons _ ?_)), none, 0, none, 0, rfl, rfl⟩
 · obtain rfl : k = l.length := by omega
   rw [List.take_length] at hall S
   clear hk hlt hA
   refine sg S (.ge (by omega) rfl rfl <| .z) fun a w S => wp_seq_k fun _ hK2 => Ze S (.t rfl) (wp_exit (Zh (Zh (Ya (Za (hK1 _ _ (wp_seq_k fun _ hK1 => sg S (.mv rfl <| .ln underlying33 rfl <| .mc rfl <| .z) fun a w S => wp_block ?_)))))))
   refine Xk S (X := Nat) (fun k => [(37, true, .int .i64 (k : Int))]) (fun _ L => L) (fun k => k ≤ d.length ∧ ∀ x ∈ d.take k, mayD x = true) (fun k => d.length - k) 0 ⟨Nat.zero_le _, by simp⟩ ?_
   clear S
   intro k a w ⟨hk, halld⟩ S
   by_cases hlt : k < d.length
   · obtain ⟨g, o, m, rfl, hmm, hd, hc⟩ := Yg hA' hlt
     have heta : (⟨m.node, m.life, m.count⟩ : Dot) = m := rfl
     clear hA'
     by_cases h1 : mayD m = true
     · refine sg S (.lt (by omega) rfl rfl <| .z) fun a w S => wp_seq_k fun _ hK3 => Zg S (.t rfl) (wp_skip (Za (hK3 _ _ (wp_seq_k fun _ hK3 => wp_block (wp_seq_k fun _ hK4 => wp_region_lit (run S (.ix underlying33 sizeOf74 (by omega) rfl rfl <| .yy (Zp ⟨isAgg74, sizeOf74⟩ (.t rfl) (vs := [_, _, _]) rfl (fun _ => hc)) rfl <| .z) fun a w S => Zj (Zn S zeroValue74 (cs := _) rfl rfl fun g2 a w S => Zj (Zq S sizeOf74 (.t rfl) (.t rfl) (k := 0) rfl rfl rfl (by simp [Value.oneCell']) fun a w S => Zb (Za (hK4 _ _ (sg S (.la gt74 0 rfl rfl rfl <| .xx (Zf call162 (.cons (.t rfl) .nil) (fun hp w W => c162 _ _ _ _ _ (by assumption))) rfl <| .nt rfl <| .z) fun a w S => Ze S (.t rfl) (wp_skip (Zk (Za (hK3 _ _ (wp_region_lit (run S (.ad (by unfold I64; omega) rfl <| .mv rfl <| .z) fun a w S => Zb (Za ?_))))))))))))))))))
       exact ⟨k + 1, ⟨by omega, all_step hmm halld h1⟩, by omega, S.wk⟩
     · have h1 : mayD m = false := by simpa using h1
       refine sg S (.lt (by omega) rfl rfl <| .z) fun a w S => wp_seq_k fun _ hK3 => Zg S (.t rfl) (wp_skip (Za (hK3 _ _ (wp_seq_k fun _ hK3 => wp_block (wp_seq_k fun _ hK4 => wp_region_lit (run S (.ix underlying33 sizeOf74 (by omega) rfl rfl <| .yy (Zp ⟨isAgg74, sizeOf74⟩ (.t rfl) (vs := [_, _, _]) rfl (fun _ => hc)) rfl <| .z) fun a w S => Zj (Zn S zeroValue74 (cs := _) rfl rfl fun g2 a w S => Zj (Zq S sizeOf74 (.t rfl) (.t rfl) (k := 0) rfl rfl rfl (by simp [Value.oneCell']) fun a w S => Zb (Za (hK4 _ _ (sg S (.la gt74 0 rfl rfl rfl <| .xx (Zf call162 (.cons (.t rfl) .nil) (fun hp w W => c162 _ _ _ _ _ (by assumption))) rfl <| .nt rfl <| .z) fun a w S => Zg S (.t rfl) (wp_seq_k fun _ hK4 => wp_region_lit (run S (.yy (Xd (ps := []) (us := [_, _]) bld35 .nil rfl) rfl <| .z) fun a w S => Zj (Zq S sizeOf35 (.t rfl) (.t rfl) (k := 2) rfl rfl rfl (by simp [Value.oneCell']) fun a w S => run S (.ac rfl <| .z) fun a w S => Zb (Za (hK4 _ _ (wp_ret (Zr (Zd (Zd (Zr (Zd (Zm S (results2 S results112 (Rv.cell (k := 2) ⟨isAgg35, sizeOf35⟩ rfl rfl rfl) (Rv.tmp rfl)) ?_)))))))))))))))))))))))
       rw [normalL_bad2 hmm h1]
       exact ⟨_, _, rfl, ((S.nil_ 74 3 Dot.enc none).nil_ 30 3 Dot.enc none).wd.sub (by repeat (first | exact List.Sublist.refl _ | exact List.nil_sublist _ | refine .cons_cons _ ?_ | refine .cons _ ?_)), none, 0, none, 0, rfl, rfl⟩
   obtain rfl : k = d.length := by omega
   rw [List.take_length] at halld
   clear hk hlt hA'
   have hok := normalL_ok hall halld
   refine sg S (.ge (by omega) rfl rfl <| .z) fun a w S => wp_seq_k fun _ hK3 => Ze S (.t rfl) (wp_exit (Zh (Zh (Ya (Za (hK1 _ _ (wp_seq_k fun _ hK1 => wp_region_lit (run S (.mv rfl <| .z) fun a w S => Zj (Vn S call164 (.cons (.t rfl) (.cons Ev.f .nil)) (k164 S.wd hall (by omega)) rfl ?_)))))))))
   clear S
   rintro _ _ ⟨l', rfl, hpl, hsl, rfl⟩ a w S
   have hll := hpl.length_eq
   rw [← hll] at S
   refine Zb (Za (hK1 _ _ (wp_seq_k fun _ hK1 => wp_region_lit (Zj (Zn S zeroValue35 (cs := _) rfl rfl fun g2 a w S => Zb (Za (hK1 _ _ (wp_seq_k fun _ hK1 => sg S (.mv rfl <| .ln underlying33 rfl <| .mc rfl <| .z) fun a w S => wp_block ?_))))))))
   refine Xk (S.nil_ 30 3 Dot.enc none) (X := Nat × Option Addr × Nat) (fun q => [(50, true, .int .i64 (q.1 : Int))])
     (fun q _ => [rowOf 30 3 Dot.enc q.2.1 q.2.2 (setF (l'.take q.1)), .blk g2 (.cells #[.slice q.2.1 (setF (l'.take q.1)).length q.2.2, .slice none 0 0] 35), rowOf 74 3 Dot.enc B cB l', .blk g1 (.cells #[.slice none 0 0, .slice none 0 0] 35)])
     (fun q => q.1 ≤ l'.length) (fun q => l'.length - q.1) (0, none, 0) (Nat.zero_le _) ?_
   clear S
   intro ⟨k, D, cD⟩ a w hk S
   dsimp only at hk S
   by_cases hlt : k < l'.length
   · obtain ⟨m, hmm⟩ : ∃ m, l'[k]? = some m := ⟨l'[k], by simp⟩
     have hp := setF_push hsl hmm
     have hsl2 := setF_len (l'.take k)
     have hs3 : (l'.take k).length ≤ l'.length := by rw [List.length_take]; omega
     generalize hacc : setF (l'.take k) = acc at S hp hsl2
     obtain ⟨gB, rfl⟩ := S.wd.row_at (k := 2) rfl (by have := (S.wd.room (k := 2) rfl).1; omega)
     have rw_eta : (⟨m.node, m.life, m.count⟩ : Dot) = m := rfl
     by_cases hz : acc.length = 0
     · have hz0 : acc = [] := List.eq_nil_of_length_eq_zero hz
       have rw_p : acc ++ [m] = setF (l'.take (k + 1)) := by rw [hp, hz0]; rfl
       refine sg S (.lt (by omega) rfl rfl <| .z) fun a w S => wp_seq_k fun _ hK4 => Zg S (.t rfl) (wp_skip (Za (hK4 _ _ (wp_seq_k fun _ hK4 => wp_block (wp_seq_k fun _ hK5 => wp_region_lit (run S (.ix underlying33 sizeOf74 (by omega) rfl rfl <| .yy (Wu ⟨isAgg74, sizeOf74⟩ (.t rfl) (k := 2) rfl hmm (fun _ => rfl)) rfl <| .z) fun a w S => Zj (Zn S zeroValue74 (cs := _) rfl rfl fun g3 a w S => Zj (Zq S sizeOf74 (.t rfl) (.t rfl) (k := 0) rfl rfl rfl (by simp [Value.oneCell']) fun a w S => Zb (Za (hK5 _ _ (sg S (.fa underlying35 sizeOf32 0 rfl rfl rfl <| .ld gt32 2 rfl rfl rfl <| .ln underlying32 rfl <| .as rfl <| .z) fun a w S => wp_seq_k fun _ hK5 => wp_seq_k fun _ hK6 => Yc S (by kernel_rfl) (by kernel_rfl) fun a S => qrun S (.mv rfl <| .yy (Yq (by omega) (Yn (.t rfl) Ev.c)) rfl <| .mv rfl <| .sk rfl rfl rfl <| .sk rfl rfl rfl <| .sk rfl rfl rfl <| .sk rfl rfl rfl <| .sk rfl rfl rfl <| .sk rfl rfl rfl <| .sk rfl rfl rfl <| .sk rfl rfl rfl <| .sk rfl rfl rfl <| .sk rfl rfl rfl <| .sk rfl rfl rfl <| .yy (Zu (.t rfl) Ev.c) rfl <| .z) fun a S => ?_)))))))))))
       (refine Yt ?_; intro w W; replace S := St.mk S W; clear W)
       refine Za (hK6 _ _ (Ze S (.t rfl) (wp_skip (Za (hK5 _ _ (wp_region_lit (run S (.fa underlying35 sizeOf32 0 rfl rfl rfl <| .ld gt32 2 rfl rfl rfl <| .la gt74 0 rfl rfl rfl <| .z) fun a w S => Zj (Yf S underlying32 inf30 rfl rfl rfl (.t rfl) rfl rfl rfl fun g4 a w S => Zj (Yw S underlying32 inf30 rfl (k := 2) (j := 0) rfl (.t rfl) (.t rfl) rfl rfl rfl rfl (by first | omega | (simp only [List.length_append, List.length_cons, List.length_nil]; omega)) rfl rfl rfl fun A1 cap1 a w S => ?_)))))))))
       rw [rw_p] at S
       refine run S (.fa underlying35 sizeOf32 0 rfl rfl rfl <| .z) fun a w S => Zj (op_st S sizeOf32 (.t rfl) (.t rfl) (k := 3) rfl rfl (by simp) fun a w S => Zb (Zk (Za (hK4 _ _ (wp_region_lit (run S (.ad (by unfold I64; omega) rfl <| .mv rfl <| .z) fun a w S => Zb (Za ?_)))))))
       exact ⟨(k + 1, A1, cap1), by dsimp only; omega, by dsimp only; omega, S.wk⟩
     · obtain ⟨y, hy⟩ : ∃ y, acc[acc.length - 1]? = some y := ⟨acc[acc.length - 1], by simp⟩
       have hlast : acc.getLast? = some y := by rw [List.getLast?_eq_getElem?]; exact hy
       obtain ⟨gD, rfl⟩ := S.wd.row_at (k := 0) rfl (by have := (S.wd.room (k := 0) rfl).1; omega)
       have rw_n : (acc.length : Int) - 1 = ((acc.length - 1 : Nat) : Int) := by omega
       by_cases hsa : sameA y m
       · have hp2 : setF (l'.take (k + 1)) = acc.set (acc.length - 1) m := by rw [hp]; unfold pushM; rw [hlast]; simp only; rw [if_pos hsa]
         refine sg S (.lt (by omega) rfl rfl <| .z) fun a w S => wp_seq_k fun _ hK4 => Zg S (.t rfl) (wp_skip (Za (hK4 _ _ (wp_seq_k fun _ hK4 => wp_block (wp_seq_k fun _ hK5 => wp_region_lit (run S (.ix underlying33 sizeOf74 (by omega) rfl rfl <| .yy (Wu ⟨isAgg74, sizeOf74⟩ (.t rfl) (k := 2) rfl hmm (fun _ => rfl)) rfl <| .z) fun a w S => Zj (Zn S zeroValue74 (cs := _) rfl rfl fun g3 a w S => Zj (Zq S sizeOf74 (.t rfl) (.t rfl) (k := 0) rfl rfl rfl (by simp [Value.oneCell']) fun a w S => Zb (Za (hK5 _ _ (sg S (.fa underlying35 sizeOf32 0 rfl rfl rfl <| .ld gt32 2 rfl rfl rfl <| .ln underlying32 rfl <| .as rfl <| .z) fun a w S => wp_seq_k fun _ hK5 => wp_seq_k fun _ hK6 => Yc S (by kernel_rfl) (by kernel_rfl) fun a S => qrun S (.mv rfl <| .yy (Yu (by omega) (Yn (.t rfl) Ev.c)) rfl <| .mv rfl <| .gy rfl rfl (Zc (FieldT.mk underlying35 rfl sizeOf32 rfl) (.t rfl) (i' := 0) rfl) <| .gy rfl rfl (Zt ⟨isAgg32, sizeOf32⟩ (.t rfl) (k := 2) rfl rfl) <| .gy rfl rfl (Zi (.t rfl)) <| .gy rfl rfl (Xm (.t rfl) Ev.c (fun _ => by unfold I64; omega)) <| .z) fun a S => ?_)))))))))))
         rw [rw_n] at S
         refine qrun S (.gy rfl rfl (Ym underlying32 sizeOf30 (.t rfl) (.t rfl) (fun _ => by omega)) <| .gy rfl rfl (Wu ⟨isAgg30, sizeOf30⟩ (.t rfl) (k := 1) rfl hy (fun _ => rfl)) <| .gx rfl rfl (Zf call163 (.cons (.t rfl) .nil) (fun hp w W => c163 _ _ _ _)) <| .gx rfl rfl (Zf call141 (.cons (.t rfl) .nil) (fun hp w W => c141 _ _ _ _)) <| .gy rfl rfl (Zz ⟨isAgg74, sizeOf74⟩ (.t rfl) (k := 0) rfl rfl) <| .gx rfl rfl (Zf call141 (.cons (.t rfl) .nil) (fun hp w W => c141 _ _ _ _)) <| .gy rfl rfl (Wa (.t rfl) (.t rfl) eq66) <| .yy (Zv (.t rfl) (.t rfl)) rfl <| .z) fun a S => ?_
         (refine Yt ?_; intro w W; replace S := St.mk S W; clear W)
         refine Za (hK6 _ _ (Xz S (.t rfl) (fun _ => wp_seq_k fun _ hK6 => wp_region_lit (run S (.fa underlying35 sizeOf32 0 rfl rfl rfl <| .ld gt32 2 rfl rfl rfl <| .mv rfl <| .yy (Xm (.t rfl) Ev.c (fun _ => by unfold I64; omega)) rfl <| .z) fun a w S => ?_)) (fun h1 => absurd (by first | assumption | omega) h1)))
         rw [rw_n] at S
         refine run S (.fa underlying74 sizeOf3 2 rfl rfl rfl <| .ld gt3 0 rfl rfl rfl <| .ix underlying32 sizeOf30 (by omega) rfl rfl <| .yy (Zy (FieldT.mk underlying30 rfl sizeOf3 rfl) (.t rfl)) rfl <| .z) fun a w S => ?_
         refine Zj (op_stFld (enc := Dot.enc) (size := 3) (i := acc.length - 1) (j := 2) m S (fun _ => rfl) sizeOf3 (.t rfl) (.t rfl) rfl (k := 1) rfl hy (by omega) rfl (by
           obtain ⟨e1, e2⟩ := hsa
           simp [Dot.enc, e1, e2]) ?_)
         clear S
         intro a w S
         have hlen2 : (acc.set (acc.length - 1) m).length = acc.length := by simp
         rw [← hp2] at hlen2 S
         rw [← hlen2] at S
         refine Zb (Za (hK6 _ _ (wp_exit (Zh (Ya (Za (hK4 _ _ (wp_region_lit (run S (.ad (by unfold I64; omega) rfl <| .mv rfl <| .z) fun a w S => Zb (Za ?_))))))))))
         exact ⟨(k + 1, some ⟨gD, 0, none⟩, cD), by dsimp only; omega, by dsimp only; omega, S.wk⟩
       · have rw_p : acc ++ [m] = setF (l'.take (k + 1)) := by rw [hp]; unfold pushM; rw [hlast]; simp only; rw [if_neg hsa]
         refine sg S (.lt (by omega) rfl rfl <| .z) fun a w S => wp_seq_k fun _ hK4 => Zg S (.t rfl) (wp_skip (Za (hK4 _ _ (wp_seq_k fun _ hK4 => wp_block (wp_seq_k fun _ hK5 => wp_region_lit (run S (.ix underlying33 sizeOf74 (by omega) rfl rfl <| .yy (Wu ⟨isAgg74, sizeOf74⟩ (.t rfl) (k := 2) rfl hmm (fun _ => rfl)) rfl <| .z) fun a w S => Zj (Zn S zeroValue74 (cs := _) rfl rfl fun g3 a w S => Zj (Zq S sizeOf74 (.t rfl) (.t rfl) (k := 0) rfl rfl rfl (by simp [Value.oneCell']) fun a w S => Zb (Za (hK5 _ _ (sg S (.fa underlying35 sizeOf32 0 rfl rfl rfl <| .ld gt32 2 rfl rfl rfl <| .ln underlying32 rfl <| .as rfl <| .z) fun a w S => wp_seq_k fun _ hK5 => wp_seq_k fun _ hK6 => Yc S (by kernel_rfl) (by kernel_rfl) fun a S => qrun S (.mv rfl <| .yy (Yu (by omega) (Yn (.t rfl) Ev.c)) rfl <| .mv rfl <| .gy rfl rfl (Zc (FieldT.mk underlying35 rfl sizeOf32 rfl) (.t rfl) (i' := 0) rfl) <| .gy rfl rfl (Zt ⟨isAgg32, sizeOf32⟩ (.t rfl) (k := 2) rfl rfl) <| .gy rfl rfl (Zi (.t rfl)) <| .gy rfl rfl (Xm (.t rfl) Ev.c (fun _ => by unfold I64; omega)) <| .z) fun a S => ?_)))))))))))
         rw [rw_n] at S
         refine qrun S (.gy rfl rfl (Ym underlying32 sizeOf30 (.t rfl) (.t rfl) (fun _ => by omega)) <| .gy rfl rfl (Wu ⟨isAgg30, sizeOf30⟩ (.t rfl) (k := 1) rfl hy (fun _ => rfl)) <| .gx rfl rfl (Zf call163 (.cons (.t rfl) .nil) (fun hp w W => c163 _ _ _ _)) <| .gx rfl rfl (Zf call141 (.cons (.t rfl) .nil) (fun hp w W => c141 _ _ _ _)) <| .gy rfl rfl (Zz ⟨isAgg74, sizeOf74⟩ (.t rfl) (k := 0) rfl rfl) <| .gx rfl rfl (Zf call141 (.cons (.t rfl) .nil) (fun hp w W => c141 _ _ _ _)) <| .gy rfl rfl (Wa (.t rfl) (.t rfl) eq66) <| .yy (Zv (.t rfl) (.t rfl)) rfl <| .z) fun a S => ?_
         (refine Yt ?_; intro w W; replace S := St.mk S W; clear W)
         refine Za (hK6 _ _ (Xz S (.t rfl) (fun h1 => absurd h1 (by first | assumption | omega)) (fun _ => wp_skip (Za (hK5 _ _ (wp_region_lit (run S (.fa underlying35 sizeOf32 0 rfl rfl rfl <| .ld gt32 2 rfl rfl rfl <| .la gt74 0 rfl rfl rfl <| .z) fun a w S => Zj (Yf S underlying32 inf30 rfl rfl rfl (.t rfl) rfl rfl rfl fun g4 a w S => Zj (Yw S underlying32 inf30 rfl (k := 2) (j := 0) rfl (.t rfl) (.t rfl) rfl rfl rfl rfl (by first | omega | (simp only [List.length_append, List.length_cons, List.length_nil]; omega)) rfl rfl rfl fun A1 cap1 a w S => ?_)))))))))
         rw [rw_p] at S
         refine run S (.fa underlying35 sizeOf32 0 rfl rfl rfl <| .z) fun a w S => Zj (op_st S sizeOf32 (.t rfl) (.t rfl) (k := 3) rfl rfl (by simp) fun a w S => Zb (Zk (Za (hK4 _ _ (wp_region_lit (run S (.ad (by unfold I64; omega) rfl <| .mv rfl <| .z) fun a w S => Zb (Za ?_)))))))
         exact ⟨(k + 1, A1, cap1), by dsimp only; omega, by dsimp only; omega, S.wk⟩
   · obtain rfl : k = l'.length := by omega
     rw [List.take_length] at S
     clear hk hlt
     refine sg S (.ge (by omega) rfl rfl <| .z) fun a w S => wp_seq_k fun _ hK4 => Ze S (.t rfl) (wp_exit (Zh (Zh (Ya (Za (hK1 _ _ (wp_seq_k fun _ hK1 => wp_region_lit (run S (.mv rfl <| .z) fun a w S => ?_))))))))
     (refine Zj (Yb S call136 (.cons (.t rfl) .nil) (c136 _ _ _ (by exact .old S.wd (by assumption)) (by omega)) rfl ?_); clear S a w; rintro _ _ ⟨A1, c1, rfl, rfl⟩ a w S)
     refine run S (.as rfl <| .z) fun a w S => Zb (Za (hK1 _ _ (wp_seq_k fun _ hK1 => wp_region_lit (run S (.mv rfl <| .z) fun a w S => Zj (Vn S call164 (.cons (.t rfl) (.cons Ev.f .nil)) (k164 S.wd halld (by omega)) rfl ?_)))))
     clear S
     rintro _ _ ⟨d', rfl, hpd, hsd, rfl⟩ a w S
     have hdl := hpd.length_eq
     rw [← hdl] at S
     have hgr := normal_grown hall halld hpl hpd hsd
     have hcl := compact_len d'
     have hcm : ∀ x ∈ compactL d', mayD x = true := fun x hx => halld x (hpd.mem_iff.1 ((compact_mem d').1 hx))
     have hcs := compact_lt d' hsd
     have h0 : Nf ⟨setF l', []⟩ := ⟨setF_sorted l', List.Pairwise.nil, setF_may (fun x hx => hall x (hpl.mem_iff.1 hx)), (fun x hx => by cases hx), (fun x hx => by cases hx)⟩
     have hsl3 := setF_len l'
     refine Zb (Za (hK1 _ _ (wp_seq_k fun _ hK1 => wp_region_lit (run S (.mv rfl <| .z) fun a w S => ?_))))
     (refine Zj (Vn S call166 (.cons (.t rfl) .nil) (c166 S.wd (by first | assumption | omega | (dsimp only; omega) | exact Sl.nil_ | exact .old S.wd (by assumption) | exact Sl.of_own S.wd (k := 0) rfl (fun _ => rfl) | exact Sl.of_own S.wd (k := 1) rfl (fun _ => rfl) | exact Sl.of_own S.wd (k := 2) rfl (fun _ => rfl) | exact Sl.of_own S.wd (k := 3) rfl (fun _ => rfl) | exact Sl.of_own S.wd (k := 4) rfl (fun _ => rfl) | (simp; done) | (simp at *; omega))) rfl ?_) <;> clear S a w)
     rintro _ _ ⟨rfl, rfl⟩ a w S
     refine run S (.as rfl <| .z) fun a w S => Zb (Za (hK1 _ _ (wp_seq_k fun _ hK1 => sg S (.mv rfl <| .ln underlying33 rfl <| .mc rfl <| .z) fun a w S => wp_block ?_)))
     generalize compactL d' = b at S hgr hcl hcm hcs
     replace S := S.nil_ 74 3 Dot.enc none
     (replace S := S.pull 2 rfl; try simp only [List.set_cons_zero, List.set_cons_succ, List.eraseIdx_cons_succ, List.eraseIdx_cons_zero] at S)
     refine Xk S (X := Nat × (Option Addr × Nat) × (Option Addr × Nat)) (fun q => [(95, true, .int .i64 (q.1 : Int))])
       (fun q _ => [rowOf 30 3 Dot.enc q.2.1.1 q.2.1.2 ((b.take q.1).foldl growC ⟨setF l', []⟩).marks, rowOf 74 3 Dot.enc q.2.2.1 q.2.2.2 ((b.take q.1).foldl growC ⟨setF l', []⟩).cloud, rowOf 74 3 Dot.enc A1 c1 b, .blk g2 (.cells #[.slice q.2.1.1 ((b.take q.1).foldl growC ⟨setF l', []⟩).marks.length q.2.1.2, .slice q.2.2.1 ((b.take q.1).foldl growC ⟨setF l', []⟩).cloud.length q.2.2.2] 35), .blk g1 (.cells #[.slice none 0 0, .slice none 0 0] 35)])
       (fun q => q.1 ≤ b.length) (fun q => b.length - q.1) (0, (D, cD), (none, 0)) (Nat.zero_le _) ?_
     clear S
     intro ⟨k, ⟨A2, c2⟩, A3, c3⟩ a w hk S
     dsimp only at hk S
     have hlk := growF_len (b.take k) ⟨setF l', []⟩
     have hbk : (b.take k).length = k := by simp; omega
     dsimp only at hlk
     rw [hbk, List.length_nil] at hlk
     by_cases hlt : k < b.length
     · obtain ⟨m, hmm⟩ : ∃ m, b[k]? = some m := ⟨b[k], by simp⟩
       obtain ⟨gB, rfl⟩ := S.wd.row_at (k := 2) rfl (by have := (S.wd.room (k := 2) rfl).1; omega)
       have hC := (growF_ok (b.take k) ⟨setF l', []⟩ h0 (fun x hx => hcm x (List.mem_of_mem_take hx)) (hcs.sublist (List.take_sublist _ _)) (fun e he => by cases he)).1
       have rw_eta : (⟨m.node, m.life, m.count⟩ : Dot) = m := rfl
       have rw_f : growC ((b.take k).foldl growC ⟨setF l', []⟩) m = (b.take (k + 1)).foldl growC ⟨setF l', []⟩ := by rw [List.take_add_one, hmm]; simp
       have hmay := hcm m (List.mem_of_getElem? hmm)
       generalize (b.take k).foldl growC ⟨setF l', []⟩ = C at S hlk hC rw_f
       have hCm := hC.marks
       have hCy := hC.mayM
       have hl1 : C.marks.length ≤ 4194304 := by omega
       have hl2 : C.cloud.length ≤ 4194304 := by omega
       refine sg S (.lt (by omega) rfl rfl <| .z) fun a w S => wp_seq_k fun _ hK5 => Zg S (.t rfl) (wp_skip (Za (hK5 _ _ (wp_seq_k fun _ hK5 => wp_block (wp_seq_k fun _ hK6 => wp_region_lit (run S (.ix underlying33 sizeOf74 (by omega) rfl rfl <| .yy (Wu ⟨isAgg74, sizeOf74⟩ (.t rfl) (k := 2) rfl hmm (fun _ => rfl)) rfl <| .z) fun a w S => Zj (Zn S zeroValue74 (cs := _) rfl rfl fun g3 a w S => Zj (Zq S sizeOf74 (.t rfl) (.t rfl) (k := 0) rfl rfl rfl (by simp [Value.oneCell']) fun a w S => Zb (Za (hK6 _ _ (wp_region_lit (run S (.la gt35 4 rfl rfl rfl <| .la gt74 0 rfl rfl rfl <| .z) fun a w S => ?_))))))))))))
       (replace S := S.pull 2 rfl; try simp only [List.set_cons_zero, List.set_cons_succ, List.eraseIdx_cons_succ, List.eraseIdx_cons_zero] at S; replace S := S.pull 2 rfl; try simp only [List.set_cons_zero, List.set_cons_succ, List.eraseIdx_cons_succ, List.eraseIdx_cons_zero] at S; refine Zj (Vn S call167 (.cons (.t rfl) (.cons (.t rfl) .nil)) (c167 S.wd (by first | assumption | omega | (dsimp only; omega) | exact Sl.nil_ | exact .old S.wd (by assumption) | exact Sl.of_own S.wd (k := 0) rfl (fun _ => rfl) | exact Sl.of_own S.wd (k := 1) rfl (fun _ => rfl) | exact Sl.of_own S.wd (k := 2) rfl (fun _ => rfl) | exact Sl.of_own S.wd (k := 3) rfl (fun _ => rfl) | exact Sl.of_own S.wd (k := 4) rfl (fun _ => rfl) | exact Sl.of_own S.wd (k := 5) rfl (fun _ => rfl) | (simp; done) | (simp at *; omega)) (by first | assumption | omega | (dsimp only; omega) | exact Sl.nil_ | exact .old S.wd (by assumption) | exact Sl.of_own S.wd (k := 0) rfl (fun _ => rfl) | exact Sl.of_own S.wd (k := 1) rfl (fun _ => rfl) | exact Sl.of_own S.wd (k := 2) rfl (fun _ => rfl) | exact Sl.of_own S.wd (k := 3) rfl (fun _ => rfl) | exact Sl.of_own S.wd (k := 4) rfl (fun _ => rfl) | exact Sl.of_own S.wd (k := 5) rfl (fun _ => rfl) | (intro _ W'; first | exact .old W' (by assumption) | exact Sl.of_own W' (k := 0) rfl (fun _ => rfl) | exact Sl.of_own W' (k := 1) rfl (fun _ => rfl) | exact Sl.of_own W' (k := 2) rfl (fun _ => rfl) | exact Sl.of_own W' (k := 3) rfl (fun _ => rfl) | exact Sl.of_own W' (k := 4) rfl (fun _ => rfl) | exact Sl.of_own W' (k := 5) rfl (fun _ => rfl)) | (simp; done) | (simp at *; omega)) (by first | assumption | omega | (dsimp only; omega) | exact Sl.nil_ | exact .old S.wd (by assumption) | exact Sl.of_own S.wd (k := 0) rfl (fun _ => rfl) | exact Sl.of_own S.wd (k := 1) rfl (fun _ => rfl) | exact Sl.of_own S.wd (k := 2) rfl (fun _ => rfl) | exact Sl.of_own S.wd (k := 3) rfl (fun _ => rfl) | exact Sl.of_own S.wd (k := 4) rfl (fun _ => rfl) | exact Sl.of_own S.wd (k := 5) rfl (fun _ => rfl) | (simp; done) | (simp at *; omega)) (by first | assumption | omega | (dsimp only; omega) | exact Sl.nil_ | exact .old S.wd (by assumption) | exact Sl.of_own S.wd (k := 0) rfl (fun _ => rfl) | exact Sl.of_own S.wd (k := 1) rfl (fun _ => rfl) | exact Sl.of_own S.wd (k := 2) rfl (fun _ => rfl) | exact Sl.of_own S.wd (k := 3) rfl (fun _ => rfl) | exact Sl.of_own S.wd (k := 4) rfl (fun _ => rfl) | exact Sl.of_own S.wd (k := 5) rfl (fun _ => rfl) | (simp; done) | (simp at *; omega)) (by first | assumption | omega | (dsimp only; omega) | exact Sl.nil_ | exact .old S.wd (by assumption) | exact Sl.of_own S.wd (k := 0) rfl (fun _ => rfl) | exact Sl.of_own S.wd (k := 1) rfl (fun _ => rfl) | exact Sl.of_own S.wd (k := 2) rfl (fun _ => rfl) | exact Sl.of_own S.wd (k := 3) rfl (fun _ => rfl) | exact Sl.of_own S.wd (k := 4) rfl (fun _ => rfl) | exact Sl.of_own S.wd (k := 5) rfl (fun _ => rfl) | (simp; done) | (simp at *; omega))) rfl ?_) <;> clear S a w)
       rintro _ _ ⟨A11, c11, A21, c21, rfl, rfl⟩ a w S
       rw [rw_eta] at S
       rw [rw_f] at S
       refine Zj (Zq S sizeOf35 (.t rfl) (.t rfl) (k := 4) rfl rfl rfl (by simp [Value.oneCell']) fun a w S => Zb (Zk (Za (hK5 _ _ (wp_region_lit (run S (.ad (by unfold I64; omega) rfl <| .mv rfl <| .z) fun a w S => Zb (Za ?_)))))))
       exact ⟨(k + 1, (_, _), (_, _)), by dsimp only; omega, by dsimp only; omega, S.pk⟩
     · obtain rfl : k = b.length := by omega
       rw [List.take_length, hgr] at S
       clear hk hlt
       generalize settledL ((insF d).length + 1) (setF l) (insF d) = R at S hok
       by_cases h1 : 64 < R.marks.length ∨ 64 < R.cloud.length
       · rw [if_pos h1] at hok
         by_cases h2 : 64 < R.marks.length
         · refine sg S (.ge (by omega) rfl rfl <| .z) fun a w S => wp_seq_k fun _ hK5 => Ze S (.t rfl) (wp_exit (Zh (Zh (Ya (Za (hK1 _ _ (wp_seq_k fun _ hK1 => sg S (.fa underlying35 sizeOf32 0 rfl rfl rfl <| .ld gt32 3 rfl rfl rfl <| .ln underlying32 rfl <| .yy (Yu (by omega) (Yn (.t rfl) Ev.c)) rfl <| .mv rfl <| .sk rfl rfl rfl <| .sk rfl rfl rfl <| .sk rfl rfl rfl <| .sk rfl rfl rfl <| .yy (Zv (.t rfl) Ev.c) rfl <| .z) fun a w S => Zg S (.t rfl) (wp_seq_k fun _ hK6 => wp_region_lit (run S (.yy (Xd (ps := []) (us := [_, _]) bld35 .nil rfl) rfl <| .z) fun a w S => Zj (Zq S sizeOf35 (.t rfl) (.t rfl) (k := 4) rfl rfl rfl (by simp [Value.oneCell']) fun a w S => run S (.ac rfl <| .z) fun a w S => Zb (Za (hK6 _ _ (wp_ret (Zd (Zm S (results2 S results112 (Rv.cell (k := 4) ⟨isAgg35, sizeOf35⟩ rfl rfl rfl) (Rv.tmp rfl)) ?_)))))))))))))))
           rw [hok]
           exact ⟨_, _, rfl, ((S.nil_ 74 3 Dot.enc none).nil_ 30 3 Dot.enc none).wd.sub (by repeat (first | exact List.Sublist.refl _ | exact List.nil_sublist _ | refine .cons_cons _ ?_ | refine .cons _ ?_)), none, 0, none, 0, rfl, rfl⟩
         · refine sg S (.ge (by omega) rfl rfl <| .z) fun a w S => wp_seq_k fun _ hK5 => Ze S (.t rfl) (wp_exit (Zh (Zh (Ya (Za (hK1 _ _ (wp_seq_k fun _ hK1 => sg S (.fa underlying35 sizeOf32 0 rfl rfl rfl <| .ld gt32 3 rfl rfl rfl <| .ln underlying32 rfl <| .yy (Yq (by omega) (Yn (.t rfl) Ev.c)) rfl <| .mv rfl <| .gy rfl rfl (Zc (FieldT.mk underlying35 rfl sizeOf33 rfl) (.t rfl) (i' := 1) rfl) <| .gy rfl rfl (Zt ⟨isAgg33, sizeOf33⟩ (.t rfl) (k := 3) rfl rfl) <| .gy rfl rfl (Wt underlying33 (.t rfl)) <| .gy rfl rfl (Yu (by omega) (Yn (.t rfl) Ev.c)) <| .yy (Zu (.t rfl) (.t rfl)) rfl <| .z) fun a w S => Zg S (.t rfl) (wp_seq_k fun _ hK6 => wp_region_lit (run S (.yy (Xd (ps := []) (us := [_, _]) bld35 .nil rfl) rfl <| .z) fun a w S => Zj (Zq S sizeOf35 (.t rfl) (.t rfl) (k := 4) rfl rfl rfl (by simp [Value.oneCell']) fun a w S => run S (.ac rfl <| .z) fun a w S => Zb (Za (hK6 _ _ (wp_ret (Zd (Zm S (results2 S results112 (Rv.cell (k := 4) ⟨isAgg35, sizeOf35⟩ rfl rfl rfl) (Rv.tmp rfl)) ?_)))))))))))))))
           rw [hok]
           exact ⟨_, _, rfl, ((S.nil_ 74 3 Dot.enc none).nil_ 30 3 Dot.enc none).wd.sub (by repeat (first | exact List.Sublist.refl _ | exact List.nil_sublist _ | refine .cons_cons _ ?_ | refine .cons _ ?_)), none, 0, none, 0, rfl, rfl⟩
       · rw [if_neg h1] at hok
         refine sg S (.ge (by omega) rfl rfl <| .z) fun a w S => wp_seq_k fun _ hK5 => Ze S (.t rfl) (wp_exit (Zh (Zh (Ya (Za (hK1 _ _ (wp_seq_k fun _ hK1 => sg S (.fa underlying35 sizeOf32 0 rfl rfl rfl <| .ld gt32 3 rfl rfl rfl <| .ln underlying32 rfl <| .yy (Yq (by omega) (Yn (.t rfl) Ev.c)) rfl <| .mv rfl <| .gy rfl rfl (Zc (FieldT.mk underlying35 rfl sizeOf33 rfl) (.t rfl) (i' := 1) rfl) <| .gy rfl rfl (Zt ⟨isAgg33, sizeOf33⟩ (.t rfl) (k := 3) rfl rfl) <| .gy rfl rfl (Wt underlying33 (.t rfl)) <| .gy rfl rfl (Yq (by omega) (Yn (.t rfl) Ev.c)) <| .yy (Zu (.t rfl) (.t rfl)) rfl <| .z) fun a w S => Ze S (.t rfl) (wp_skip (Za (hK1 _ _ (wp_seq_k fun _ hK1 => wp_region_lit (run S (.la gt35 3 rfl rfl rfl <| .z) fun a w S => Zj (Zq S sizeOf35 (.t rfl) (.t rfl) (k := 4) rfl rfl rfl (by simp [Value.oneCell']) fun a w S => run S (.ac rfl <| .z) fun a w S => Zb (Za (hK1 _ _ (wp_ret (Zm S (results2 S results112 (Rv.cell (k := 4) ⟨isAgg35, sizeOf35⟩ rfl rfl rfl) (Rv.tmp rfl)) ?_)))))))))))))))))
         rw [hok]
         exact ⟨_, _, rfl, S.wd.sub (by repeat (first | exact List.Sublist.refl _ | exact List.nil_sublist _ | refine .cons_cons _ ?_ | refine .cons _ ?_)), A2, c2, A3, c3, rfl, rfl⟩
end Go.Proofs.YtakpdbmdfnialaaGreat
set_option maxHeartbeats 4000000
namespace Go.Fw
theorem cov_may {C : Ctx} {d : Dot} (hC : canL C = true) (h : C.covers d = true) : mayD d = true := by
 have hN := can_nf hC
 obtain ⟨h1, h2⟩ := (Xc C d).1 h
 rcases h2 with h2 | h2
 · have hm := hN.mayM _ (markOf_pos (x := d.node) (y := d.life) (l := C.marks) (by omega))
   have := Xw hm
   unfold mayD
   simp only [decide_eq_true_eq]
   dsimp only at this
   omega
 · exact hN.mayC _ h2
theorem norm_one {d : Dot} : (normalL [] [d]).2 = if mayD d = true then 0 else 1 := by
 cases h : mayD d with
 | false => rw [normalL_bad2 (k := 0) rfl h]; rfl
 | true =>
   rw [normalL_ok (by simp) (by simp [h]), if_neg]
   · simp
   · have := settledL_len ((insF [d]).length + 1) (setF []) (insF [d])
     have e1 : (insF [d]).length = 1 := rfl
     have e2 : (setF []).length = 0 := rfl
     omega
end Go.Fw
namespace Go.Proofs.YtakpdbmdfnialaaGreat
open Go.Fw Go.Proofs Go.RowKit Go.Proofs.Tryz
theorem c138 (w0 : World) (v1 v2 v3 : Value) (l : List Ent) (C : Ctx) (k : Nat) (x : Ent) (h : Sl Ent.enc 6 w0 w0.heap.size v1 l) (hr : RdCtx w0 w0.heap.size v2 v3 C) (hx : l[k]? = some x) (hC : canL C = true) (hp : ∀ y ∈ l.take k, C.covers y.dot = true) (hk64 : k ≤ 64) :
   Calls Tryz.prog 138 #[.agg #[v1, v2, v3], .int .i64 (k : Int)] w0 fun e w' => e = .returned (.int .i64 (entE C (l.take k) x)) ∧ Bel w0.heap.size w0 w' := by
 have hs := h
 obtain ⟨A, cap, rfl, hl, hcap, hA⟩ := h
 have hlt : k < l.length := (List.getElem?_eq_some_iff.1 hx).1
 obtain ⟨g, o, x', rfl, hx', hd, hc⟩ := Yg hA hlt
 rw [hx] at hx'
 cases hx'
 cases rw_n : nameB x.item with
 | false =>
   have he : entE C (l.take k) x = 6 := by unfold entE; rw [if_pos rw_n]
   rw [he]
   refine enter2 func138 rfl ntmps138 rfl fun a S => wp_seq_k fun _ hK1 => wp_region_lit (Zj (Zw S (.t rfl) rfl fun g1 a w S => run S (.ac rfl <| .z) fun a w S => Zb (Za (hK1 _ _ (wp_seq_k fun _ hK1 => wp_region_lit (run S (.fa underlying37 sizeOf31 0 rfl rfl rfl <| .ld gt31 0 rfl rfl rfl <| .mv rfl <| .ix underlying31 sizeOf100 (by omega) rfl rfl <| .yy (Zp ⟨isAgg100, sizeOf100⟩ (.t rfl) (vs := [_, _, _, _, _, _]) rfl (fun _ => hc)) rfl <| .z) fun a w S => Zj (Zn S zeroValue100 (cs := _) rfl rfl fun g2 a w S => Zj (Zq S sizeOf100 (.t rfl) (.t rfl) (k := 0) rfl rfl rfl (by simp [Value.oneCell']) fun a w S => Zb (Za (hK1 _ _ (wp_seq_k fun _ hK1 => wp_block (wp_seq_k fun _ hK2 => wp_region_lit (run S (.fa underlying100 sizeOf9 0 rfl rfl rfl <| .ld gt9 0 rfl rfl rfl <| .xx (Zf call157 (.cons (.t rfl) .nil) (fun hp w W => c157 _ _)) rfl <| .z) fun a w S => ?_)))))))))))))
   rw [rw_n] at S
   refine run S (.nt rfl <| .as rfl <| .z) fun a w S => Zb (Za (hK2 _ _ (Zg S (.t rfl) (sg S (.ac rfl <| .z) fun a w S => wp_ret (Zr (Zd (Zm S (results1 S results138 (Rv.tmp rfl)) ?_)))))))
   exact ⟨rfl, S.wd.below⟩
 | true =>
 by_cases hq : x.qty < 1 ∨ 1000000 < x.qty
 · have he : entE C (l.take k) x = 52 := by unfold entE; rw [if_neg (by simp [rw_n]), if_pos hq]
   rw [he]
   have rw_q : (decide (x.qty < 1) || decide (1000000 < x.qty)) = true := by simp; omega
   refine enter2 func138 rfl ntmps138 rfl fun a S => wp_seq_k fun _ hK1 => wp_region_lit (Zj (Zw S (.t rfl) rfl fun g1 a w S => run S (.ac rfl <| .z) fun a w S => Zb (Za (hK1 _ _ (wp_seq_k fun _ hK1 => wp_region_lit (run S (.fa underlying37 sizeOf31 0 rfl rfl rfl <| .ld gt31 0 rfl rfl rfl <| .mv rfl <| .ix underlying31 sizeOf100 (by omega) rfl rfl <| .yy (Zp ⟨isAgg100, sizeOf100⟩ (.t rfl) (vs := [_, _, _, _, _, _]) rfl (fun _ => hc)) rfl <| .z) fun a w S => Zj (Zn S zeroValue100 (cs := _) rfl rfl fun g2 a w S => Zj (Zq S sizeOf100 (.t rfl) (.t rfl) (k := 0) rfl rfl rfl (by simp [Value.oneCell']) fun a w S => Zb (Za (hK1 _ _ (wp_seq_k fun _ hK1 => wp_block (wp_seq_k fun _ hK2 => wp_region_lit (run S (.fa underlying100 sizeOf9 0 rfl rfl rfl <| .ld gt9 0 rfl rfl rfl <| .xx (Zf call157 (.cons (.t rfl) .nil) (fun hp w W => c157 _ _)) rfl <| .z) fun a w S => ?_)))))))))))))
   rw [rw_n] at S
   refine run S (.nt rfl <| .as rfl <| .z) fun a w S => Zb (Za (hK2 _ _ (Ze S (.t rfl) (wp_seq_k fun _ hK2 => wp_region_lit (run S (.fa underlying100 sizeOf3 4 rfl rfl rfl <| .ld gt3 0 rfl rfl rfl <| .yy (Yy (.t rfl) Ev.c) rfl <| .mv rfl <| .z) fun a w S => Yp S rfl rfl (Yr.ys (Zc (FieldT.mk underlying100 rfl sizeOf3 rfl) (.t rfl) (i' := 4) rfl)) rfl fun a w S => Yp S rfl rfl (Yr.ys (Zt ⟨isAgg3, sizeOf3⟩ (Ev.g rfl) (k := 0) rfl rfl)) rfl fun a w S => Yp S rfl rfl (Yr.ys (Yn (Ev.g rfl) Ev.c)) rfl fun a w S => run S (.yy (Wj (.t rfl) Ev.c (Ev.g rfl)) rfl <| .z) fun a w S => ?_)))))
   rw [rw_q] at S
   refine run S (.as rfl <| .z) fun a w S => Zb (Za (hK2 _ _ (Zg S (.t rfl) (sg S (.ac rfl <| .z) fun a w S => wp_ret (Zr (Zd (Zm S (results1 S results138 (Rv.tmp rfl)) ?_)))))))
   exact ⟨rfl, S.wd.below⟩
 have rw_q : (decide (x.qty < 1) || decide (1000000 < x.qty)) = false := by simp; omega
 cases rw_p : priceB x.price with
 | false =>
   have he : entE C (l.take k) x = 53 := by unfold entE; rw [if_neg (by simp [rw_n]), if_neg hq, if_pos rw_p]
   rw [he]
   refine enter2 func138 rfl ntmps138 rfl fun a S => wp_seq_k fun _ hK1 => wp_region_lit (Zj (Zw S (.t rfl) rfl fun g1 a w S => run S (.ac rfl <| .z) fun a w S => Zb (Za (hK1 _ _ (wp_seq_k fun _ hK1 => wp_region_lit (run S (.fa underlying37 sizeOf31 0 rfl rfl rfl <| .ld gt31 0 rfl rfl rfl <| .mv rfl <| .ix underlying31 sizeOf100 (by omega) rfl rfl <| .yy (Zp ⟨isAgg100, sizeOf100⟩ (.t rfl) (vs := [_, _, _, _, _, _]) rfl (fun _ => hc)) rfl <| .z) fun a w S => Zj (Zn S zeroValue100 (cs := _) rfl rfl fun g2 a w S => Zj (Zq S sizeOf100 (.t rfl) (.t rfl) (k := 0) rfl rfl rfl (by simp [Value.oneCell']) fun a w S => Zb (Za (hK1 _ _ (wp_seq_k fun _ hK1 => wp_block (wp_seq_k fun _ hK2 => wp_region_lit (run S (.fa underlying100 sizeOf9 0 rfl rfl rfl <| .ld gt9 0 rfl rfl rfl <| .xx (Zf call157 (.cons (.t rfl) .nil) (fun hp w W => c157 _ _)) rfl <| .z) fun a w S => ?_)))))))))))))
   rw [rw_n] at S
   refine run S (.nt rfl <| .as rfl <| .z) fun a w S => Zb (Za (hK2 _ _ (Ze S (.t rfl) (sg S (.fa underlying100 sizeOf3 4 rfl rfl rfl <| .ld gt3 0 rfl rfl rfl <| .yy (Yq (by omega) (Yy (.t rfl) Ev.c)) rfl <| .mv rfl <| .gy rfl rfl (Zc (FieldT.mk underlying100 rfl sizeOf3 rfl) (.t rfl) (i' := 4) rfl) <| .gy rfl rfl (Zt ⟨isAgg3, sizeOf3⟩ (.t rfl) (k := 0) rfl rfl) <| .gy rfl rfl (Yq (by omega) (Yn (.t rfl) Ev.c)) <| .yy (Zu (.t rfl) (.t rfl)) rfl <| .as rfl <| .z) fun a w S => Ze S (.t rfl) (wp_seq_k fun _ hK2 => wp_region_lit (run S (.fa underlying100 sizeOf75 5 rfl rfl rfl <| .ld gt75 0 rfl rfl rfl <| .xx (Zf call158 (.cons (.t rfl) .nil) (fun hp w W => c158 _ _)) rfl <| .z) fun a w S => ?_))))))
   rw [rw_p] at S
   refine run S (.nt rfl <| .as rfl <| .z) fun a w S => Zb (Za (hK2 _ _ (Zg S (.t rfl) (sg S (.ac rfl <| .z) fun a w S => wp_ret (Zr (Zd (Zm S (results1 S results138 (Rv.tmp rfl)) ?_)))))))
   exact ⟨rfl, S.wd.below⟩
 | true =>
 have he0 : entE C (l.take k) x = if C.covers x.dot = false ∨ backE (l.take k).getLast? x = true then 50 else if x.dot ∈ (l.take k).map (·.dot) then 50 else 0 := by unfold entE; rw [if_neg (by simp [rw_n]), if_neg hq, if_neg (by simp [rw_p])]
 cases rw_c : C.covers x.dot with
 | false =>
   rw [if_pos (.inl rw_c)] at he0
   rw [he0]
   have rw_c2 : C.covers ⟨x.dot.node, x.dot.life, x.dot.count⟩ = false := rw_c
   refine enter2 func138 rfl ntmps138 rfl fun a S => wp_seq_k fun _ hK1 => wp_region_lit (Zj (Zw S (.t rfl) rfl fun g1 a w S => run S (.ac rfl <| .z) fun a w S => Zb (Za (hK1 _ _ (wp_seq_k fun _ hK1 => wp_region_lit (run S (.fa underlying37 sizeOf31 0 rfl rfl rfl <| .ld gt31 0 rfl rfl rfl <| .mv rfl <| .ix underlying31 sizeOf100 (by omega) rfl rfl <| .yy (Zp ⟨isAgg100, sizeOf100⟩ (.t rfl) (vs := [_, _, _, _, _, _]) rfl (fun _ => hc)) rfl <| .z) fun a w S => Zj (Zn S zeroValue100 (cs := _) rfl rfl fun g2 a w S => Zj (Zq S sizeOf100 (.t rfl) (.t rfl) (k := 0) rfl rfl rfl (by simp [Value.oneCell']) fun a w S => Zb (Za (hK1 _ _ (wp_seq_k fun _ hK1 => wp_block (wp_seq_k fun _ hK2 => wp_region_lit (run S (.fa underlying100 sizeOf9 0 rfl rfl rfl <| .ld gt9 0 rfl rfl rfl <| .xx (Zf call157 (.cons (.t rfl) .nil) (fun hp w W => c157 _ _)) rfl <| .z) fun a w S => ?_)))))))))))))
   rw [rw_n] at S
   refine run S (.nt rfl <| .as rfl <| .z) fun a w S => Zb (Za (hK2 _ _ (Ze S (.t rfl) (sg S (.fa underlying100 sizeOf3 4 rfl rfl rfl <| .ld gt3 0 rfl rfl rfl <| .yy (Yq (by omega) (Yy (.t rfl) Ev.c)) rfl <| .mv rfl <| .gy rfl rfl (Zc (FieldT.mk underlying100 rfl sizeOf3 rfl) (.t rfl) (i' := 4) rfl) <| .gy rfl rfl (Zt ⟨isAgg3, sizeOf3⟩ (.t rfl) (k := 0) rfl rfl) <| .gy rfl rfl (Yq (by omega) (Yn (.t rfl) Ev.c)) <| .yy (Zu (.t rfl) (.t rfl)) rfl <| .as rfl <| .z) fun a w S => Ze S (.t rfl) (wp_seq_k fun _ hK2 => wp_region_lit (run S (.fa underlying100 sizeOf75 5 rfl rfl rfl <| .ld gt75 0 rfl rfl rfl <| .xx (Zf call158 (.cons (.t rfl) .nil) (fun hp w W => c158 _ _)) rfl <| .z) fun a w S => ?_))))))
   rw [rw_p] at S
   refine run S (.nt rfl <| .as rfl <| .z) fun a w S => Zb (Za (hK2 _ _ (Ze S (.t rfl) (wp_seq_k fun _ hK2 => Yc S (by kernel_rfl) (by kernel_rfl) fun a S => qrun S (.fa underlying37 sizeOf35 1 rfl rfl rfl <| .la gt35 1 rfl rfl rfl <| .fa underlying100 sizeOf74 1 rfl rfl rfl <| .la gt74 0 rfl rfl rfl <| .xx (Zf call109 (.cons (.t rfl) (.cons (.t rfl) .nil)) (fun hp w W => c109 _ _ _ _ _ _ _ (by exact .old W (by assumption)))) rfl <| .z) fun a S => ?_))))
   rw [rw_c] at S
   refine qrun S (.nt rfl <| .mv rfl <| .sk rfl rfl rfl <| .sk rfl rfl rfl <| .sk rfl rfl rfl <| .s0 rfl rfl <| .s0 rfl rfl <| .s0 rfl rfl <| .s0 rfl rfl <| .s0 rfl rfl <| .s0 rfl rfl <| .s0 rfl rfl <| .s0 rfl rfl <| .s0 rfl rfl <| .sk rfl rfl rfl <| .yy (Zv (.t rfl) Ev.c) rfl <| .as rfl <| .z) fun a S => ?_
   (refine Yt ?_; intro w W; replace S := St.mk S W; clear W)
   refine Za (hK2 _ _ (Zg S (.t rfl) (sg S (.ac rfl <| .z) fun a w S => wp_ret (Zr (Zd (Zm S (results1 S results138 (Rv.tmp rfl)) ?_))))))
   exact ⟨rfl, S.wd.below⟩
 | true =>
 have rw_c2 : C.covers ⟨x.dot.node, x.dot.life, x.dot.count⟩ = true := rw_c
 rcases k with _ | k
 · have hnb : ¬ (C.covers x.dot = false ∨ backE (l.take 0).getLast? x = true) := by simp [rw_c, backE]
   refine enter2 func138 rfl ntmps138 rfl fun a S => wp_seq_k fun _ hK1 => wp_region_lit (Zj (Zw S (.t rfl) rfl fun g1 a w S => run S (.ac rfl <| .z) fun a w S => Zb (Za (hK1 _ _ (wp_seq_k fun _ hK1 => wp_region_lit (run S (.fa underlying37 sizeOf31 0 rfl rfl rfl <| .ld gt31 0 rfl rfl rfl <| .mv rfl <| .yy (Ym (j := 0) underlying31 sizeOf100 (.t rfl) (.t rfl) (fun _ => by omega)) rfl <| .yy (Zp ⟨isAgg100, sizeOf100⟩ (.t rfl) (vs := [_, _, _, _, _, _]) rfl (fun _ => hc)) rfl <| .z) fun a w S => Zj (Zn S zeroValue100 (cs := _) rfl rfl fun g2 a w S => Zj (Zq S sizeOf100 (.t rfl) (.t rfl) (k := 0) rfl rfl rfl (by simp [Value.oneCell']) fun a w S => Zb (Za (hK1 _ _ (wp_seq_k fun _ hK1 => wp_block (wp_seq_k fun _ hK2 => wp_region_lit (run S (.fa underlying100 sizeOf9 0 rfl rfl rfl <| .ld gt9 0 rfl rfl rfl <| .xx (Zf call157 (.cons (.t rfl) .nil) (fun hp w W => c157 _ _)) rfl <| .z) fun a w S => ?_)))))))))))))
   rw [rw_n] at S
   refine run S (.nt rfl <| .as rfl <| .z) fun a w S => Zb (Za (hK2 _ _ (Ze S (.t rfl) (sg S (.fa underlying100 sizeOf3 4 rfl rfl rfl <| .ld gt3 0 rfl rfl rfl <| .yy (Yq (by omega) (Yy (.t rfl) Ev.c)) rfl <| .mv rfl <| .gy rfl rfl (Zc (FieldT.mk underlying100 rfl sizeOf3 rfl) (.t rfl) (i' := 4) rfl) <| .gy rfl rfl (Zt ⟨isAgg3, sizeOf3⟩ (.t rfl) (k := 0) rfl rfl) <| .gy rfl rfl (Yq (by omega) (Yn (.t rfl) Ev.c)) <| .yy (Zu (.t rfl) (.t rfl)) rfl <| .as rfl <| .z) fun a w S => Ze S (.t rfl) (wp_seq_k fun _ hK2 => wp_region_lit (run S (.fa underlying100 sizeOf75 5 rfl rfl rfl <| .ld gt75 0 rfl rfl rfl <| .xx (Zf call158 (.cons (.t rfl) .nil) (fun hp w W => c158 _ _)) rfl <| .z) fun a w S => ?_))))))
   rw [rw_p] at S
   refine run S (.nt rfl <| .as rfl <| .z) fun a w S => Zb (Za (hK2 _ _ (Ze S (.t rfl) (wp_seq_k fun _ hK2 => Yc S (by kernel_rfl) (by kernel_rfl) fun a S => qrun S (.fa underlying37 sizeOf35 1 rfl rfl rfl <| .la gt35 1 rfl rfl rfl <| .fa underlying100 sizeOf74 1 rfl rfl rfl <| .la gt74 0 rfl rfl rfl <| .xx (Zf call109 (.cons (.t rfl) (.cons (.t rfl) .nil)) (fun hp w W => c109 _ _ _ _ _ _ _ (by exact .old W (by assumption)))) rfl <| .z) fun a S => ?_))))
   rw [rw_c] at S
   refine qrun S (.nt rfl <| .mv rfl <| .gy rfl rfl (Zi (.t rfl)) <| .gy rfl rfl (Yq (by omega) (Yn (.t rfl) Ev.c)) <| .gy rfl rfl (Zi (.t rfl)) <| .sk rfl rfl rfl <| .sk rfl rfl rfl <| .sk rfl rfl rfl <| .sk rfl rfl rfl <| .sk rfl rfl rfl <| .sk rfl rfl rfl <| .sk rfl rfl rfl <| .sk rfl rfl rfl <| .sk rfl rfl rfl <| .gy rfl rfl (Zu (.t rfl) Ev.c) <| .yy (Zu (.t rfl) (.t rfl)) rfl <| .as rfl <| .z) fun a S => ?_
   (refine Yt ?_; intro w W; replace S := St.mk S W; clear W)
   refine Za (hK2 _ _ (Ze S (.t rfl) (wp_skip (Zk (Za (hK1 _ _ (wp_seq_k fun _ hK1 => sg S (.fa underlying37 sizeOf31 0 rfl rfl rfl <| .ld gt31 1 rfl rfl rfl <| .mv rfl <| .yy (Va underlying31 sizeOf100 (.t rfl) (.t rfl) (fun _ => by first | omega | (simp; done) | (simp; omega))) rfl <| .ln underlying31 rfl <| .mc rfl <| .z) fun a w S => wp_block ?_)))))))
   refine Xb S [7, 59] (X := Nat) (fun j => [(59, true, .int .i64 (j : Int))]) (fun _ => [.blk g2 (.cells (Ent.enc x).toArray 100), .blk g1 (.cells #[.slice (some ⟨g, o, none⟩) l.length cap, v2, v3] 37)])
     (fun j => j ≤ 0 ∧ x.dot ∉ (l.take j).map (·.dot)) (fun j => 0 - j) 0 ⟨Nat.zero_le _, by simp⟩ ?_
   clear S
   intro j a w ⟨hj, hdup⟩ S
   by_cases hjk : j < 0
   · obtain ⟨g3, o3, y, e3, hy, hdy, hcy⟩ := Yg hA (show j < l.length by omega)
     cases e3
     by_cases he : y.dot = x.dot
     · have hin : x.dot ∈ (l.take (0)).map (·.dot) := he ▸ dup_at hjk hy
       rw [if_neg hnb, if_pos hin] at he0
       rw [he0]
       have rw_e := decide_eq_true (Wn.1 he)
       refine sg S (.lt (by omega) rfl rfl <| .z) fun a w S => wp_seq_k fun _ hK2 => Zg S (.t rfl) (wp_skip (Za (hK2 _ _ (wp_seq_k fun _ hK2 => wp_block (wp_seq_k fun _ hK3 => wp_region_lit (run S (.ix underlying31 sizeOf100 (by omega) rfl rfl <| .yy (Zp ⟨isAgg100, sizeOf100⟩ (.t rfl) (vs := [_, _, _, _, _, _]) rfl (fun _ => hcy)) rfl <| .z) fun a w S => Zj (Zn S zeroValue100 (cs := _) rfl rfl fun g3 a w S => Zj (Zq S sizeOf100 (.t rfl) (.t rfl) (k := 0) rfl rfl rfl (by simp [Value.oneCell']) fun a w S => Zb (Za (hK3 _ _ (wp_seq_k fun _ hK3 => wp_region_lit (run S (.fa underlying100 sizeOf74 1 rfl rfl rfl <| .la gt74 0 rfl rfl rfl <| .fa underlying100 sizeOf74 1 rfl rfl rfl <| .la gt74 1 rfl rfl rfl <| .yy (Wa (.t rfl) (.t rfl) eq74) rfl <| .z) fun a w S => ?_))))))))))))
       rw [rw_e] at S
       refine Zb (Za (hK3 _ _ (Zg S (.t rfl) (sg S (.ac rfl <| .z) fun a w S => wp_ret (Zr (Zd (Zd (Zr (Zd (Zm S (results1 S results138 (Rv.tmp rfl)) ?_))))))))))
       exact ⟨rfl, S.wd.below⟩
     · have rw_e := decide_eq_false (fun h => he (Wn.2 h))
       refine sg S (.lt (by omega) rfl rfl <| .z) fun a w S => wp_seq_k fun _ hK2 => Zg S (.t rfl) (wp_skip (Za (hK2 _ _ (wp_seq_k fun _ hK2 => wp_block (wp_seq_k fun _ hK3 => wp_region_lit (run S (.ix underlying31 sizeOf100 (by omega) rfl rfl <| .yy (Zp ⟨isAgg100, sizeOf100⟩ (.t rfl) (vs := [_, _, _, _, _, _]) rfl (fun _ => hcy)) rfl <| .z) fun a w S => Zj (Zn S zeroValue100 (cs := _) rfl rfl fun g3 a w S => Zj (Zq S sizeOf100 (.t rfl) (.t rfl) (k := 0) rfl rfl rfl (by simp [Value.oneCell']) fun a w S => Zb (Za (hK3 _ _ (wp_seq_k fun _ hK3 => wp_region_lit (run S (.fa underlying100 sizeOf74 1 rfl rfl rfl <| .la gt74 0 rfl rfl rfl <| .fa underlying100 sizeOf74 1 rfl rfl rfl <| .la gt74 1 rfl rfl rfl <| .yy (Wa (.t rfl) (.t rfl) eq74) rfl <| .z) fun a w S => ?_))))))))))))
       rw [rw_e] at S
       refine Zb (Za (hK3 _ _ (Ze S (.t rfl) (wp_skip (Zk (Za (hK2 _ _ (wp_region_lit (run S (.ad (by unfold I64; omega) rfl <| .mv rfl <| .z) fun a w S => Zb (Za ?_))))))))))
       exact ⟨j + 1, ⟨by omega, dup_step hy hdup he⟩, by omega, S.pk⟩
   · obtain rfl : j = 0 := by omega
     rw [if_neg hnb, if_neg hdup] at he0
     refine sg S (.ge (by omega) rfl rfl <| .z) fun a w S => wp_seq_k fun _ hK2 => Ze S (.t rfl) (wp_exit (Zh (Zh (Ya (Za (hK1 _ _ (sg S (.ac rfl <| .z) fun a w S => wp_ret (Zm S (results1 S results138 (Rv.tmp rfl)) ?_))))))))
     exact ⟨by rw [he0], S.wd.below⟩
 obtain ⟨g4, o4, p, e4, hp4, hdp, hcp⟩ := Yg hA (show k < l.length by omega)
 cases e4
 rw [take_last hp4] at he0
 have hmp : mayD p.dot = true := cov_may hC (hp p (List.mem_of_getElem? (i := k) (by rw [List.getElem?_take, if_pos (by omega), hp4])))
 have hmx : mayD x.dot = true := cov_may hC rw_c
 by_cases hlt2 : ltE p x
 · have hnb : ¬ (C.covers x.dot = false ∨ backE (some p) x = true) := by simp [rw_c, backE, hlt2]
   have rw_l : decide (0 ≤ ordE p x) = false := decide_eq_false (by have := (ordE_iff p x).2 hlt2; omega)
   refine enter2 func138 rfl ntmps138 rfl fun a S => wp_seq_k fun _ hK1 => wp_region_lit (Zj (Zw S (.t rfl) rfl fun g1 a w S => run S (.ac rfl <| .z) fun a w S => Zb (Za (hK1 _ _ (wp_seq_k fun _ hK1 => wp_region_lit (run S (.fa underlying37 sizeOf31 0 rfl rfl rfl <| .ld gt31 0 rfl rfl rfl <| .mv rfl <| .ix underlying31 sizeOf100 (by omega) rfl rfl <| .yy (Zp ⟨isAgg100, sizeOf100⟩ (.t rfl) (vs := [_, _, _, _, _, _]) rfl (fun _ => hc)) rfl <| .z) fun a w S => Zj (Zn S zeroValue100 (cs := _) rfl rfl fun g2 a w S => Zj (Zq S sizeOf100 (.t rfl) (.t rfl) (k := 0) rfl rfl rfl (by simp [Value.oneCell']) fun a w S => Zb (Za (hK1 _ _ (wp_seq_k fun _ hK1 => wp_block (wp_seq_k fun _ hK2 => wp_region_lit (run S (.fa underlying100 sizeOf9 0 rfl rfl rfl <| .ld gt9 0 rfl rfl rfl <| .xx (Zf call157 (.cons (.t rfl) .nil) (fun hp w W => c157 _ _)) rfl <| .z) fun a w S => ?_)))))))))))))
   rw [rw_n] at S
   refine run S (.nt rfl <| .as rfl <| .z) fun a w S => Zb (Za (hK2 _ _ (Ze S (.t rfl) (sg S (.fa underlying100 sizeOf3 4 rfl rfl rfl <| .ld gt3 0 rfl rfl rfl <| .yy (Yq (by omega) (Yy (.t rfl) Ev.c)) rfl <| .mv rfl <| .gy rfl rfl (Zc (FieldT.mk underlying100 rfl sizeOf3 rfl) (.t rfl) (i' := 4) rfl) <| .gy rfl rfl (Zt ⟨isAgg3, sizeOf3⟩ (.t rfl) (k := 0) rfl rfl) <| .gy rfl rfl (Yq (by omega) (Yn (.t rfl) Ev.c)) <| .yy (Zu (.t rfl) (.t rfl)) rfl <| .as rfl <| .z) fun a w S => Ze S (.t rfl) (wp_seq_k fun _ hK2 => wp_region_lit (run S (.fa underlying100 sizeOf75 5 rfl rfl rfl <| .ld gt75 0 rfl rfl rfl <| .xx (Zf call158 (.cons (.t rfl) .nil) (fun hp w W => c158 _ _)) rfl <| .z) fun a w S => ?_))))))
   rw [rw_p] at S
   refine run S (.nt rfl <| .as rfl <| .z) fun a w S => Zb (Za (hK2 _ _ (Ze S (.t rfl) (wp_seq_k fun _ hK2 => Yc S (by kernel_rfl) (by kernel_rfl) fun a S => qrun S (.fa underlying37 sizeOf35 1 rfl rfl rfl <| .la gt35 1 rfl rfl rfl <| .fa underlying100 sizeOf74 1 rfl rfl rfl <| .la gt74 0 rfl rfl rfl <| .xx (Zf call109 (.cons (.t rfl) (.cons (.t rfl) .nil)) (fun hp w W => c109 _ _ _ _ _ _ _ (by exact .old W (by assumption)))) rfl <| .z) fun a S => ?_))))
   rw [rw_c] at S
   refine qrun S (.nt rfl <| .mv rfl <| .gy rfl rfl (Zi (.t rfl)) <| .gy rfl rfl (Yu (by omega) (Yn (.t rfl) Ev.c)) <| .gy rfl rfl (Zi (.t rfl)) <| .gy rfl rfl (Zc (FieldT.mk underlying37 rfl sizeOf31 rfl) (.t rfl) (i' := 0) rfl) <| .gy rfl rfl (Zt ⟨isAgg31, sizeOf31⟩ (.t rfl) (k := 1) rfl rfl) <| .gy rfl rfl (Zi (.t rfl)) <| .gy rfl rfl (Xt (.t rfl) Ev.c (by omega)) <| .gy rfl rfl (Ym underlying31 sizeOf100 (.t rfl) (.t rfl) (fun _ => by omega)) <| .gy rfl rfl (Zp ⟨isAgg100, sizeOf100⟩ (.t rfl) (vs := [_, _, _, _, _, _]) rfl (fun _ => hcp)) <| .gy rfl rfl (Zz ⟨isAgg100, sizeOf100⟩ (.t rfl) (k := 0) rfl rfl) <| .gx rfl rfl (Zf call179 (.cons (.t rfl) (.cons (.t rfl) .nil)) (fun hp w W => c179 _ _ _ (by assumption) (by assumption))) <| .gy rfl rfl (Xp (.t rfl) Ev.c) <| .z) fun a S => ?_
   rw [rw_l] at S
   refine qrun S (.gy rfl rfl (Zv (.t rfl) (.t rfl)) <| .yy (Zu (.t rfl) (.t rfl)) rfl <| .as rfl <| .z) fun a S => ?_
   (refine Yt ?_; intro w W; replace S := St.mk S W; clear W)
   refine Za (hK2 _ _ (Ze S (.t rfl) (wp_skip (Zk (Za (hK1 _ _ (wp_seq_k fun _ hK1 => sg S (.fa underlying37 sizeOf31 0 rfl rfl rfl <| .ld gt31 1 rfl rfl rfl <| .mv rfl <| .yy (Va underlying31 sizeOf100 (.t rfl) (.t rfl) (fun _ => by first | omega | (simp; done) | (simp; omega))) rfl <| .ln underlying31 rfl <| .mc rfl <| .z) fun a w S => wp_block ?_)))))))
   refine Xb S [7, 59] (X := Nat) (fun j => [(59, true, .int .i64 (j : Int))]) (fun _ => [.blk g2 (.cells (Ent.enc x).toArray 100), .blk g1 (.cells #[.slice (some ⟨g, o, none⟩) l.length cap, v2, v3] 37)])
     (fun j => j ≤ (k + 1) ∧ x.dot ∉ (l.take j).map (·.dot)) (fun j => (k + 1) - j) 0 ⟨Nat.zero_le _, by simp⟩ ?_
   clear S
   intro j a w ⟨hj, hdup⟩ S
   by_cases hjk : j < (k + 1)
   · obtain ⟨g3, o3, y, e3, hy, hdy, hcy⟩ := Yg hA (show j < l.length by omega)
     cases e3
     by_cases he : y.dot = x.dot
     · have hin : x.dot ∈ (l.take ((k + 1))).map (·.dot) := he ▸ dup_at hjk hy
       rw [if_neg hnb, if_pos hin] at he0
       rw [he0]
       have rw_e := decide_eq_true (Wn.1 he)
       refine sg S (.lt (by omega) rfl rfl <| .z) fun a w S => wp_seq_k fun _ hK2 => Zg S (.t rfl) (wp_skip (Za (hK2 _ _ (wp_seq_k fun _ hK2 => wp_block (wp_seq_k fun _ hK3 => wp_region_lit (run S (.ix underlying31 sizeOf100 (by omega) rfl rfl <| .yy (Zp ⟨isAgg100, sizeOf100⟩ (.t rfl) (vs := [_, _, _, _, _, _]) rfl (fun _ => hcy)) rfl <| .z) fun a w S => Zj (Zn S zeroValue100 (cs := _) rfl rfl fun g3 a w S => Zj (Zq S sizeOf100 (.t rfl) (.t rfl) (k := 0) rfl rfl rfl (by simp [Value.oneCell']) fun a w S => Zb (Za (hK3 _ _ (wp_seq_k fun _ hK3 => wp_region_lit (run S (.fa underlying100 sizeOf74 1 rfl rfl rfl <| .la gt74 0 rfl rfl rfl <| .fa underlying100 sizeOf74 1 rfl rfl rfl <| .la gt74 1 rfl rfl rfl <| .yy (Wa (.t rfl) (.t rfl) eq74) rfl <| .z) fun a w S => ?_))))))))))))
       rw [rw_e] at S
       refine Zb (Za (hK3 _ _ (Zg S (.t rfl) (sg S (.ac rfl <| .z) fun a w S => wp_ret (Zr (Zd (Zd (Zr (Zd (Zm S (results1 S results138 (Rv.tmp rfl)) ?_))))))))))
       exact ⟨rfl, S.wd.below⟩
     · have rw_e := decide_eq_false (fun h => he (Wn.2 h))
       refine sg S (.lt (by omega) rfl rfl <| .z) fun a w S => wp_seq_k fun _ hK2 => Zg S (.t rfl) (wp_skip (Za (hK2 _ _ (wp_seq_k fun _ hK2 => wp_block (wp_seq_k fun _ hK3 => wp_region_lit (run S (.ix underlying31 sizeOf100 (by omega) rfl rfl <| .yy (Zp ⟨isAgg100, sizeOf100⟩ (.t rfl) (vs := [_, _, _, _, _, _]) rfl (fun _ => hcy)) rfl <| .z) fun a w S => Zj (Zn S zeroValue100 (cs := _) rfl rfl fun g3 a w S => Zj (Zq S sizeOf100 (.t rfl) (.t rfl) (k := 0) rfl rfl rfl (by simp [Value.oneCell']) fun a w S => Zb (Za (hK3 _ _ (wp_seq_k fun _ hK3 => wp_region_lit (run S (.fa underlying100 sizeOf74 1 rfl rfl rfl <| .la gt74 0 rfl rfl rfl <| .fa underlying100 sizeOf74 1 rfl rfl rfl <| .la gt74 1 rfl rfl rfl <| .yy (Wa (.t rfl) (.t rfl) eq74) rfl <| .z) fun a w S => ?_))))))))))))
       rw [rw_e] at S
       refine Zb (Za (hK3 _ _ (Ze S (.t rfl) (wp_skip (Zk (Za (hK2 _ _ (wp_region_lit (run S (.ad (by unfold I64; omega) rfl <| .mv rfl <| .z) fun a w S => Zb (Za ?_))))))))))
       exact ⟨j + 1, ⟨by omega, dup_step hy hdup he⟩, by omega, S.pk⟩
   · obtain rfl : j = (k + 1) := by omega
     rw [if_neg hnb, if_neg hdup] at he0
     refine sg S (.ge (by omega) rfl rfl <| .z) fun a w S => wp_seq_k fun _ hK2 => Ze S (.t rfl) (wp_exit (Zh (Zh (Ya (Za (hK1 _ _ (sg S (.ac rfl <| .z) fun a w S => wp_ret (Zm S (results1 S results138 (Rv.tmp rfl)) ?_))))))))
     exact ⟨by rw [he0], S.wd.below⟩
 · rw [if_pos (.inr (by simp [backE, hlt2]))] at he0
   rw [he0]
   have rw_l : decide (0 ≤ ordE p x) = true := decide_eq_true (by have : ¬ ordE p x < 0 := fun h => hlt2 ((ordE_iff p x).1 h); omega)
   refine enter2 func138 rfl ntmps138 rfl fun a S => wp_seq_k fun _ hK1 => wp_region_lit (Zj (Zw S (.t rfl) rfl fun g1 a w S => run S (.ac rfl <| .z) fun a w S => Zb (Za (hK1 _ _ (wp_seq_k fun _ hK1 => wp_region_lit (run S (.fa underlying37 sizeOf31 0 rfl rfl rfl <| .ld gt31 0 rfl rfl rfl <| .mv rfl <| .ix underlying31 sizeOf100 (by omega) rfl rfl <| .yy (Zp ⟨isAgg100, sizeOf100⟩ (.t rfl) (vs := [_, _, _, _, _, _]) rfl (fun _ => hc)) rfl <| .z) fun a w S => Zj (Zn S zeroValue100 (cs := _) rfl rfl fun g2 a w S => Zj (Zq S sizeOf100 (.t rfl) (.t rfl) (k := 0) rfl rfl rfl (by simp [Value.oneCell']) fun a w S => Zb (Za (hK1 _ _ (wp_seq_k fun _ hK1 => wp_block (wp_seq_k fun _ hK2 => wp_region_lit (run S (.fa underlying100 sizeOf9 0 rfl rfl rfl <| .ld gt9 0 rfl rfl rfl <| .xx (Zf call157 (.cons (.t rfl) .nil) (fun hp w W => c157 _ _)) rfl <| .z) fun a w S => ?_)))))))))))))
   rw [rw_n] at S
   refine run S (.nt rfl <| .as rfl <| .z) fun a w S => Zb (Za (hK2 _ _ (Ze S (.t rfl) (sg S (.fa underlying100 sizeOf3 4 rfl rfl rfl <| .ld gt3 0 rfl rfl rfl <| .yy (Yq (by omega) (Yy (.t rfl) Ev.c)) rfl <| .mv rfl <| .gy rfl rfl (Zc (FieldT.mk underlying100 rfl sizeOf3 rfl) (.t rfl) (i' := 4) rfl) <| .gy rfl rfl (Zt ⟨isAgg3, sizeOf3⟩ (.t rfl) (k := 0) rfl rfl) <| .gy rfl rfl (Yq (by omega) (Yn (.t rfl) Ev.c)) <| .yy (Zu (.t rfl) (.t rfl)) rfl <| .as rfl <| .z) fun a w S => Ze S (.t rfl) (wp_seq_k fun _ hK2 => wp_region_lit (run S (.fa underlying100 sizeOf75 5 rfl rfl rfl <| .ld gt75 0 rfl rfl rfl <| .xx (Zf call158 (.cons (.t rfl) .nil) (fun hp w W => c158 _ _)) rfl <| .z) fun a w S => ?_))))))
   rw [rw_p] at S
   refine run S (.nt rfl <| .as rfl <| .z) fun a w S => Zb (Za (hK2 _ _ (Ze S (.t rfl) (wp_seq_k fun _ hK2 => Yc S (by kernel_rfl) (by kernel_rfl) fun a S => qrun S (.fa underlying37 sizeOf35 1 rfl rfl rfl <| .la gt35 1 rfl rfl rfl <| .fa underlying100 sizeOf74 1 rfl rfl rfl <| .la gt74 0 rfl rfl rfl <| .xx (Zf call109 (.cons (.t rfl) (.cons (.t rfl) .nil)) (fun hp w W => c109 _ _ _ _ _ _ _ (by exact .old W (by assumption)))) rfl <| .z) fun a S => ?_))))
   rw [rw_c] at S
   refine qrun S (.nt rfl <| .mv rfl <| .gy rfl rfl (Zi (.t rfl)) <| .gy rfl rfl (Yu (by omega) (Yn (.t rfl) Ev.c)) <| .gy rfl rfl (Zi (.t rfl)) <| .gy rfl rfl (Zc (FieldT.mk underlying37 rfl sizeOf31 rfl) (.t rfl) (i' := 0) rfl) <| .gy rfl rfl (Zt ⟨isAgg31, sizeOf31⟩ (.t rfl) (k := 1) rfl rfl) <| .gy rfl rfl (Zi (.t rfl)) <| .gy rfl rfl (Xt (.t rfl) Ev.c (by omega)) <| .gy rfl rfl (Ym underlying31 sizeOf100 (.t rfl) (.t rfl) (fun _ => by omega)) <| .gy rfl rfl (Zp ⟨isAgg100, sizeOf100⟩ (.t rfl) (vs := [_, _, _, _, _, _]) rfl (fun _ => hcp)) <| .gy rfl rfl (Zz ⟨isAgg100, sizeOf100⟩ (.t rfl) (k := 0) rfl rfl) <| .gx rfl rfl (Zf call179 (.cons (.t rfl) (.cons (.t rfl) .nil)) (fun hp w W => c179 _ _ _ (by assumption) (by assumption))) <| .gy rfl rfl (Xp (.t rfl) Ev.c) <| .z) fun a S => ?_
   rw [rw_l] at S
   refine qrun S (.gy rfl rfl (Zv (.t rfl) (.t rfl)) <| .yy (Zu (.t rfl) (.t rfl)) rfl <| .as rfl <| .z) fun a S => ?_
   (refine Yt ?_; intro w W; replace S := St.mk S W; clear W)
   refine Za (hK2 _ _ (Zg S (.t rfl) (sg S (.ac rfl <| .z) fun a w S => wp_ret (Zr (Zd (Zm S (results1 S results138 (Rv.tmp rfl)) ?_))))))
   exact ⟨rfl, S.wd.below⟩
theorem c66 (w0 : World) (v1 v2 v3 : Value) (c : Cart) (h : Sl Ent.enc 6 w0 w0.heap.size v1 c.ents) (hr : RdCtx w0 w0.heap.size v2 v3 c.ctx) :
   Calls Tryz.prog 66 #[.agg #[v1, v2, v3]] w0 fun e w' => e = .returned (.int .i64 (canE c)) ∧ Bel w0.heap.size w0 w' := by
 obtain ⟨l, C⟩ := c
 dsimp only at h hr
 have hs := h
 obtain ⟨A, cap, rfl, hl, hcap, hA⟩ := h
 unfold canE
 dsimp only
 cases rw_C : canL C with
 | false =>
   refine enter1 func66 rfl ntmps66 rfl fun a S => wp_seq_k fun _ hK1 => wp_region_lit (Zj (Zw S (.t rfl) rfl fun g1 a w S => run S (.ac rfl <| .z) fun a w S => Zb (Za (hK1 _ _ (wp_seq_k fun _ hK1 => wp_block (wp_seq_k fun _ hK2 => wp_region_lit (run S (.fa underlying37 sizeOf35 1 rfl rfl rfl <| .la gt35 0 rfl rfl rfl <| .xx (Zf call137 (.cons (.t rfl) .nil) (fun hp w W => c137 _ _ _ _ (by exact .old W (by assumption)))) rfl <| .z) fun a w S => ?_)))))))
   rw [rw_C] at S
   refine run S (.nt rfl <| .as rfl <| .z) fun a w S => Zb (Za (hK2 _ _ (Zg S (.t rfl) (sg S (.ac rfl <| .z) fun a w S => wp_ret (Zr (Zd (Zm S (results1 S results66 (Rv.tmp rfl)) ?_)))))))
   exact ⟨rfl, S.wd.below⟩
 | true =>
 rw [if_neg (by simp)]
 by_cases hbig : 64 < l.length
 · refine enter1 func66 rfl ntmps66 rfl fun a S => wp_seq_k fun _ hK1 => wp_region_lit (Zj (Zw S (.t rfl) rfl fun g1 a w S => run S (.ac rfl <| .z) fun a w S => Zb (Za (hK1 _ _ (wp_seq_k fun _ hK1 => wp_block (wp_seq_k fun _ hK2 => wp_region_lit (run S (.fa underlying37 sizeOf35 1 rfl rfl rfl <| .la gt35 0 rfl rfl rfl <| .xx (Zf call137 (.cons (.t rfl) .nil) (fun hp w W => c137 _ _ _ _ (by exact .old W (by assumption)))) rfl <| .z) fun a w S => ?_)))))))
   rw [rw_C] at S
   refine run S (.nt rfl <| .as rfl <| .z) fun a w S => Zb (Za (hK2 _ _ (Ze S (.t rfl) (sg S (.fa underlying37 sizeOf31 0 rfl rfl rfl <| .ld gt31 0 rfl rfl rfl <| .ln underlying31 rfl <| .yy (Yu (by omega) (Yn (.t rfl) Ev.c)) rfl <| .as rfl <| .z) fun a w S => Zg S (.t rfl) (sg S (.ac rfl <| .z) fun a w S => wp_ret (Zr (Zd (Zm S (results1 S results66 (Rv.tmp rfl)) ?_))))))))
   exact ⟨by rw [if_pos hbig], S.wd.below⟩
 rw [if_neg hbig]
 refine enter1 func66 rfl ntmps66 rfl fun a S => wp_seq_k fun _ hK1 => wp_region_lit (Zj (Zw S (.t rfl) rfl fun g1 a w S => run S (.ac rfl <| .z) fun a w S => Zb (Za (hK1 _ _ (wp_seq_k fun _ hK1 => wp_block (wp_seq_k fun _ hK2 => wp_region_lit (run S (.fa underlying37 sizeOf35 1 rfl rfl rfl <| .la gt35 0 rfl rfl rfl <| .xx (Zf call137 (.cons (.t rfl) .nil) (fun hp w W => c137 _ _ _ _ (by exact .old W (by assumption)))) rfl <| .z) fun a w S => ?_)))))))
 rw [rw_C] at S
 refine run S (.nt rfl <| .as rfl <| .z) fun a w S => Zb (Za (hK2 _ _ (Ze S (.t rfl) (sg S (.fa underlying37 sizeOf31 0 rfl rfl rfl <| .ld gt31 0 rfl rfl rfl <| .ln underlying31 rfl <| .yy (Yq (by omega) (Yn (.t rfl) Ev.c)) rfl <| .as rfl <| .z) fun a w S => Ze S (.t rfl) (wp_skip (Zk (Za (hK1 _ _ (wp_seq_k fun _ hK1 => sg S (.fa underlying37 sizeOf31 0 rfl rfl rfl <| .ld gt31 0 rfl rfl rfl <| .ln underlying31 rfl <| .mc rfl <| .z) fun a w S => wp_block ?_)))))))))
 refine Xb S [3, 4, 18] (X := Nat) (fun k => [(18, true, .int .i64 (k : Int))]) (fun _ => [.blk g1 (.cells #[.slice A l.length cap, v2, v3] 37)])
   (fun k => k ≤ l.length ∧ (∀ y ∈ l.take k, C.covers y.dot = true) ∧ entsE C (l.take k) (l.drop k) = entsE C [] l) (fun k => l.length - k) 0 ⟨Nat.zero_le _, by simp, rfl⟩ ?_
 clear S
 intro k a w ⟨hk, hcov, hno⟩ S
 by_cases hlt : k < l.length
 rotate_left
 · obtain rfl : k = l.length := by omega
   rw [List.drop_length, entsE] at hno
   by_cases hi : 32 < itemsN l
   · refine sg S (.ge (by omega) rfl rfl <| .z) fun a w S => wp_seq_k fun _ hK2 => Ze S (.t rfl) (wp_exit (Zh (Zh (Ya (Za (hK1 _ _ (wp_seq_k fun _ hK1 => sg S (.fa underlying37 sizeOf31 0 rfl rfl rfl <| .ld gt31 0 rfl rfl rfl <| .xx (Zf call139 (.cons (.t rfl) .nil) (fun hp w W => c139 _ _ _ (by exact .old W (by assumption)) (by omega))) rfl <| .yy (Yu (by omega) (Yn (.t rfl) Ev.c)) rfl <| .z) fun a w S => Zg S (.t rfl) (sg S (.ac rfl <| .z) fun a w S => wp_ret (Zd (Zm S (results1 S results66 (Rv.tmp rfl)) ?_))))))))))
     exact ⟨by rw [if_pos hno.symm, if_pos hi], S.wd.below⟩
   · refine sg S (.ge (by omega) rfl rfl <| .z) fun a w S => wp_seq_k fun _ hK2 => Ze S (.t rfl) (wp_exit (Zh (Zh (Ya (Za (hK1 _ _ (wp_seq_k fun _ hK1 => sg S (.fa underlying37 sizeOf31 0 rfl rfl rfl <| .ld gt31 0 rfl rfl rfl <| .xx (Zf call139 (.cons (.t rfl) .nil) (fun hp w W => c139 _ _ _ (by exact .old W (by assumption)) (by omega))) rfl <| .yy (Yq (by omega) (Yn (.t rfl) Ev.c)) rfl <| .z) fun a w S => Ze S (.t rfl) (wp_skip (Za (hK1 _ _ (sg S (.ac rfl <| .z) fun a w S => wp_ret (Zm S (results1 S results66 (Rv.tmp rfl)) ?_))))))))))))
     exact ⟨by rw [if_pos hno.symm, if_neg hi], S.wd.below⟩
 obtain ⟨x, hx⟩ : ∃ x, l[k]? = some x := ⟨_, List.getElem?_eq_getElem hlt⟩
 have hst := ents_step (C := C) hx
 rw [hno] at hst
 by_cases he : entE C (l.take k) x = 0
 · have hcx := (entE_ok.1 he).1.cov
   rw [if_pos he] at hst
   have rw_e := he
   refine sg S (.lt (by omega) rfl rfl <| .z) fun a w S => wp_seq_k fun _ hK2 => Zg S (.t rfl) (wp_skip (Za (hK2 _ _ (wp_seq_k fun _ hK2 => wp_block (sg S (.mv rfl <| .as rfl <| .z) fun a w S => wp_seq_k fun _ hK3 => wp_region_lit (run S (.la gt37 0 rfl rfl rfl <| .mv rfl <| .xx (Zf call138 (.cons (.t rfl) (.cons (.t rfl) .nil)) (fun hp w W => c138 _ _ _ _ _ _ _ _ (by exact .old W (by assumption)) (by exact .old W (by assumption)) (by assumption) (by assumption) (by assumption) (by omega))) rfl <| .z) fun a w S => ?_))))))
   rw [rw_e] at S
   refine run S (.as rfl <| .z) fun a w S => Zb (Za (hK3 _ _ (sg S (.mv rfl <| .yy (Yq (by omega) (Yh (.t rfl) Ev.c)) rfl <| .z) fun a w S => Ze S (.t rfl) (wp_skip (Zk (Za (hK2 _ _ (wp_region_lit (run S (.ad (by unfold I64; omega) rfl <| .mv rfl <| .z) fun a w S => Zb (Za ?_))))))))))
   refine ⟨k + 1, ⟨by omega, fun y hy => ?_, hst.symm⟩, by omega, S.pk⟩
   rw [List.take_add_one, hx, Option.toList_some] at hy
   rcases List.mem_append.1 hy with hy | hy
   · exact hcov y hy
   · simp at hy; exact hy ▸ hcx
 · rw [if_neg he] at hst
   refine sg S (.lt (by omega) rfl rfl <| .z) fun a w S => wp_seq_k fun _ hK2 => Zg S (.t rfl) (wp_skip (Za (hK2 _ _ (wp_seq_k fun _ hK2 => wp_block (sg S (.mv rfl <| .as rfl <| .z) fun a w S => sg S (.la gt37 0 rfl rfl rfl <| .mv rfl <| .xx (Zf call138 (.cons (.t rfl) (.cons (.t rfl) .nil)) (fun hp w W => c138 _ _ _ _ _ _ _ _ (by exact .old W (by assumption)) (by exact .old W (by assumption)) (by assumption) (by assumption) (by assumption) (by omega))) rfl <| .as rfl <| .z) fun a w S => sg S (.mv rfl <| .yy (Yu (by omega) (Yh (.t rfl) Ev.c)) rfl <| .z) fun a w S => Zg S (.t rfl) (sg S (.mv rfl <| .as rfl <| .z) fun a w S => wp_ret (Zr (Zd (Zd (Zr (Zd (Zm S (results1 S results66 (Rv.tmp rfl)) ?_))))))))))))
   exact ⟨by rw [hst, if_neg he], S.wd.below⟩
end Go.Proofs.YtakpdbmdfnialaaGreat
namespace Go.Fw
abbrev Upd.enc (u : Upd) (v1 v2 v3 : Value) : List Value := [.string (bs u.key), .int .i64 u.dot.node, .int .i64 u.dot.life, .int .i64 u.dot.count, .string (bs u.item), .int .i64 u.qty, .int .u64 (u.price.toNat : Int), v1, v2, v3]
theorem can_ctx {c : Cart} (h : canE c = 0) : canL c.ctx = true := ((canE_ok c).1 h).ctx
end Go.Fw
namespace Go.Proofs.YtakpdbmdfnialaaGreat
open Go.Fw Go.Proofs Go.RowKit Go.Proofs.Tryz
theorem sl_y1 {w0 w : World} {L : List Chunk} {k g : Nat} {t : TypeId} {fr : Nat × Nat} {x y z : Int} (W : Wd w0 L w) (hk : L[k]? = some (.blk g (.cells #[.int .i64 x, .int .i64 y, .int .i64 z] t fr))) : Sl Dot.enc 3 w w.heap.size (.slice (some ⟨g, 0, none⟩) 1 1) [⟨x, y, z⟩] := by
 refine ⟨some ⟨g, 0, none⟩, 1, rfl, by simp, by simp, fun _ => ⟨g, 0, rfl, ((W.get hk).lt (b := g) rfl).2, fun i d hd j u hj => ?_⟩⟩
 have h2 := (W.get hk).2
 rcases i with _ | i
 · simp at hd
   subst hd
   rw [cell_of_row w g (0 + 0 * 3 + j) _ t fr h2]
   simpa [Dot.enc] using hj
 · simp at hd
theorem c106 (w0 : World) (u : Upd) (v1 v2 v3 : Value) (h : Sl Ent.enc 6 w0 w0.heap.size v1 u.seen.ents) (hr : RdCtx w0 w0.heap.size v2 v3 u.seen.ctx) :
   Calls Tryz.prog 106 #[.agg (Upd.enc u v1 v2 v3).toArray] w0 fun e w' => e = .returned (.int .i64 (mayE u)) ∧ Bel w0.heap.size w0 w' := by
 have hs := h
 have hrr := hr
 obtain ⟨A, cap, rfl, _⟩ := h
 obtain ⟨⟨A2, cap2, rfl, _⟩, ⟨A3, cap3, rfl, _⟩⟩ := hr
 unfold mayE
 cases rw_k : nameB u.key with
 | false =>
   refine enter1 func106 rfl ntmps106 rfl fun a S => wp_seq_k fun _ hK1 => wp_region_lit (Zj (Zw S (.t rfl) rfl fun g1 a w S => run S (.ac rfl <| .z) fun a w S => Zb (Za (hK1 _ _ (wp_seq_k fun _ hK1 => wp_block (wp_seq_k fun _ hK2 => wp_region_lit (run S (.fa underlying77 sizeOf9 0 rfl rfl rfl <| .ld gt9 0 rfl rfl rfl <| .xx (Zf call157 (.cons (.t rfl) .nil) (fun hp w W => c157 _ _)) rfl <| .z) fun a w S => ?_)))))))
   rw [rw_k] at S
   refine run S (.nt rfl <| .mv rfl <| .sk rfl rfl rfl <| .sk rfl rfl rfl <| .sk rfl rfl rfl <| .sk rfl rfl rfl <| .yy (Zv (.t rfl) Ev.c) rfl <| .as rfl <| .z) fun a w S => Zb (Za (hK2 _ _ (Zg S (.t rfl) (sg S (.ac rfl <| .z) fun a w S => wp_ret (Zr (Zd (Zm S (results1 S results106 (Rv.tmp rfl)) ?_)))))))
   exact ⟨by rw [if_pos (.inl rfl)], S.wd.below⟩
 | true =>
 cases rw_i : nameB u.item with
 | false =>
   refine enter1 func106 rfl ntmps106 rfl fun a S => wp_seq_k fun _ hK1 => wp_region_lit (Zj (Zw S (.t rfl) rfl fun g1 a w S => run S (.ac rfl <| .z) fun a w S => Zb (Za (hK1 _ _ (wp_seq_k fun _ hK1 => wp_block (wp_seq_k fun _ hK2 => wp_region_lit (run S (.fa underlying77 sizeOf9 0 rfl rfl rfl <| .ld gt9 0 rfl rfl rfl <| .xx (Zf call157 (.cons (.t rfl) .nil) (fun hp w W => c157 _ _)) rfl <| .z) fun a w S => ?_)))))))
   rw [rw_k] at S
   refine run S (.nt rfl <| .mv rfl <| .gy rfl rfl (Zc (FieldT.mk underlying77 rfl sizeOf9 rfl) (.t rfl) (i' := 4) rfl) <| .gy rfl rfl (Zt ⟨isAgg9, sizeOf9⟩ (.t rfl) (k := 0) rfl rfl) <| .gx rfl rfl (Zf call157 (.cons (.t rfl) .nil) (fun hp w W => c157 _ _)) <| .z) fun a w S => ?_
   rw [rw_i] at S
   refine run S (.gy rfl rfl (Xh (.t rfl)) <| .yy (Zu (.t rfl) (.t rfl)) rfl <| .as rfl <| .z) fun a w S => Zb (Za (hK2 _ _ (Zg S (.t rfl) (sg S (.ac rfl <| .z) fun a w S => wp_ret (Zr (Zd (Zm S (results1 S results106 (Rv.tmp rfl)) ?_)))))))
   exact ⟨by rw [if_pos (.inr rfl)], S.wd.below⟩
 | true =>
 rw [if_neg (by simp)]
 by_cases hq : u.qty < 0 ∨ 1000000 < u.qty
 · have rw_q : (decide (u.qty < 0) || decide (1000000 < u.qty)) = true := by simp; omega
   refine enter1 func106 rfl ntmps106 rfl fun a S => wp_seq_k fun _ hK1 => wp_region_lit (Zj (Zw S (.t rfl) rfl fun g1 a w S => run S (.ac rfl <| .z) fun a w S => Zb (Za (hK1 _ _ (wp_seq_k fun _ hK1 => wp_block (wp_seq_k fun _ hK2 => wp_region_lit (run S (.fa underlying77 sizeOf9 0 rfl rfl rfl <| .ld gt9 0 rfl rfl rfl <| .xx (Zf call157 (.cons (.t rfl) .nil) (fun hp w W => c157 _ _)) rfl <| .z) fun a w S => ?_)))))))
   rw [rw_k] at S
   refine run S (.nt rfl <| .mv rfl <| .gy rfl rfl (Zc (FieldT.mk underlying77 rfl sizeOf9 rfl) (.t rfl) (i' := 4) rfl) <| .gy rfl rfl (Zt ⟨isAgg9, sizeOf9⟩ (.t rfl) (k := 0) rfl rfl) <| .gx rfl rfl (Zf call157 (.cons (.t rfl) .nil) (fun hp w W => c157 _ _)) <| .z) fun a w S => ?_
   rw [rw_i] at S
   refine run S (.gy rfl rfl (Xh (.t rfl)) <| .yy (Zu (.t rfl) (.t rfl)) rfl <| .as rfl <| .z) fun a w S => Zb (Za (hK2 _ _ (Ze S (.t rfl) (wp_seq_k fun _ hK2 => wp_region_lit (run S (.fa underlying77 sizeOf3 5 rfl rfl rfl <| .ld gt3 0 rfl rfl rfl <| .yy (Yy (.t rfl) Ev.c) rfl <| .mv rfl <| .z) fun a w S => Yp S rfl rfl (Yr.ys (Zc (FieldT.mk underlying77 rfl sizeOf3 rfl) (.t rfl) (i' := 5) rfl)) rfl fun a w S => Yp S rfl rfl (Yr.ys (Zt ⟨isAgg3, sizeOf3⟩ (Ev.g rfl) (k := 0) rfl rfl)) rfl fun a w S => Yp S rfl rfl (Yr.ys (Yn (Ev.g rfl) Ev.c)) rfl fun a w S => run S (.yy (Wj (.t rfl) Ev.c (Ev.g rfl)) rfl <| .z) fun a w S => ?_)))))
   rw [rw_q] at S
   refine run S (.as rfl <| .z) fun a w S => Zb (Za (hK2 _ _ (Zg S (.t rfl) (sg S (.ac rfl <| .z) fun a w S => wp_ret (Zr (Zd (Zm S (results1 S results106 (Rv.tmp rfl)) ?_)))))))
   exact ⟨by rw [if_pos hq], S.wd.below⟩
 have rw_q : (decide (u.qty < 0) || decide (1000000 < u.qty)) = false := by simp; omega
 rw [if_neg hq]
 cases rw_p : priceB u.price with
 | false =>
   refine enter1 func106 rfl ntmps106 rfl fun a S => wp_seq_k fun _ hK1 => wp_region_lit (Zj (Zw S (.t rfl) rfl fun g1 a w S => run S (.ac rfl <| .z) fun a w S => Zb (Za (hK1 _ _ (wp_seq_k fun _ hK1 => wp_block (wp_seq_k fun _ hK2 => wp_region_lit (run S (.fa underlying77 sizeOf9 0 rfl rfl rfl <| .ld gt9 0 rfl rfl rfl <| .xx (Zf call157 (.cons (.t rfl) .nil) (fun hp w W => c157 _ _)) rfl <| .z) fun a w S => ?_)))))))
   rw [rw_k] at S
   refine run S (.nt rfl <| .mv rfl <| .gy rfl rfl (Zc (FieldT.mk underlying77 rfl sizeOf9 rfl) (.t rfl) (i' := 4) rfl) <| .gy rfl rfl (Zt ⟨isAgg9, sizeOf9⟩ (.t rfl) (k := 0) rfl rfl) <| .gx rfl rfl (Zf call157 (.cons (.t rfl) .nil) (fun hp w W => c157 _ _)) <| .z) fun a w S => ?_
   rw [rw_i] at S
   refine run S (.gy rfl rfl (Xh (.t rfl)) <| .yy (Zu (.t rfl) (.t rfl)) rfl <| .as rfl <| .z) fun a w S => Zb (Za (hK2 _ _ (Ze S (.t rfl) (sg S (.fa underlying77 sizeOf3 5 rfl rfl rfl <| .ld gt3 0 rfl rfl rfl <| .yy (Yq (by omega) (Yy (.t rfl) Ev.c)) rfl <| .mv rfl <| .gy rfl rfl (Zc (FieldT.mk underlying77 rfl sizeOf3 rfl) (.t rfl) (i' := 5) rfl) <| .gy rfl rfl (Zt ⟨isAgg3, sizeOf3⟩ (.t rfl) (k := 0) rfl rfl) <| .gy rfl rfl (Yq (by omega) (Yn (.t rfl) Ev.c)) <| .yy (Zu (.t rfl) (.t rfl)) rfl <| .as rfl <| .z) fun a w S => Ze S (.t rfl) (wp_seq_k fun _ hK2 => wp_region_lit (run S (.fa underlying77 sizeOf75 6 rfl rfl rfl <| .ld gt75 0 rfl rfl rfl <| .xx (Zf call158 (.cons (.t rfl) .nil) (fun hp w W => c158 _ _)) rfl <| .z) fun a w S => ?_))))))
   rw [rw_p] at S
   refine run S (.nt rfl <| .mv rfl <| .sk rfl rfl rfl <| .sk rfl rfl rfl <| .sk rfl rfl rfl <| .sk rfl rfl rfl <| .s0 rfl rfl <| .s0 rfl rfl <| .s0 rfl rfl <| .sk rfl rfl rfl <| .yy (Zv (.t rfl) Ev.c) rfl <| .as rfl <| .z) fun a w S => Zb (Za (hK2 _ _ (Zg S (.t rfl) (sg S (.ac rfl <| .z) fun a w S => wp_ret (Zr (Zd (Zm S (results1 S results106 (Rv.tmp rfl)) ?_)))))))
   exact ⟨by rw [if_pos (.inl rfl)], S.wd.below⟩
 | true =>
 by_cases hz : u.qty = 0 ∧ u.price.toNat ≠ 0
 · have rw_z : (decide (u.qty = 0) && decide ((u.price.toNat : Int) ≠ 0)) = true := by simp; omega
   refine enter1 func106 rfl ntmps106 rfl fun a S => wp_seq_k fun _ hK1 => wp_region_lit (Zj (Zw S (.t rfl) rfl fun g1 a w S => run S (.ac rfl <| .z) fun a w S => Zb (Za (hK1 _ _ (wp_seq_k fun _ hK1 => wp_block (wp_seq_k fun _ hK2 => wp_region_lit (run S (.fa underlying77 sizeOf9 0 rfl rfl rfl <| .ld gt9 0 rfl rfl rfl <| .xx (Zf call157 (.cons (.t rfl) .nil) (fun hp w W => c157 _ _)) rfl <| .z) fun a w S => ?_)))))))
   rw [rw_k] at S
   refine run S (.nt rfl <| .mv rfl <| .gy rfl rfl (Zc (FieldT.mk underlying77 rfl sizeOf9 rfl) (.t rfl) (i' := 4) rfl) <| .gy rfl rfl (Zt ⟨isAgg9, sizeOf9⟩ (.t rfl) (k := 0) rfl rfl) <| .gx rfl rfl (Zf call157 (.cons (.t rfl) .nil) (fun hp w W => c157 _ _)) <| .z) fun a w S => ?_
   rw [rw_i] at S
   refine run S (.gy rfl rfl (Xh (.t rfl)) <| .yy (Zu (.t rfl) (.t rfl)) rfl <| .as rfl <| .z) fun a w S => Zb (Za (hK2 _ _ (Ze S (.t rfl) (sg S (.fa underlying77 sizeOf3 5 rfl rfl rfl <| .ld gt3 0 rfl rfl rfl <| .yy (Yq (by omega) (Yy (.t rfl) Ev.c)) rfl <| .mv rfl <| .gy rfl rfl (Zc (FieldT.mk underlying77 rfl sizeOf3 rfl) (.t rfl) (i' := 5) rfl) <| .gy rfl rfl (Zt ⟨isAgg3, sizeOf3⟩ (.t rfl) (k := 0) rfl rfl) <| .gy rfl rfl (Yq (by omega) (Yn (.t rfl) Ev.c)) <| .yy (Zu (.t rfl) (.t rfl)) rfl <| .as rfl <| .z) fun a w S => Ze S (.t rfl) (wp_seq_k fun _ hK2 => wp_region_lit (run S (.fa underlying77 sizeOf75 6 rfl rfl rfl <| .ld gt75 0 rfl rfl rfl <| .xx (Zf call158 (.cons (.t rfl) .nil) (fun hp w W => c158 _ _)) rfl <| .z) fun a w S => ?_))))))
   rw [rw_p] at S
   refine run S (.nt rfl <| .mv rfl <| .gy rfl rfl (Zc (FieldT.mk underlying77 rfl sizeOf3 rfl) (.t rfl) (i' := 5) rfl) <| .gy rfl rfl (Zt ⟨isAgg3, sizeOf3⟩ (.t rfl) (k := 0) rfl rfl) <| .gy rfl rfl (Yu (by omega) (Ye (.t rfl) Ev.c)) <| .gy rfl rfl (Zi (.t rfl)) <| .gy rfl rfl (Zc (FieldT.mk underlying77 rfl sizeOf75 rfl) (.t rfl) (i' := 6) rfl) <| .gy rfl rfl (Zt ⟨isAgg75, sizeOf75⟩ (.t rfl) (k := 0) rfl rfl) <| .gy rfl rfl (Yu (by omega) (Yh (.t rfl) Ev.c)) <| .gy rfl rfl (Zv (.t rfl) (.t rfl)) <| .yy (Zu (.t rfl) (.t rfl)) rfl <| .as rfl <| .z) fun a w S => Zb (Za (hK2 _ _ (Zg S (.t rfl) (sg S (.ac rfl <| .z) fun a w S => wp_ret (Zr (Zd (Zm S (results1 S results106 (Rv.tmp rfl)) ?_)))))))
   exact ⟨by rw [if_pos (.inr hz)], S.wd.below⟩
 have rw_z : (decide (u.qty = 0) && decide ((u.price.toNat : Int) ≠ 0)) = false := by
   by_cases h0 : u.qty = 0
   · have : u.price.toNat = 0 := Decidable.byContradiction fun h => hz ⟨h0, h⟩
     simp [this]
   · simp [h0]
 rw [if_neg (by rintro (h | h); cases h; exact hz h)]
 by_cases he : canE u.seen = 0
 rotate_left
 · refine enter1 func106 rfl ntmps106 rfl fun a S => wp_seq_k fun _ hK1 => wp_region_lit (Zj (Zw S (.t rfl) rfl fun g1 a w S => run S (.ac rfl <| .z) fun a w S => Zb (Za (hK1 _ _ (wp_seq_k fun _ hK1 => wp_block (wp_seq_k fun _ hK2 => wp_region_lit (run S (.fa underlying77 sizeOf9 0 rfl rfl rfl <| .ld gt9 0 rfl rfl rfl <| .xx (Zf call157 (.cons (.t rfl) .nil) (fun hp w W => c157 _ _)) rfl <| .z) fun a w S => ?_)))))))
   rw [rw_k] at S
   refine run S (.nt rfl <| .mv rfl <| .gy rfl rfl (Zc (FieldT.mk underlying77 rfl sizeOf9 rfl) (.t rfl) (i' := 4) rfl) <| .gy rfl rfl (Zt ⟨isAgg9, sizeOf9⟩ (.t rfl) (k := 0) rfl rfl) <| .gx rfl rfl (Zf call157 (.cons (.t rfl) .nil) (fun hp w W => c157 _ _)) <| .z) fun a w S => ?_
   rw [rw_i] at S
   refine run S (.gy rfl rfl (Xh (.t rfl)) <| .yy (Zu (.t rfl) (.t rfl)) rfl <| .as rfl <| .z) fun a w S => Zb (Za (hK2 _ _ (Ze S (.t rfl) (sg S (.fa underlying77 sizeOf3 5 rfl rfl rfl <| .ld gt3 0 rfl rfl rfl <| .yy (Yq (by omega) (Yy (.t rfl) Ev.c)) rfl <| .mv rfl <| .gy rfl rfl (Zc (FieldT.mk underlying77 rfl sizeOf3 rfl) (.t rfl) (i' := 5) rfl) <| .gy rfl rfl (Zt ⟨isAgg3, sizeOf3⟩ (.t rfl) (k := 0) rfl rfl) <| .gy rfl rfl (Yq (by omega) (Yn (.t rfl) Ev.c)) <| .yy (Zu (.t rfl) (.t rfl)) rfl <| .as rfl <| .z) fun a w S => Ze S (.t rfl) (wp_seq_k fun _ hK2 => wp_region_lit (run S (.fa underlying77 sizeOf75 6 rfl rfl rfl <| .ld gt75 0 rfl rfl rfl <| .xx (Zf call158 (.cons (.t rfl) .nil) (fun hp w W => c158 _ _)) rfl <| .z) fun a w S => ?_))))))
   rw [rw_p] at S
   refine run S (.nt rfl <| .mv rfl <| .gy rfl rfl (Zc (FieldT.mk underlying77 rfl sizeOf3 rfl) (.t rfl) (i' := 5) rfl) <| .gy rfl rfl (Zt ⟨isAgg3, sizeOf3⟩ (.t rfl) (k := 0) rfl rfl) <| .gy rfl rfl (Ye (.t rfl) Ev.c) <| .gy rfl rfl (Zi (.t rfl)) <| .z) fun a w S => Yd S rfl rfl (Yr.ys (Zc (FieldT.mk underlying77 rfl sizeOf75 rfl) (.t rfl) (i' := 6) rfl)) rfl fun a w S => Yd S rfl rfl (Yr.ys (Zt ⟨isAgg75, sizeOf75⟩ (Ev.g rfl) (k := 0) rfl rfl)) rfl fun a w S => Yd S rfl rfl (Yr.ys (Yh (Ev.g rfl) Ev.c)) rfl fun a w S => run S (.gy rfl rfl (Ws (.t rfl) (Ev.g rfl) Ev.c) <| .z) fun a w S => ?_
   rw [rw_z] at S
   refine run S (.yy (Zu (.t rfl) (.t rfl)) rfl <| .as rfl <| .z) fun a w S => Zb (Za (hK2 _ _ (Ze S (.t rfl) (wp_skip (Zk (Za (hK1 _ _ (sg S (.fa underlying77 sizeOf37 7 rfl rfl rfl <| .la gt37 0 rfl rfl rfl <| .xx (Zf call66 (.cons (.t rfl) .nil) (fun hp w W => c66 _ _ _ _ _ (by exact .old W (by assumption)) (by exact .old W (by assumption)))) rfl <| .as rfl <| .z) fun a w S => wp_seq_k fun _ hK1 => sg S (.mv rfl <| .yy (Yu (by omega) (Yh (.t rfl) Ev.c)) rfl <| .z) fun a w S => Zg S (.t rfl) (sg S (.mv rfl <| .as rfl <| .z) fun a w S => wp_ret (Zd (Zm S (results1 S results106 (Rv.tmp rfl)) ?_)))))))))))
   exact ⟨by rw [if_neg he], S.wd.below⟩
 have rw_e := he
 rw [if_pos he]
 have hn1 := norm_one (d := u.dot)
 cases hd : mayD u.dot with
 | false =>
   have rw_n : (normalL [] [⟨u.dot.node, u.dot.life, u.dot.count⟩]).2 = 1 := by rw [hd] at hn1; exact hn1
   refine enter1 func106 rfl ntmps106 rfl fun a S => wp_seq_k fun _ hK1 => wp_region_lit (Zj (Zw S (.t rfl) rfl fun g1 a w S => run S (.ac rfl <| .z) fun a w S => Zb (Za (hK1 _ _ (wp_seq_k fun _ hK1 => wp_block (wp_seq_k fun _ hK2 => wp_region_lit (run S (.fa underlying77 sizeOf9 0 rfl rfl rfl <| .ld gt9 0 rfl rfl rfl <| .xx (Zf call157 (.cons (.t rfl) .nil) (fun hp w W => c157 _ _)) rfl <| .z) fun a w S => ?_)))))))
   rw [rw_k] at S
   refine run S (.nt rfl <| .mv rfl <| .gy rfl rfl (Zc (FieldT.mk underlying77 rfl sizeOf9 rfl) (.t rfl) (i' := 4) rfl) <| .gy rfl rfl (Zt ⟨isAgg9, sizeOf9⟩ (.t rfl) (k := 0) rfl rfl) <| .gx rfl rfl (Zf call157 (.cons (.t rfl) .nil) (fun hp w W => c157 _ _)) <| .z) fun a w S => ?_
   rw [rw_i] at S
   refine run S (.gy rfl rfl (Xh (.t rfl)) <| .yy (Zu (.t rfl) (.t rfl)) rfl <| .as rfl <| .z) fun a w S => Zb (Za (hK2 _ _ (Ze S (.t rfl) (sg S (.fa underlying77 sizeOf3 5 rfl rfl rfl <| .ld gt3 0 rfl rfl rfl <| .yy (Yq (by omega) (Yy (.t rfl) Ev.c)) rfl <| .mv rfl <| .gy rfl rfl (Zc (FieldT.mk underlying77 rfl sizeOf3 rfl) (.t rfl) (i' := 5) rfl) <| .gy rfl rfl (Zt ⟨isAgg3, sizeOf3⟩ (.t rfl) (k := 0) rfl rfl) <| .gy rfl rfl (Yq (by omega) (Yn (.t rfl) Ev.c)) <| .yy (Zu (.t rfl) (.t rfl)) rfl <| .as rfl <| .z) fun a w S => Ze S (.t rfl) (wp_seq_k fun _ hK2 => wp_region_lit (run S (.fa underlying77 sizeOf75 6 rfl rfl rfl <| .ld gt75 0 rfl rfl rfl <| .xx (Zf call158 (.cons (.t rfl) .nil) (fun hp w W => c158 _ _)) rfl <| .z) fun a w S => ?_))))))
   rw [rw_p] at S
   refine run S (.nt rfl <| .mv rfl <| .gy rfl rfl (Zc (FieldT.mk underlying77 rfl sizeOf3 rfl) (.t rfl) (i' := 5) rfl) <| .gy rfl rfl (Zt ⟨isAgg3, sizeOf3⟩ (.t rfl) (k := 0) rfl rfl) <| .gy rfl rfl (Ye (.t rfl) Ev.c) <| .gy rfl rfl (Zi (.t rfl)) <| .z) fun a w S => Yd S rfl rfl (Yr.ys (Zc (FieldT.mk underlying77 rfl sizeOf75 rfl) (.t rfl) (i' := 6) rfl)) rfl fun a w S => Yd S rfl rfl (Yr.ys (Zt ⟨isAgg75, sizeOf75⟩ (Ev.g rfl) (k := 0) rfl rfl)) rfl fun a w S => Yd S rfl rfl (Yr.ys (Yh (Ev.g rfl) Ev.c)) rfl fun a w S => run S (.gy rfl rfl (Ws (.t rfl) (Ev.g rfl) Ev.c) <| .z) fun a w S => ?_
   rw [rw_z] at S
   refine run S (.yy (Zu (.t rfl) (.t rfl)) rfl <| .as rfl <| .z) fun a w S => Zb (Za (hK2 _ _ (Ze S (.t rfl) (wp_skip (Zk (Za (hK1 _ _ (wp_seq_k fun _ hK1 => wp_region_lit (run S (.fa underlying77 sizeOf37 7 rfl rfl rfl <| .la gt37 0 rfl rfl rfl <| .xx (Zf call66 (.cons (.t rfl) .nil) (fun hp w W => c66 _ _ _ _ _ (by exact .old W (by assumption)) (by exact .old W (by assumption)))) rfl <| .z) fun a w S => ?_)))))))))
   rw [rw_e] at S
   refine run S (.as rfl <| .z) fun a w S => Zb (Za (hK1 _ _ (wp_seq_k fun _ hK1 => sg S (.mv rfl <| .yy (Yq (by omega) (Yh (.t rfl) Ev.c)) rfl <| .z) fun a w S => Ze S (.t rfl) (wp_skip (Za (hK1 _ _ (wp_seq_k fun _ hK1 => wp_region_lit (run S (.fa underlying77 sizeOf74 1 rfl rfl rfl <| .la gt74 0 rfl rfl rfl <| .z) fun a w S => Zj (Yf S underlying33 inf74 rfl rfl rfl (.t rfl) rfl rfl rfl fun g2 a w S => ?_)))))))))
   (refine Zj (Yb S call112 (.cons Ev.c (.cons (.t rfl) .nil)) (c112 _ _ _ _ _ (by exact Sl.nil_) (by exact sl_y1 S.wd (k := 0) rfl) (by (simp; done)) (by (simp; done))) rfl ?_); clear S a w; rintro _ _ ⟨A11, c11, A21, c21, rfl, rfl⟩ a w S)
   rw [rw_n] at S
   refine run S (.mv rfl <| .ex rfl rfl <| .ex rfl rfl <| .as rfl <| .z) fun a w S => Zb (Za (hK1 _ _ (wp_seq_k fun _ hK1 => sg S (.mv rfl <| .yy (Yu (by omega) (Yh (.t rfl) Ev.c)) rfl <| .mv rfl <| .sk rfl rfl rfl <| .sk rfl rfl rfl <| .sk rfl rfl rfl <| .sk rfl rfl rfl <| .sk rfl rfl rfl <| .sk rfl rfl rfl <| .yy (Zv (.t rfl) Ev.c) rfl <| .z) fun a w S => Zg S (.t rfl) (sg S (.ac rfl <| .z) fun a w S => wp_ret (Zd (Zm S (results1 S results106 (Rv.tmp rfl)) ?_))))))
   exact ⟨by rw [if_pos (.inl rfl)], S.wd.below⟩
 | true =>
   have rw_n : (normalL [] [⟨u.dot.node, u.dot.life, u.dot.count⟩]).2 = 0 := by rw [hd] at hn1; exact hn1
   cases hc : u.seen.ctx.covers u.dot with
   | true =>
     have rw_c : u.seen.ctx.covers ⟨u.dot.node, u.dot.life, u.dot.count⟩ = true := hc
     refine enter1 func106 rfl ntmps106 rfl fun a S => wp_seq_k fun _ hK1 => wp_region_lit (Zj (Zw S (.t rfl) rfl fun g1 a w S => run S (.ac rfl <| .z) fun a w S => Zb (Za (hK1 _ _ (wp_seq_k fun _ hK1 => wp_block (wp_seq_k fun _ hK2 => wp_region_lit (run S (.fa underlying77 sizeOf9 0 rfl rfl rfl <| .ld gt9 0 rfl rfl rfl <| .xx (Zf call157 (.cons (.t rfl) .nil) (fun hp w W => c157 _ _)) rfl <| .z) fun a w S => ?_)))))))
     rw [rw_k] at S
     refine run S (.nt rfl <| .mv rfl <| .gy rfl rfl (Zc (FieldT.mk underlying77 rfl sizeOf9 rfl) (.t rfl) (i' := 4) rfl) <| .gy rfl rfl (Zt ⟨isAgg9, sizeOf9⟩ (.t rfl) (k := 0) rfl rfl) <| .gx rfl rfl (Zf call157 (.cons (.t rfl) .nil) (fun hp w W => c157 _ _)) <| .z) fun a w S => ?_
     rw [rw_i] at S
     refine run S (.gy rfl rfl (Xh (.t rfl)) <| .yy (Zu (.t rfl) (.t rfl)) rfl <| .as rfl <| .z) fun a w S => Zb (Za (hK2 _ _ (Ze S (.t rfl) (sg S (.fa underlying77 sizeOf3 5 rfl rfl rfl <| .ld gt3 0 rfl rfl rfl <| .yy (Yq (by omega) (Yy (.t rfl) Ev.c)) rfl <| .mv rfl <| .gy rfl rfl (Zc (FieldT.mk underlying77 rfl sizeOf3 rfl) (.t rfl) (i' := 5) rfl) <| .gy rfl rfl (Zt ⟨isAgg3, sizeOf3⟩ (.t rfl) (k := 0) rfl rfl) <| .gy rfl rfl (Yq (by omega) (Yn (.t rfl) Ev.c)) <| .yy (Zu (.t rfl) (.t rfl)) rfl <| .as rfl <| .z) fun a w S => Ze S (.t rfl) (wp_seq_k fun _ hK2 => wp_region_lit (run S (.fa underlying77 sizeOf75 6 rfl rfl rfl <| .ld gt75 0 rfl rfl rfl <| .xx (Zf call158 (.cons (.t rfl) .nil) (fun hp w W => c158 _ _)) rfl <| .z) fun a w S => ?_))))))
     rw [rw_p] at S
     refine run S (.nt rfl <| .mv rfl <| .gy rfl rfl (Zc (FieldT.mk underlying77 rfl sizeOf3 rfl) (.t rfl) (i' := 5) rfl) <| .gy rfl rfl (Zt ⟨isAgg3, sizeOf3⟩ (.t rfl) (k := 0) rfl rfl) <| .gy rfl rfl (Ye (.t rfl) Ev.c) <| .gy rfl rfl (Zi (.t rfl)) <| .z) fun a w S => Yd S rfl rfl (Yr.ys (Zc (FieldT.mk underlying77 rfl sizeOf75 rfl) (.t rfl) (i' := 6) rfl)) rfl fun a w S => Yd S rfl rfl (Yr.ys (Zt ⟨isAgg75, sizeOf75⟩ (Ev.g rfl) (k := 0) rfl rfl)) rfl fun a w S => Yd S rfl rfl (Yr.ys (Yh (Ev.g rfl) Ev.c)) rfl fun a w S => run S (.gy rfl rfl (Ws (.t rfl) (Ev.g rfl) Ev.c) <| .z) fun a w S => ?_
     rw [rw_z] at S
     refine run S (.yy (Zu (.t rfl) (.t rfl)) rfl <| .as rfl <| .z) fun a w S => Zb (Za (hK2 _ _ (Ze S (.t rfl) (wp_skip (Zk (Za (hK1 _ _ (wp_seq_k fun _ hK1 => wp_region_lit (run S (.fa underlying77 sizeOf37 7 rfl rfl rfl <| .la gt37 0 rfl rfl rfl <| .xx (Zf call66 (.cons (.t rfl) .nil) (fun hp w W => c66 _ _ _ _ _ (by exact .old W (by assumption)) (by exact .old W (by assumption)))) rfl <| .z) fun a w S => ?_)))))))))
     rw [rw_e] at S
     refine run S (.as rfl <| .z) fun a w S => Zb (Za (hK1 _ _ (wp_seq_k fun _ hK1 => sg S (.mv rfl <| .yy (Yq (by omega) (Yh (.t rfl) Ev.c)) rfl <| .z) fun a w S => Ze S (.t rfl) (wp_skip (Za (hK1 _ _ (wp_seq_k fun _ hK1 => wp_region_lit (run S (.fa underlying77 sizeOf74 1 rfl rfl rfl <| .la gt74 0 rfl rfl rfl <| .z) fun a w S => Zj (Yf S underlying33 inf74 rfl rfl rfl (.t rfl) rfl rfl rfl fun g2 a w S => ?_)))))))))
     (refine Zj (Yb S call112 (.cons Ev.c (.cons (.t rfl) .nil)) (c112 _ _ _ _ _ (by exact Sl.nil_) (by exact sl_y1 S.wd (k := 0) rfl) (by (simp; done)) (by (simp; done))) rfl ?_); clear S a w; rintro _ _ ⟨A11, c11, A21, c21, rfl, rfl⟩ a w S)
     rw [rw_n] at S
     refine run S (.mv rfl <| .ex rfl rfl <| .ex rfl rfl <| .as rfl <| .z) fun a w S => Zb (Za (hK1 _ _ (wp_seq_k fun _ hK1 => wp_seq_k fun _ hK2 => wp_region_lit (run S (.mv rfl <| .yy (Yq (by omega) (Yh (.t rfl) Ev.c)) rfl <| .mv rfl <| .gy rfl rfl (Zc (FieldT.mk underlying77 rfl sizeOf37 rfl) (.t rfl) (i' := 7) rfl) <| .gy rfl rfl (Zc (FieldT.mk underlying37 rfl sizeOf35 rfl) (.t rfl) (i' := 8) rfl) <| .gy rfl rfl (Zz ⟨isAgg35, sizeOf35⟩ (.t rfl) (k := 3) rfl rfl) <| .gy rfl rfl (Zc (FieldT.mk underlying77 rfl sizeOf74 rfl) (.t rfl) (i' := 1) rfl) <| .gy rfl rfl (Zz ⟨isAgg74, sizeOf74⟩ (.t rfl) (k := 3) rfl rfl) <| .gx rfl rfl (Zf call109 (.cons (.t rfl) (.cons (.t rfl) .nil)) (fun hp w W => c109 _ _ _ _ _ _ _ (by exact .old W (by assumption)))) <| .z) fun a w S => ?_))))
     rw [rw_c] at S
     refine run S (.yy (Zu (.t rfl) (.t rfl)) rfl <| .z) fun a w S => Zb (Za (hK2 _ _ (Zg S (.t rfl) (sg S (.ac rfl <| .z) fun a w S => wp_ret (Zd (Zm S (results1 S results106 (Rv.tmp rfl)) ?_))))))
     exact ⟨by rw [if_pos (.inr rfl)], S.wd.below⟩
   | false =>
     have rw_c : u.seen.ctx.covers ⟨u.dot.node, u.dot.life, u.dot.count⟩ = false := hc
     refine enter1 func106 rfl ntmps106 rfl fun a S => wp_seq_k fun _ hK1 => wp_region_lit (Zj (Zw S (.t rfl) rfl fun g1 a w S => run S (.ac rfl <| .z) fun a w S => Zb (Za (hK1 _ _ (wp_seq_k fun _ hK1 => wp_block (wp_seq_k fun _ hK2 => wp_region_lit (run S (.fa underlying77 sizeOf9 0 rfl rfl rfl <| .ld gt9 0 rfl rfl rfl <| .xx (Zf call157 (.cons (.t rfl) .nil) (fun hp w W => c157 _ _)) rfl <| .z) fun a w S => ?_)))))))
     rw [rw_k] at S
     refine run S (.nt rfl <| .mv rfl <| .gy rfl rfl (Zc (FieldT.mk underlying77 rfl sizeOf9 rfl) (.t rfl) (i' := 4) rfl) <| .gy rfl rfl (Zt ⟨isAgg9, sizeOf9⟩ (.t rfl) (k := 0) rfl rfl) <| .gx rfl rfl (Zf call157 (.cons (.t rfl) .nil) (fun hp w W => c157 _ _)) <| .z) fun a w S => ?_
     rw [rw_i] at S
     refine run S (.gy rfl rfl (Xh (.t rfl)) <| .yy (Zu (.t rfl) (.t rfl)) rfl <| .as rfl <| .z) fun a w S => Zb (Za (hK2 _ _ (Ze S (.t rfl) (sg S (.fa underlying77 sizeOf3 5 rfl rfl rfl <| .ld gt3 0 rfl rfl rfl <| .yy (Yq (by omega) (Yy (.t rfl) Ev.c)) rfl <| .mv rfl <| .gy rfl rfl (Zc (FieldT.mk underlying77 rfl sizeOf3 rfl) (.t rfl) (i' := 5) rfl) <| .gy rfl rfl (Zt ⟨isAgg3, sizeOf3⟩ (.t rfl) (k := 0) rfl rfl) <| .gy rfl rfl (Yq (by omega) (Yn (.t rfl) Ev.c)) <| .yy (Zu (.t rfl) (.t rfl)) rfl <| .as rfl <| .z) fun a w S => Ze S (.t rfl) (wp_seq_k fun _ hK2 => wp_region_lit (run S (.fa underlying77 sizeOf75 6 rfl rfl rfl <| .ld gt75 0 rfl rfl rfl <| .xx (Zf call158 (.cons (.t rfl) .nil) (fun hp w W => c158 _ _)) rfl <| .z) fun a w S => ?_))))))
     rw [rw_p] at S
     refine run S (.nt rfl <| .mv rfl <| .gy rfl rfl (Zc (FieldT.mk underlying77 rfl sizeOf3 rfl) (.t rfl) (i' := 5) rfl) <| .gy rfl rfl (Zt ⟨isAgg3, sizeOf3⟩ (.t rfl) (k := 0) rfl rfl) <| .gy rfl rfl (Ye (.t rfl) Ev.c) <| .gy rfl rfl (Zi (.t rfl)) <| .z) fun a w S => Yd S rfl rfl (Yr.ys (Zc (FieldT.mk underlying77 rfl sizeOf75 rfl) (.t rfl) (i' := 6) rfl)) rfl fun a w S => Yd S rfl rfl (Yr.ys (Zt ⟨isAgg75, sizeOf75⟩ (Ev.g rfl) (k := 0) rfl rfl)) rfl fun a w S => Yd S rfl rfl (Yr.ys (Yh (Ev.g rfl) Ev.c)) rfl fun a w S => run S (.gy rfl rfl (Ws (.t rfl) (Ev.g rfl) Ev.c) <| .z) fun a w S => ?_
     rw [rw_z] at S
     refine run S (.yy (Zu (.t rfl) (.t rfl)) rfl <| .as rfl <| .z) fun a w S => Zb (Za (hK2 _ _ (Ze S (.t rfl) (wp_skip (Zk (Za (hK1 _ _ (wp_seq_k fun _ hK1 => wp_region_lit (run S (.fa underlying77 sizeOf37 7 rfl rfl rfl <| .la gt37 0 rfl rfl rfl <| .xx (Zf call66 (.cons (.t rfl) .nil) (fun hp w W => c66 _ _ _ _ _ (by exact .old W (by assumption)) (by exact .old W (by assumption)))) rfl <| .z) fun a w S => ?_)))))))))
     rw [rw_e] at S
     refine run S (.as rfl <| .z) fun a w S => Zb (Za (hK1 _ _ (wp_seq_k fun _ hK1 => sg S (.mv rfl <| .yy (Yq (by omega) (Yh (.t rfl) Ev.c)) rfl <| .z) fun a w S => Ze S (.t rfl) (wp_skip (Za (hK1 _ _ (wp_seq_k fun _ hK1 => wp_region_lit (run S (.fa underlying77 sizeOf74 1 rfl rfl rfl <| .la gt74 0 rfl rfl rfl <| .z) fun a w S => Zj (Yf S underlying33 inf74 rfl rfl rfl (.t rfl) rfl rfl rfl fun g2 a w S => ?_)))))))))
     (refine Zj (Yb S call112 (.cons Ev.c (.cons (.t rfl) .nil)) (c112 _ _ _ _ _ (by exact Sl.nil_) (by exact sl_y1 S.wd (k := 0) rfl) (by (simp; done)) (by (simp; done))) rfl ?_); clear S a w; rintro _ _ ⟨A11, c11, A21, c21, rfl, rfl⟩ a w S)
     rw [rw_n] at S
     refine run S (.mv rfl <| .ex rfl rfl <| .ex rfl rfl <| .as rfl <| .z) fun a w S => Zb (Za (hK1 _ _ (wp_seq_k fun _ hK1 => wp_seq_k fun _ hK2 => wp_region_lit (run S (.mv rfl <| .yy (Yq (by omega) (Yh (.t rfl) Ev.c)) rfl <| .mv rfl <| .gy rfl rfl (Zc (FieldT.mk underlying77 rfl sizeOf37 rfl) (.t rfl) (i' := 7) rfl) <| .gy rfl rfl (Zc (FieldT.mk underlying37 rfl sizeOf35 rfl) (.t rfl) (i' := 8) rfl) <| .gy rfl rfl (Zz ⟨isAgg35, sizeOf35⟩ (.t rfl) (k := 3) rfl rfl) <| .gy rfl rfl (Zc (FieldT.mk underlying77 rfl sizeOf74 rfl) (.t rfl) (i' := 1) rfl) <| .gy rfl rfl (Zz ⟨isAgg74, sizeOf74⟩ (.t rfl) (k := 3) rfl rfl) <| .gx rfl rfl (Zf call109 (.cons (.t rfl) (.cons (.t rfl) .nil)) (fun hp w W => c109 _ _ _ _ _ _ _ (by exact .old W (by assumption)))) <| .z) fun a w S => ?_))))
     rw [rw_c] at S
     refine run S (.yy (Zu (.t rfl) (.t rfl)) rfl <| .z) fun a w S => Zb (Za (hK2 _ _ (Ze S (.t rfl) (wp_skip (Za (hK1 _ _ (sg S (.ac rfl <| .z) fun a w S => wp_ret (Zm S (results1 S results106 (Rv.tmp rfl)) ?_))))))))
     exact ⟨by rw [if_neg (by simp)], S.wd.below⟩
theorem c128 (w0 : World) (u : Upd) (v1 v2 v3 : Value) (h : Sl Ent.enc 6 w0 w0.heap.size v1 u.seen.ents) (hr : RdCtx w0 w0.heap.size v2 v3 u.seen.ctx) :
   Calls Tryz.prog 128 #[.agg (Upd.enc u v1 v2 v3).toArray] w0 fun e w' => e = .returned (.int .i64 (mayE u)) ∧ Bel w0.heap.size w0 w' := by
 have hs := h
 have hrr := hr
 obtain ⟨A, cap, rfl, _⟩ := h
 obtain ⟨⟨A2, cap2, rfl, _⟩, ⟨A3, cap3, rfl, _⟩⟩ := hr
 unfold mayE
 cases rw_k : nameB u.key with
 | false =>
   refine enter1 func128 rfl ntmps128 rfl fun a S => wp_seq_k fun _ hK1 => wp_region_lit (Zj (Zw S (.t rfl) rfl fun g1 a w S => run S (.ac rfl <| .z) fun a w S => Zb (Za (hK1 _ _ (wp_seq_k fun _ hK1 => wp_block (wp_seq_k fun _ hK2 => wp_region_lit (run S (.fa underlying77 sizeOf9 0 rfl rfl rfl <| .ld gt9 0 rfl rfl rfl <| .xx (Zf call82 (.cons (.t rfl) .nil) (fun hp w W => c82 _ _)) rfl <| .z) fun a w S => ?_)))))))
   rw [rw_k] at S
   refine run S (.nt rfl <| .mv rfl <| .sk rfl rfl rfl <| .sk rfl rfl rfl <| .sk rfl rfl rfl <| .sk rfl rfl rfl <| .yy (Zv (.t rfl) Ev.c) rfl <| .as rfl <| .z) fun a w S => Zb (Za (hK2 _ _ (Zg S (.t rfl) (sg S (.ac rfl <| .z) fun a w S => wp_ret (Zr (Zd (Zm S (results1 S results128 (Rv.tmp rfl)) ?_)))))))
   exact ⟨by rw [if_pos (.inl rfl)], S.wd.below⟩
 | true =>
 cases rw_i : nameB u.item with
 | false =>
   refine enter1 func128 rfl ntmps128 rfl fun a S => wp_seq_k fun _ hK1 => wp_region_lit (Zj (Zw S (.t rfl) rfl fun g1 a w S => run S (.ac rfl <| .z) fun a w S => Zb (Za (hK1 _ _ (wp_seq_k fun _ hK1 => wp_block (wp_seq_k fun _ hK2 => wp_region_lit (run S (.fa underlying77 sizeOf9 0 rfl rfl rfl <| .ld gt9 0 rfl rfl rfl <| .xx (Zf call82 (.cons (.t rfl) .nil) (fun hp w W => c82 _ _)) rfl <| .z) fun a w S => ?_)))))))
   rw [rw_k] at S
   refine run S (.nt rfl <| .mv rfl <| .gy rfl rfl (Zc (FieldT.mk underlying77 rfl sizeOf9 rfl) (.t rfl) (i' := 4) rfl) <| .gy rfl rfl (Zt ⟨isAgg9, sizeOf9⟩ (.t rfl) (k := 0) rfl rfl) <| .gx rfl rfl (Zf call82 (.cons (.t rfl) .nil) (fun hp w W => c82 _ _)) <| .z) fun a w S => ?_
   rw [rw_i] at S
   refine run S (.gy rfl rfl (Xh (.t rfl)) <| .yy (Zu (.t rfl) (.t rfl)) rfl <| .as rfl <| .z) fun a w S => Zb (Za (hK2 _ _ (Zg S (.t rfl) (sg S (.ac rfl <| .z) fun a w S => wp_ret (Zr (Zd (Zm S (results1 S results128 (Rv.tmp rfl)) ?_)))))))
   exact ⟨by rw [if_pos (.inr rfl)], S.wd.below⟩
 | true =>
 rw [if_neg (by simp)]
 by_cases hq : u.qty < 0 ∨ 1000000 < u.qty
 · have rw_q : (decide (0 ≤ u.qty) && decide (u.qty ≤ 1000000)) = false := by simp; omega
   refine enter1 func128 rfl ntmps128 rfl fun a S => wp_seq_k fun _ hK1 => wp_region_lit (Zj (Zw S (.t rfl) rfl fun g1 a w S => run S (.ac rfl <| .z) fun a w S => Zb (Za (hK1 _ _ (wp_seq_k fun _ hK1 => wp_block (wp_seq_k fun _ hK2 => wp_region_lit (run S (.fa underlying77 sizeOf9 0 rfl rfl rfl <| .ld gt9 0 rfl rfl rfl <| .xx (Zf call82 (.cons (.t rfl) .nil) (fun hp w W => c82 _ _)) rfl <| .z) fun a w S => ?_)))))))
   rw [rw_k] at S
   refine run S (.nt rfl <| .mv rfl <| .gy rfl rfl (Zc (FieldT.mk underlying77 rfl sizeOf9 rfl) (.t rfl) (i' := 4) rfl) <| .gy rfl rfl (Zt ⟨isAgg9, sizeOf9⟩ (.t rfl) (k := 0) rfl rfl) <| .gx rfl rfl (Zf call82 (.cons (.t rfl) .nil) (fun hp w W => c82 _ _)) <| .z) fun a w S => ?_
   rw [rw_i] at S
   refine run S (.gy rfl rfl (Xh (.t rfl)) <| .yy (Zu (.t rfl) (.t rfl)) rfl <| .as rfl <| .z) fun a w S => Zb (Za (hK2 _ _ (Ze S (.t rfl) (wp_seq_k fun _ hK2 => wp_region_lit (run S (.fa underlying77 sizeOf3 5 rfl rfl rfl <| .ld gt3 0 rfl rfl rfl <| .xx (Zf call83 (.cons (.t rfl) (.cons Ev.c .nil)) (fun hp w W => c83 _ _ _)) rfl <| .z) fun a w S => ?_)))))
   rw [rw_q] at S
   refine run S (.nt rfl <| .as rfl <| .z) fun a w S => Zb (Za (hK2 _ _ (Zg S (.t rfl) (sg S (.ac rfl <| .z) fun a w S => wp_ret (Zr (Zd (Zm S (results1 S results128 (Rv.tmp rfl)) ?_)))))))
   exact ⟨by rw [if_pos hq], S.wd.below⟩
 have rw_q : (decide (0 ≤ u.qty) && decide (u.qty ≤ 1000000)) = true := by simp; omega
 rw [if_neg hq]
 cases rw_p : priceB u.price with
 | false =>
   refine enter1 func128 rfl ntmps128 rfl fun a S => wp_seq_k fun _ hK1 => wp_region_lit (Zj (Zw S (.t rfl) rfl fun g1 a w S => run S (.ac rfl <| .z) fun a w S => Zb (Za (hK1 _ _ (wp_seq_k fun _ hK1 => wp_block (wp_seq_k fun _ hK2 => wp_region_lit (run S (.fa underlying77 sizeOf9 0 rfl rfl rfl <| .ld gt9 0 rfl rfl rfl <| .xx (Zf call82 (.cons (.t rfl) .nil) (fun hp w W => c82 _ _)) rfl <| .z) fun a w S => ?_)))))))
   rw [rw_k] at S
   refine run S (.nt rfl <| .mv rfl <| .gy rfl rfl (Zc (FieldT.mk underlying77 rfl sizeOf9 rfl) (.t rfl) (i' := 4) rfl) <| .gy rfl rfl (Zt ⟨isAgg9, sizeOf9⟩ (.t rfl) (k := 0) rfl rfl) <| .gx rfl rfl (Zf call82 (.cons (.t rfl) .nil) (fun hp w W => c82 _ _)) <| .z) fun a w S => ?_
   rw [rw_i] at S
   refine run S (.gy rfl rfl (Xh (.t rfl)) <| .yy (Zu (.t rfl) (.t rfl)) rfl <| .as rfl <| .z) fun a w S => Zb (Za (hK2 _ _ (Ze S (.t rfl) (wp_seq_k fun _ hK2 => wp_region_lit (run S (.fa underlying77 sizeOf3 5 rfl rfl rfl <| .ld gt3 0 rfl rfl rfl <| .xx (Zf call83 (.cons (.t rfl) (.cons Ev.c .nil)) (fun hp w W => c83 _ _ _)) rfl <| .z) fun a w S => ?_)))))
   rw [rw_q] at S
   refine run S (.nt rfl <| .as rfl <| .z) fun a w S => Zb (Za (hK2 _ _ (Ze S (.t rfl) (wp_seq_k fun _ hK2 => wp_region_lit (run S (.fa underlying77 sizeOf75 6 rfl rfl rfl <| .ld gt75 0 rfl rfl rfl <| .xx (Zf call84 (.cons (.t rfl) .nil) (fun hp w W => c84 _ _)) rfl <| .z) fun a w S => ?_)))))
   rw [rw_p] at S
   refine run S (.nt rfl <| .mv rfl <| .sk rfl rfl rfl <| .sk rfl rfl rfl <| .sk rfl rfl rfl <| .sk rfl rfl rfl <| .s0 rfl rfl <| .s0 rfl rfl <| .s0 rfl rfl <| .sk rfl rfl rfl <| .yy (Zv (.t rfl) Ev.c) rfl <| .as rfl <| .z) fun a w S => Zb (Za (hK2 _ _ (Zg S (.t rfl) (sg S (.ac rfl <| .z) fun a w S => wp_ret (Zr (Zd (Zm S (results1 S results128 (Rv.tmp rfl)) ?_)))))))
   exact ⟨by rw [if_pos (.inl rfl)], S.wd.below⟩
 | true =>
 by_cases hz : u.qty = 0 ∧ u.price.toNat ≠ 0
 · have rw_z : (decide (u.qty = 0) && decide ((u.price.toNat : Int) ≠ 0)) = true := by simp; omega
   refine enter1 func128 rfl ntmps128 rfl fun a S => wp_seq_k fun _ hK1 => wp_region_lit (Zj (Zw S (.t rfl) rfl fun g1 a w S => run S (.ac rfl <| .z) fun a w S => Zb (Za (hK1 _ _ (wp_seq_k fun _ hK1 => wp_block (wp_seq_k fun _ hK2 => wp_region_lit (run S (.fa underlying77 sizeOf9 0 rfl rfl rfl <| .ld gt9 0 rfl rfl rfl <| .xx (Zf call82 (.cons (.t rfl) .nil) (fun hp w W => c82 _ _)) rfl <| .z) fun a w S => ?_)))))))
   rw [rw_k] at S
   refine run S (.nt rfl <| .mv rfl <| .gy rfl rfl (Zc (FieldT.mk underlying77 rfl sizeOf9 rfl) (.t rfl) (i' := 4) rfl) <| .gy rfl rfl (Zt ⟨isAgg9, sizeOf9⟩ (.t rfl) (k := 0) rfl rfl) <| .gx rfl rfl (Zf call82 (.cons (.t rfl) .nil) (fun hp w W => c82 _ _)) <| .z) fun a w S => ?_
   rw [rw_i] at S
   refine run S (.gy rfl rfl (Xh (.t rfl)) <| .yy (Zu (.t rfl) (.t rfl)) rfl <| .as rfl <| .z) fun a w S => Zb (Za (hK2 _ _ (Ze S (.t rfl) (wp_seq_k fun _ hK2 => wp_region_lit (run S (.fa underlying77 sizeOf3 5 rfl rfl rfl <| .ld gt3 0 rfl rfl rfl <| .xx (Zf call83 (.cons (.t rfl) (.cons Ev.c .nil)) (fun hp w W => c83 _ _ _)) rfl <| .z) fun a w S => ?_)))))
   rw [rw_q] at S
   refine run S (.nt rfl <| .as rfl <| .z) fun a w S => Zb (Za (hK2 _ _ (Ze S (.t rfl) (wp_seq_k fun _ hK2 => wp_region_lit (run S (.fa underlying77 sizeOf75 6 rfl rfl rfl <| .ld gt75 0 rfl rfl rfl <| .xx (Zf call84 (.cons (.t rfl) .nil) (fun hp w W => c84 _ _)) rfl <| .z) fun a w S => ?_)))))
   rw [rw_p] at S
   refine run S (.nt rfl <| .mv rfl <| .gy rfl rfl (Zc (FieldT.mk underlying77 rfl sizeOf3 rfl) (.t rfl) (i' := 5) rfl) <| .gy rfl rfl (Zt ⟨isAgg3, sizeOf3⟩ (.t rfl) (k := 0) rfl rfl) <| .gy rfl rfl (Yu (by omega) (Ye (.t rfl) Ev.c)) <| .gy rfl rfl (Zi (.t rfl)) <| .gy rfl rfl (Zc (FieldT.mk underlying77 rfl sizeOf75 rfl) (.t rfl) (i' := 6) rfl) <| .gy rfl rfl (Zt ⟨isAgg75, sizeOf75⟩ (.t rfl) (k := 0) rfl rfl) <| .gy rfl rfl (Yu (by omega) (Yh (.t rfl) Ev.c)) <| .gy rfl rfl (Zv (.t rfl) (.t rfl)) <| .yy (Zu (.t rfl) (.t rfl)) rfl <| .as rfl <| .z) fun a w S => Zb (Za (hK2 _ _ (Zg S (.t rfl) (sg S (.ac rfl <| .z) fun a w S => wp_ret (Zr (Zd (Zm S (results1 S results128 (Rv.tmp rfl)) ?_)))))))
   exact ⟨by rw [if_pos (.inr hz)], S.wd.below⟩
 have rw_z : (decide (u.qty = 0) && decide ((u.price.toNat : Int) ≠ 0)) = false := by
   by_cases h0 : u.qty = 0
   · have : u.price.toNat = 0 := Decidable.byContradiction fun h => hz ⟨h0, h⟩
     simp [this]
   · simp [h0]
 rw [if_neg (by rintro (h | h); cases h; exact hz h)]
 by_cases he : canE u.seen = 0
 rotate_left
 · refine enter1 func128 rfl ntmps128 rfl fun a S => wp_seq_k fun _ hK1 => wp_region_lit (Zj (Zw S (.t rfl) rfl fun g1 a w S => run S (.ac rfl <| .z) fun a w S => Zb (Za (hK1 _ _ (wp_seq_k fun _ hK1 => wp_block (wp_seq_k fun _ hK2 => wp_region_lit (run S (.fa underlying77 sizeOf9 0 rfl rfl rfl <| .ld gt9 0 rfl rfl rfl <| .xx (Zf call82 (.cons (.t rfl) .nil) (fun hp w W => c82 _ _)) rfl <| .z) fun a w S => ?_)))))))
   rw [rw_k] at S
   refine run S (.nt rfl <| .mv rfl <| .gy rfl rfl (Zc (FieldT.mk underlying77 rfl sizeOf9 rfl) (.t rfl) (i' := 4) rfl) <| .gy rfl rfl (Zt ⟨isAgg9, sizeOf9⟩ (.t rfl) (k := 0) rfl rfl) <| .gx rfl rfl (Zf call82 (.cons (.t rfl) .nil) (fun hp w W => c82 _ _)) <| .z) fun a w S => ?_
   rw [rw_i] at S
   refine run S (.gy rfl rfl (Xh (.t rfl)) <| .yy (Zu (.t rfl) (.t rfl)) rfl <| .as rfl <| .z) fun a w S => Zb (Za (hK2 _ _ (Ze S (.t rfl) (wp_seq_k fun _ hK2 => wp_region_lit (run S (.fa underlying77 sizeOf3 5 rfl rfl rfl <| .ld gt3 0 rfl rfl rfl <| .xx (Zf call83 (.cons (.t rfl) (.cons Ev.c .nil)) (fun hp w W => c83 _ _ _)) rfl <| .z) fun a w S => ?_)))))
   rw [rw_q] at S
   refine run S (.nt rfl <| .as rfl <| .z) fun a w S => Zb (Za (hK2 _ _ (Ze S (.t rfl) (wp_seq_k fun _ hK2 => wp_region_lit (run S (.fa underlying77 sizeOf75 6 rfl rfl rfl <| .ld gt75 0 rfl rfl rfl <| .xx (Zf call84 (.cons (.t rfl) .nil) (fun hp w W => c84 _ _)) rfl <| .z) fun a w S => ?_)))))
   rw [rw_p] at S
   refine run S (.nt rfl <| .mv rfl <| .gy rfl rfl (Zc (FieldT.mk underlying77 rfl sizeOf3 rfl) (.t rfl) (i' := 5) rfl) <| .gy rfl rfl (Zt ⟨isAgg3, sizeOf3⟩ (.t rfl) (k := 0) rfl rfl) <| .gy rfl rfl (Ye (.t rfl) Ev.c) <| .gy rfl rfl (Zi (.t rfl)) <| .z) fun a w S => Yd S rfl rfl (Yr.ys (Zc (FieldT.mk underlying77 rfl sizeOf75 rfl) (.t rfl) (i' := 6) rfl)) rfl fun a w S => Yd S rfl rfl (Yr.ys (Zt ⟨isAgg75, sizeOf75⟩ (Ev.g rfl) (k := 0) rfl rfl)) rfl fun a w S => Yd S rfl rfl (Yr.ys (Yh (Ev.g rfl) Ev.c)) rfl fun a w S => run S (.gy rfl rfl (Ws (.t rfl) (Ev.g rfl) Ev.c) <| .z) fun a w S => ?_
   rw [rw_z] at S
   refine run S (.yy (Zu (.t rfl) (.t rfl)) rfl <| .as rfl <| .z) fun a w S => Zb (Za (hK2 _ _ (Ze S (.t rfl) (wp_skip (Zk (Za (hK1 _ _ (wp_seq_k fun _ hK1 => sg S (.fa underlying77 sizeOf37 7 rfl rfl rfl <| .la gt37 0 rfl rfl rfl <| .xx (Zf call32 (.cons (.t rfl) .nil) (fun hp w W => c32 _ _ _ _ _ (by exact .old W (by assumption)) (by exact .old W (by assumption)))) rfl <| .as rfl <| .z) fun a w S => sg S (.mv rfl <| .yy (Yu (by omega) (Yh (.t rfl) Ev.c)) rfl <| .z) fun a w S => Zg S (.t rfl) (sg S (.mv rfl <| .as rfl <| .z) fun a w S => wp_ret (Zd (Zm S (results1 S results128 (Rv.tmp rfl)) ?_)))))))))))
   exact ⟨by rw [if_neg he], S.wd.below⟩
 have rw_e := he
 rw [if_pos he]
 have rw_cov := can_covers (can_ctx he)
 cases hd : mayD u.dot with
 | false =>
   have rw_d : mayD ⟨u.dot.node, u.dot.life, u.dot.count⟩ = false := hd
   refine enter1 func128 rfl ntmps128 rfl fun a S => wp_seq_k fun _ hK1 => wp_region_lit (Zj (Zw S (.t rfl) rfl fun g1 a w S => run S (.ac rfl <| .z) fun a w S => Zb (Za (hK1 _ _ (wp_seq_k fun _ hK1 => wp_block (wp_seq_k fun _ hK2 => wp_region_lit (run S (.fa underlying77 sizeOf9 0 rfl rfl rfl <| .ld gt9 0 rfl rfl rfl <| .xx (Zf call82 (.cons (.t rfl) .nil) (fun hp w W => c82 _ _)) rfl <| .z) fun a w S => ?_)))))))
   rw [rw_k] at S
   refine run S (.nt rfl <| .mv rfl <| .gy rfl rfl (Zc (FieldT.mk underlying77 rfl sizeOf9 rfl) (.t rfl) (i' := 4) rfl) <| .gy rfl rfl (Zt ⟨isAgg9, sizeOf9⟩ (.t rfl) (k := 0) rfl rfl) <| .gx rfl rfl (Zf call82 (.cons (.t rfl) .nil) (fun hp w W => c82 _ _)) <| .z) fun a w S => ?_
   rw [rw_i] at S
   refine run S (.gy rfl rfl (Xh (.t rfl)) <| .yy (Zu (.t rfl) (.t rfl)) rfl <| .as rfl <| .z) fun a w S => Zb (Za (hK2 _ _ (Ze S (.t rfl) (wp_seq_k fun _ hK2 => wp_region_lit (run S (.fa underlying77 sizeOf3 5 rfl rfl rfl <| .ld gt3 0 rfl rfl rfl <| .xx (Zf call83 (.cons (.t rfl) (.cons Ev.c .nil)) (fun hp w W => c83 _ _ _)) rfl <| .z) fun a w S => ?_)))))
   rw [rw_q] at S
   refine run S (.nt rfl <| .as rfl <| .z) fun a w S => Zb (Za (hK2 _ _ (Ze S (.t rfl) (wp_seq_k fun _ hK2 => wp_region_lit (run S (.fa underlying77 sizeOf75 6 rfl rfl rfl <| .ld gt75 0 rfl rfl rfl <| .xx (Zf call84 (.cons (.t rfl) .nil) (fun hp w W => c84 _ _)) rfl <| .z) fun a w S => ?_)))))
   rw [rw_p] at S
   refine run S (.nt rfl <| .mv rfl <| .gy rfl rfl (Zc (FieldT.mk underlying77 rfl sizeOf3 rfl) (.t rfl) (i' := 5) rfl) <| .gy rfl rfl (Zt ⟨isAgg3, sizeOf3⟩ (.t rfl) (k := 0) rfl rfl) <| .gy rfl rfl (Ye (.t rfl) Ev.c) <| .gy rfl rfl (Zi (.t rfl)) <| .z) fun a w S => Yd S rfl rfl (Yr.ys (Zc (FieldT.mk underlying77 rfl sizeOf75 rfl) (.t rfl) (i' := 6) rfl)) rfl fun a w S => Yd S rfl rfl (Yr.ys (Zt ⟨isAgg75, sizeOf75⟩ (Ev.g rfl) (k := 0) rfl rfl)) rfl fun a w S => Yd S rfl rfl (Yr.ys (Yh (Ev.g rfl) Ev.c)) rfl fun a w S => run S (.gy rfl rfl (Ws (.t rfl) (Ev.g rfl) Ev.c) <| .z) fun a w S => ?_
   rw [rw_z] at S
   refine run S (.yy (Zu (.t rfl) (.t rfl)) rfl <| .as rfl <| .z) fun a w S => Zb (Za (hK2 _ _ (Ze S (.t rfl) (wp_skip (Zk (Za (hK1 _ _ (wp_seq_k fun _ hK1 => wp_seq_k fun _ hK2 => wp_region_lit (run S (.fa underlying77 sizeOf37 7 rfl rfl rfl <| .la gt37 0 rfl rfl rfl <| .xx (Zf call32 (.cons (.t rfl) .nil) (fun hp w W => c32 _ _ _ _ _ (by exact .old W (by assumption)) (by exact .old W (by assumption)))) rfl <| .z) fun a w S => ?_)))))))))
   rw [rw_e] at S
   refine run S (.as rfl <| .z) fun a w S => Zb (Za (hK2 _ _ (sg S (.mv rfl <| .yy (Yq (by omega) (Yh (.t rfl) Ev.c)) rfl <| .z) fun a w S => Ze S (.t rfl) (wp_skip (Za (hK1 _ _ (wp_seq_k fun _ hK1 => wp_seq_k fun _ hK2 => wp_region_lit (run S (.fa underlying77 sizeOf74 1 rfl rfl rfl <| .la gt74 0 rfl rfl rfl <| .xx (Zf call147 (.cons (.t rfl) .nil) (fun hp w W => c147 _ _ _ _)) rfl <| .z) fun a w S => ?_))))))))
   rw [rw_d] at S
   refine run S (.nt rfl <| .mv rfl <| .sk rfl rfl rfl <| .sk rfl rfl rfl <| .sk rfl rfl rfl <| .sk rfl rfl rfl <| .sk rfl rfl rfl <| .sk rfl rfl rfl <| .yy (Zv (.t rfl) Ev.c) rfl <| .z) fun a w S => Zb (Za (hK2 _ _ (Zg S (.t rfl) (sg S (.ac rfl <| .z) fun a w S => wp_ret (Zd (Zm S (results1 S results128 (Rv.tmp rfl)) ?_))))))
   exact ⟨by rw [if_pos (.inl rfl)], S.wd.below⟩
 | true =>
   have rw_d : mayD ⟨u.dot.node, u.dot.life, u.dot.count⟩ = true := hd
   cases hc : u.seen.ctx.covers u.dot with
   | true =>
     have rw_c : u.seen.ctx.covers ⟨u.dot.node, u.dot.life, u.dot.count⟩ = true := hc
     refine enter1 func128 rfl ntmps128 rfl fun a S => wp_seq_k fun _ hK1 => wp_region_lit (Zj (Zw S (.t rfl) rfl fun g1 a w S => run S (.ac rfl <| .z) fun a w S => Zb (Za (hK1 _ _ (wp_seq_k fun _ hK1 => wp_block (wp_seq_k fun _ hK2 => wp_region_lit (run S (.fa underlying77 sizeOf9 0 rfl rfl rfl <| .ld gt9 0 rfl rfl rfl <| .xx (Zf call82 (.cons (.t rfl) .nil) (fun hp w W => c82 _ _)) rfl <| .z) fun a w S => ?_)))))))
     rw [rw_k] at S
     refine run S (.nt rfl <| .mv rfl <| .gy rfl rfl (Zc (FieldT.mk underlying77 rfl sizeOf9 rfl) (.t rfl) (i' := 4) rfl) <| .gy rfl rfl (Zt ⟨isAgg9, sizeOf9⟩ (.t rfl) (k := 0) rfl rfl) <| .gx rfl rfl (Zf call82 (.cons (.t rfl) .nil) (fun hp w W => c82 _ _)) <| .z) fun a w S => ?_
     rw [rw_i] at S
     refine run S (.gy rfl rfl (Xh (.t rfl)) <| .yy (Zu (.t rfl) (.t rfl)) rfl <| .as rfl <| .z) fun a w S => Zb (Za (hK2 _ _ (Ze S (.t rfl) (wp_seq_k fun _ hK2 => wp_region_lit (run S (.fa underlying77 sizeOf3 5 rfl rfl rfl <| .ld gt3 0 rfl rfl rfl <| .xx (Zf call83 (.cons (.t rfl) (.cons Ev.c .nil)) (fun hp w W => c83 _ _ _)) rfl <| .z) fun a w S => ?_)))))
     rw [rw_q] at S
     refine run S (.nt rfl <| .as rfl <| .z) fun a w S => Zb (Za (hK2 _ _ (Ze S (.t rfl) (wp_seq_k fun _ hK2 => wp_region_lit (run S (.fa underlying77 sizeOf75 6 rfl rfl rfl <| .ld gt75 0 rfl rfl rfl <| .xx (Zf call84 (.cons (.t rfl) .nil) (fun hp w W => c84 _ _)) rfl <| .z) fun a w S => ?_)))))
     rw [rw_p] at S
     refine run S (.nt rfl <| .mv rfl <| .gy rfl rfl (Zc (FieldT.mk underlying77 rfl sizeOf3 rfl) (.t rfl) (i' := 5) rfl) <| .gy rfl rfl (Zt ⟨isAgg3, sizeOf3⟩ (.t rfl) (k := 0) rfl rfl) <| .gy rfl rfl (Ye (.t rfl) Ev.c) <| .gy rfl rfl (Zi (.t rfl)) <| .z) fun a w S => Yd S rfl rfl (Yr.ys (Zc (FieldT.mk underlying77 rfl sizeOf75 rfl) (.t rfl) (i' := 6) rfl)) rfl fun a w S => Yd S rfl rfl (Yr.ys (Zt ⟨isAgg75, sizeOf75⟩ (Ev.g rfl) (k := 0) rfl rfl)) rfl fun a w S => Yd S rfl rfl (Yr.ys (Yh (Ev.g rfl) Ev.c)) rfl fun a w S => run S (.gy rfl rfl (Ws (.t rfl) (Ev.g rfl) Ev.c) <| .z) fun a w S => ?_
     rw [rw_z] at S
     refine run S (.yy (Zu (.t rfl) (.t rfl)) rfl <| .as rfl <| .z) fun a w S => Zb (Za (hK2 _ _ (Ze S (.t rfl) (wp_skip (Zk (Za (hK1 _ _ (wp_seq_k fun _ hK1 => wp_seq_k fun _ hK2 => wp_region_lit (run S (.fa underlying77 sizeOf37 7 rfl rfl rfl <| .la gt37 0 rfl rfl rfl <| .xx (Zf call32 (.cons (.t rfl) .nil) (fun hp w W => c32 _ _ _ _ _ (by exact .old W (by assumption)) (by exact .old W (by assumption)))) rfl <| .z) fun a w S => ?_)))))))))
     rw [rw_e] at S
     refine run S (.as rfl <| .z) fun a w S => Zb (Za (hK2 _ _ (sg S (.mv rfl <| .yy (Yq (by omega) (Yh (.t rfl) Ev.c)) rfl <| .z) fun a w S => Ze S (.t rfl) (wp_skip (Za (hK1 _ _ (wp_seq_k fun _ hK1 => wp_seq_k fun _ hK2 => wp_region_lit (run S (.fa underlying77 sizeOf74 1 rfl rfl rfl <| .la gt74 0 rfl rfl rfl <| .xx (Zf call147 (.cons (.t rfl) .nil) (fun hp w W => c147 _ _ _ _)) rfl <| .z) fun a w S => ?_))))))))
     rw [rw_d] at S
     refine run S (.nt rfl <| .mv rfl <| .gy rfl rfl (Zc (FieldT.mk underlying77 rfl sizeOf37 rfl) (.t rfl) (i' := 7) rfl) <| .gy rfl rfl (Zc (FieldT.mk underlying37 rfl sizeOf35 rfl) (.t rfl) (i' := 8) rfl) <| .gy rfl rfl (Zz ⟨isAgg35, sizeOf35⟩ (.t rfl) (k := 0) rfl rfl) <| .gy rfl rfl (Zc (FieldT.mk underlying77 rfl sizeOf74 rfl) (.t rfl) (i' := 1) rfl) <| .gy rfl rfl (Zz ⟨isAgg74, sizeOf74⟩ (.t rfl) (k := 0) rfl rfl) <| .gx rfl rfl (Zf call77 (.cons (.t rfl) (.cons (.t rfl) .nil)) (fun hp w W => c77 _ _ _ _ _ _ _ (by exact .old W (by assumption)))) <| .z) fun a w S => ?_
     rw [rw_cov] at S
     rw [rw_c] at S
     refine run S (.yy (Zu (.t rfl) (.t rfl)) rfl <| .z) fun a w S => Zb (Za (hK2 _ _ (Zg S (.t rfl) (sg S (.ac rfl <| .z) fun a w S => wp_ret (Zd (Zm S (results1 S results128 (Rv.tmp rfl)) ?_))))))
     exact ⟨by rw [if_pos (.inr rfl)], S.wd.below⟩
   | false =>
     have rw_c : u.seen.ctx.covers ⟨u.dot.node, u.dot.life, u.dot.count⟩ = false := hc
     refine enter1 func128 rfl ntmps128 rfl fun a S => wp_seq_k fun _ hK1 => wp_region_lit (Zj (Zw S (.t rfl) rfl fun g1 a w S => run S (.ac rfl <| .z) fun a w S => Zb (Za (hK1 _ _ (wp_seq_k fun _ hK1 => wp_block (wp_seq_k fun _ hK2 => wp_region_lit (run S (.fa underlying77 sizeOf9 0 rfl rfl rfl <| .ld gt9 0 rfl rfl rfl <| .xx (Zf call82 (.cons (.t rfl) .nil) (fun hp w W => c82 _ _)) rfl <| .z) fun a w S => ?_)))))))
     rw [rw_k] at S
     refine run S (.nt rfl <| .mv rfl <| .gy rfl rfl (Zc (FieldT.mk underlying77 rfl sizeOf9 rfl) (.t rfl) (i' := 4) rfl) <| .gy rfl rfl (Zt ⟨isAgg9, sizeOf9⟩ (.t rfl) (k := 0) rfl rfl) <| .gx rfl rfl (Zf call82 (.cons (.t rfl) .nil) (fun hp w W => c82 _ _)) <| .z) fun a w S => ?_
     rw [rw_i] at S
     refine run S (.gy rfl rfl (Xh (.t rfl)) <| .yy (Zu (.t rfl) (.t rfl)) rfl <| .as rfl <| .z) fun a w S => Zb (Za (hK2 _ _ (Ze S (.t rfl) (wp_seq_k fun _ hK2 => wp_region_lit (run S (.fa underlying77 sizeOf3 5 rfl rfl rfl <| .ld gt3 0 rfl rfl rfl <| .xx (Zf call83 (.cons (.t rfl) (.cons Ev.c .nil)) (fun hp w W => c83 _ _ _)) rfl <| .z) fun a w S => ?_)))))
     rw [rw_q] at S
     refine run S (.nt rfl <| .as rfl <| .z) fun a w S => Zb (Za (hK2 _ _ (Ze S (.t rfl) (wp_seq_k fun _ hK2 => wp_region_lit (run S (.fa underlying77 sizeOf75 6 rfl rfl rfl <| .ld gt75 0 rfl rfl rfl <| .xx (Zf call84 (.cons (.t rfl) .nil) (fun hp w W => c84 _ _)) rfl <| .z) fun a w S => ?_)))))
     rw [rw_p] at S
     refine run S (.nt rfl <| .mv rfl <| .gy rfl rfl (Zc (FieldT.mk underlying77 rfl sizeOf3 rfl) (.t rfl) (i' := 5) rfl) <| .gy rfl rfl (Zt ⟨isAgg3, sizeOf3⟩ (.t rfl) (k := 0) rfl rfl) <| .gy rfl rfl (Ye (.t rfl) Ev.c) <| .gy rfl rfl (Zi (.t rfl)) <| .z) fun a w S => Yd S rfl rfl (Yr.ys (Zc (FieldT.mk underlying77 rfl sizeOf75 rfl) (.t rfl) (i' := 6) rfl)) rfl fun a w S => Yd S rfl rfl (Yr.ys (Zt ⟨isAgg75, sizeOf75⟩ (Ev.g rfl) (k := 0) rfl rfl)) rfl fun a w S => Yd S rfl rfl (Yr.ys (Yh (Ev.g rfl) Ev.c)) rfl fun a w S => run S (.gy rfl rfl (Ws (.t rfl) (Ev.g rfl) Ev.c) <| .z) fun a w S => ?_
     rw [rw_z] at S
     refine run S (.yy (Zu (.t rfl) (.t rfl)) rfl <| .as rfl <| .z) fun a w S => Zb (Za (hK2 _ _ (Ze S (.t rfl) (wp_skip (Zk (Za (hK1 _ _ (wp_seq_k fun _ hK1 => wp_seq_k fun _ hK2 => wp_region_lit (run S (.fa underlying77 sizeOf37 7 rfl rfl rfl <| .la gt37 0 rfl rfl rfl <| .xx (Zf call32 (.cons (.t rfl) .nil) (fun hp w W => c32 _ _ _ _ _ (by exact .old W (by assumption)) (by exact .old W (by assumption)))) rfl <| .z) fun a w S => ?_)))))))))
     rw [rw_e] at S
     refine run S (.as rfl <| .z) fun a w S => Zb (Za (hK2 _ _ (sg S (.mv rfl <| .yy (Yq (by omega) (Yh (.t rfl) Ev.c)) rfl <| .z) fun a w S => Ze S (.t rfl) (wp_skip (Za (hK1 _ _ (wp_seq_k fun _ hK1 => wp_seq_k fun _ hK2 => wp_region_lit (run S (.fa underlying77 sizeOf74 1 rfl rfl rfl <| .la gt74 0 rfl rfl rfl <| .xx (Zf call147 (.cons (.t rfl) .nil) (fun hp w W => c147 _ _ _ _)) rfl <| .z) fun a w S => ?_))))))))
     rw [rw_d] at S
     refine run S (.nt rfl <| .mv rfl <| .gy rfl rfl (Zc (FieldT.mk underlying77 rfl sizeOf37 rfl) (.t rfl) (i' := 7) rfl) <| .gy rfl rfl (Zc (FieldT.mk underlying37 rfl sizeOf35 rfl) (.t rfl) (i' := 8) rfl) <| .gy rfl rfl (Zz ⟨isAgg35, sizeOf35⟩ (.t rfl) (k := 0) rfl rfl) <| .gy rfl rfl (Zc (FieldT.mk underlying77 rfl sizeOf74 rfl) (.t rfl) (i' := 1) rfl) <| .gy rfl rfl (Zz ⟨isAgg74, sizeOf74⟩ (.t rfl) (k := 0) rfl rfl) <| .gx rfl rfl (Zf call77 (.cons (.t rfl) (.cons (.t rfl) .nil)) (fun hp w W => c77 _ _ _ _ _ _ _ (by exact .old W (by assumption)))) <| .z) fun a w S => ?_
     rw [rw_cov] at S
     rw [rw_c] at S
     refine run S (.yy (Zu (.t rfl) (.t rfl)) rfl <| .z) fun a w S => Zb (Za (hK2 _ _ (Ze S (.t rfl) (wp_skip (Za (hK1 _ _ (sg S (.ac rfl <| .z) fun a w S => wp_ret (Zm S (results1 S results128 (Rv.tmp rfl)) ?_))))))))
     exact ⟨by rw [if_neg (by simp)], S.wd.below⟩
end Go.Proofs.YtakpdbmdfnialaaGreat
namespace Go.Proofs.YtakpdbmdfnialaaGreat
open Go.Fw Go.Proofs Go.RowKit Go.ChangeShapes Go.WideShapes Go.ChangeAt Go.Deep Go.Joins Go.Proofs.Tryz
section
variable {H : Type} {enc : TypeId × Value → H} {w : World}
theorem Rdr.dot {t : TypeId} {i1 i2 i3 : TypeId} {k : IntKind} {f1 f2 f3 : Field} (ht : Tryz.prog.underlying t = some (.struct #[f1, f2, f3])) (ho : offs Tryz.prog [f1, f2, f3] 0 (Tryz.prog.cellsOf t) = true) (h1 : Tryz.prog.underlying f1.type = some (.int .i64)) (h2 : Tryz.prog.underlying f2.type = some (.int .i64)) (h3 : Tryz.prog.underlying f3.type = some (.int .i64)) :
   Rdr enc Tryz.prog w t fun cs _ => ∃ d : Dot, cs = Dot.enc d ∧ True := by
 refine (Rdr.struct ht ho (.cons (Rdr.int h1) (.cons (Rdr.int h2) (.cons (Rdr.int h3) .nil)))).mono ?_
 rintro cs b ⟨_, _, rfl, ⟨_, _, x, rfl, _⟩, _, _, rfl, ⟨_, _, y, rfl, _⟩, _, _, rfl, ⟨_, _, z, rfl, _⟩, rfl⟩
 exact ⟨⟨x, y, z⟩, rfl, trivial⟩
theorem rdDot : Rdr enc Tryz.prog w 74 fun cs _ => ∃ d : Dot, cs = Dot.enc d ∧ True := Rdr.dot (i1 := 0) (i2 := 0) (i3 := 0) (k := .i64) underlying74 (by kernel_rfl) underlying3 underlying3 underlying3
theorem rdMark : Rdr enc Tryz.prog w 30 fun cs _ => ∃ d : Dot, cs = Dot.enc d ∧ True := Rdr.dot (i1 := 0) (i2 := 0) (i3 := 0) (k := .i64) underlying30 (by kernel_rfl) underlying3 underlying3 underlying3
theorem u64_wf {n : Int} (h : (Lit.int .u64 n).wf = true) : ∃ p : UInt64, n = (p.toNat : Int) := by
 simp only [Lit.wf, IntKind.min, IntKind.max, IntKind.signed, IntKind.bits, Bool.and_eq_true, decide_eq_true_eq, Bool.false_eq_true, if_false] at h
 have h2 : n.toNat < 18446744073709551616 := by omega
 refine ⟨UInt64.ofNat n.toNat, ?_⟩
 rw [UInt64.toNat_ofNat', Nat.mod_eq_of_lt h2]
 omega
theorem rdEnt : Rdr enc Tryz.prog w 100 fun cs b => ∃ x : Ent, cs = Ent.enc x ∧ x.item.length ≤ b := by
 refine (Rdr.struct underlying100 (by kernel_rfl) (.cons (Rdr.str underlying9) (.cons rdDot (.cons (Rdr.int underlying3) (.cons (Rdr.int underlying75) .nil))))).mono ?_
 rintro cs b ⟨_, _, rfl, ⟨_, hb, s, rfl, hs⟩, _, _, rfl, ⟨_, _, d, rfl, _⟩, _, _, rfl, ⟨_, _, q, rfl, _⟩, _, _, rfl, ⟨_, _, n, rfl, hn⟩, rfl⟩
 obtain ⟨p, rfl⟩ := u64_wf hn
 exact ⟨⟨s, d, q, p⟩, rfl, by dsimp only; omega⟩
theorem rdCtx : Rdr enc Tryz.prog w 35 fun cs b => ∃ v2 v3 C, cs = [v2, v3] ∧ RdCtx w w.heap.size v2 v3 C ∧ C.marks.length + 1 ≤ b ∧ C.cloud.length + 1 ≤ b := by
 refine (Rdr.struct underlying35 (by kernel_rfl) (.cons (Rdr.slice (k := 3) underlying32 (by kernel_rfl) rfl (fun _ => rfl) rdMark) (.cons (Rdr.slice (k := 3) underlying33 (by kernel_rfl) rfl (fun _ => rfl) rdDot) .nil))).mono ?_
 rintro cs b ⟨_, _, rfl, ⟨_, hb, v, m, rfl, hm, hm1, _⟩, _, _, rfl, ⟨_, hb', v', d, rfl, hd, hd1, _⟩, rfl⟩
 exact ⟨v, v', ⟨m, d⟩, rfl, ⟨hm, hd⟩, by dsimp only; omega, by dsimp only; omega⟩
structure RdCart (w : World) (v1 v2 v3 : Value) (X : Cart) (b : Nat) : Prop where
 ents : Sl Ent.enc 6 w w.heap.size v1 X.ents
 ctx : RdCtx w w.heap.size v2 v3 X.ctx
 l1 : X.ents.length + 1 ≤ b
 l2 : X.ctx.marks.length + 1 ≤ b
 l3 : X.ctx.cloud.length + 1 ≤ b
 items : ∀ x ∈ X.ents, x.item.length ≤ b
theorem rdCart : Rdr enc Tryz.prog w 37 fun cs b => ∃ v1 v2 v3 X, cs = [v1, v2, v3] ∧ RdCart w v1 v2 v3 X b := by
 refine (Rdr.struct underlying37 (by kernel_rfl) (.cons (Rdr.slice (k := 6) underlying31 (by kernel_rfl) rfl (fun _ => rfl) rdEnt) (.cons rdCtx .nil))).mono ?_
 rintro cs b ⟨_, _, rfl, ⟨_, hb, v, l, rfl, hl, hl1, hli⟩, _, _, rfl, ⟨_, hb', v2, v3, C, rfl, hC, h1, h2⟩, rfl⟩
 exact ⟨v, v2, v3, ⟨l, C⟩, rfl, hl, hC, by dsimp only; omega, by dsimp only; omega, by dsimp only; omega, fun x hx => by obtain ⟨b', h3, h4⟩ := hli x hx; omega⟩
theorem rdUpd : Rdr enc Tryz.prog w 77 fun cs b => ∃ u v1 v2 v3, cs = Upd.enc u v1 v2 v3 ∧ RdCart w v1 v2 v3 u.seen b ∧ u.key.length ≤ b ∧ u.item.length ≤ b := by
 refine (Rdr.struct underlying77 (by kernel_rfl) (.cons (Rdr.str underlying9) (.cons rdDot (.cons (Rdr.str underlying9) (.cons (Rdr.int underlying3) (.cons (Rdr.int underlying75) (.cons rdCart .nil))))))).mono ?_
 rintro cs b ⟨_, _, rfl, ⟨_, hb, s, rfl, hs⟩, _, _, rfl, ⟨_, _, d, rfl, _⟩, _, _, rfl, ⟨_, hb2, s2, rfl, hs2⟩, _, _, rfl, ⟨_, _, q, rfl, _⟩, _, _, rfl, ⟨_, _, n, rfl, hn⟩, _, _, rfl, ⟨_, hb3, v1, v2, v3, X, rfl, hX⟩, rfl⟩
 obtain ⟨p, rfl⟩ := u64_wf hn
 refine ⟨⟨s, d, s2, q, p, X⟩, v1, v2, v3, rfl, ⟨hX.ents, hX.ctx, ?_, ?_, ?_, ?_⟩, ?_, ?_⟩
 · have := hX.l1; dsimp only; omega
 · have := hX.l2; dsimp only; omega
 · have := hX.l3; dsimp only; omega
 · intro x hx; have := hX.items x hx; omega
 · dsimp only; omega
 · dsimp only; omega
end
end Go.Proofs.YtakpdbmdfnialaaGreat
namespace Go.Fw
open Go.RowKit
def SlIn {α : Type} (enc : α → List Value) (size : Nat) (w1 : World) (bs : List Nat) (v : Value) (l : List α) : Prop :=
 ∃ A cap, v = .slice A l.length cap ∧ l.length ≤ cap ∧ cap ≤ 9223372036854775807 ∧ (0 < l.length → ∃ g o, A = some ⟨g, o, none⟩ ∧ g ∈ bs ∧ ∀ k x, l[k]? = some x → ∀ j u, (enc x)[j]? = some u → w1.cell? ⟨g, o + k * size + j, none⟩ = some u)
def Chunk.blocks : Chunk → List Nat
 | .blk b _ => [b]
 | .row _ _ A _ cap _ => if cap = 0 then [] else (A.map (·.block)).toList
 | .ice _ bs => bs
theorem Chunk.mem_blocks {c : Chunk} {b : Nat} : b ∈ c.blocks ↔ c.own b := by
 cases c with
 | blk b' o => simp [Chunk.blocks, Chunk.own]
 | row e size A n cap xs =>
   unfold Chunk.blocks Chunk.own
   by_cases h : cap = 0
   · simp [h]
   · simp [h]
 | ice w1 bs => rfl
section
variable {w0 w w1 : World} {L cs : List Chunk} {k e size : Nat} {bs bs' : List Nat}
theorem Wd.freeze (h : Wd w0 (cs ++ L) w) : Wd w0 (.ice w (cs.flatMap Chunk.blocks) :: L) w := by
 obtain ⟨h1, h2, h3⟩ := h
 rw [List.pairwise_append] at h3
 have key : ∀ b ∈ cs.flatMap Chunk.blocks, ∃ c ∈ cs, c.own b := fun b hb => by
   obtain ⟨c, hc, hb⟩ := List.mem_flatMap.1 hb
   exact ⟨c, hc, Chunk.mem_blocks.1 hb⟩
 refine ⟨h1, fun x hx => ?_, List.Pairwise.cons (fun x hx b hb hxb => ?_) h3.2.1⟩
 · rcases List.mem_cons.1 hx with rfl | hx
   · intro b hb
     obtain ⟨c, hc, hb⟩ := key b hb
     have := (h2 c (List.mem_append_left _ hc)).lt hb
     exact ⟨this.1, this.2, rfl⟩
   · exact h2 x (List.mem_append_right _ hx)
 · obtain ⟨c, hc, hb⟩ := key b hb
   exact h3.2.2 c hc x hx b hb hxb
variable {α : Type} {enc : α → List Value} {v : Value} {l : List α}
theorem ice_cell (W : Wd w0 L w) (hk : L[k]? = some (.ice w1 bs)) {g o : Nat} (hg : g ∈ bs) : w.cell? ⟨g, o, none⟩ = w1.cell? ⟨g, o, none⟩ := by
 have h := (W.get hk g hg).2.2
 simp only [World.cell?, h]
theorem SlIn.sl (h : SlIn enc size w1 bs v l) (W : Wd w0 L w) (hk : L[k]? = some (.ice w1 bs)) : Sl enc size w w.heap.size v l := by
 obtain ⟨A, cap, rfl, h1, h2, h3⟩ := h
 refine ⟨A, cap, rfl, h1, h2, fun hp => ?_⟩
 obtain ⟨g, o, rfl, hg, hc⟩ := h3 hp
 exact ⟨g, o, rfl, (W.get hk g hg).2.1, fun k x hx j u hu => (ice_cell W hk hg).trans (hc k x hx j u hu)⟩
theorem SlIn.anew (h : SlIn enc size w1 bs v l) (W : Wd w0 L w) (hk : L[k]? = some (.ice w1 bs)) (hb : ∀ b ∈ bs, b ∈ bs') : SlIn enc size w bs' v l := by
 obtain ⟨A, cap, rfl, h1, h2, h3⟩ := h
 refine ⟨A, cap, rfl, h1, h2, fun hp => ?_⟩
 obtain ⟨g, o, rfl, hg, hc⟩ := h3 hp
 exact ⟨g, o, rfl, hb g hg, fun k x hx j u hu => (ice_cell W hk hg).trans (hc k x hx j u hu)⟩
theorem SlIn.row {A : Option Addr} {cap : Nat} (W : Wd w0 L w) (hk : L[k]? = some (rowOf e size enc A cap l)) (he : ∀ x, (enc x).length = size) (hb : ∀ b ∈ Chunk.blocks (rowOf e size enc A cap l), b ∈ bs') : SlIn enc size w bs' (.slice A l.length cap) l := by
 obtain ⟨A', cap', hv, h1, h2, h3⟩ := Sl.of_own W hk he
 cases hv
 refine ⟨A, cap, rfl, h1, h2, fun hp => ?_⟩
 obtain ⟨g, o, rfl, hg, hc⟩ := h3 hp
 exact ⟨g, o, rfl, hb g (by simp [Chunk.blocks, rowOf, show cap ≠ 0 by omega]), hc⟩
theorem SlIn.nil_ {c : Nat} : SlIn enc size w1 bs (.slice none 0 0) [] := ⟨none, 0, rfl, by simp, by simp, fun h => by simp at h⟩
end
end Go.Fw
namespace Go.Fw
open Go.RowKit
structure Sls3 where
 a1 : Option Addr
 n1 : Nat
 c1 : Nat
 a2 : Option Addr
 n2 : Nat
 c2 : Nat
 a3 : Option Addr
 n3 : Nat
 c3 : Nat
abbrev SCart := Cart × Sls3
abbrev SUpd := Upd × Sls3
abbrev SCart.enc (p : SCart) : List Value := [.slice p.2.a1 p.2.n1 p.2.c1, .slice p.2.a2 p.2.n2 p.2.c2, .slice p.2.a3 p.2.n3 p.2.c3]
theorem SCart.enc_len (p : SCart) : (SCart.enc p).length = 3 := rfl
theorem SCart.enc_one (p : SCart) : ∀ u ∈ SCart.enc p, u.oneCell' = true := fun u hu => by simp [SCart.enc] at hu; rcases hu with rfl | rfl | rfl <;> rfl
abbrev SUpd.enc (p : SUpd) : List Value := Upd.enc p.1 (.slice p.2.a1 p.2.n1 p.2.c1) (.slice p.2.a2 p.2.n2 p.2.c2) (.slice p.2.a3 p.2.n3 p.2.c3)
theorem SUpd.enc_len (p : SUpd) : (SUpd.enc p).length = 10 := rfl
theorem SUpd.enc_one (p : SUpd) : ∀ u ∈ SUpd.enc p, u.oneCell' = true := fun u hu => by simp [SUpd.enc, Upd.enc] at hu; rcases hu with rfl | rfl | rfl | rfl | rfl | rfl | rfl | rfl | rfl | rfl <;> rfl
structure CartIn (w1 : World) (bs : List Nat) (X : Cart) (s : Sls3) : Prop where
 ents : SlIn Ent.enc 6 w1 bs (.slice s.a1 s.n1 s.c1) X.ents
 marks : SlIn Dot.enc 3 w1 bs (.slice s.a2 s.n2 s.c2) X.ctx.marks
 cloud : SlIn Dot.enc 3 w1 bs (.slice s.a3 s.n3 s.c3) X.ctx.cloud
structure CartRd (w : World) (X : Cart) (s : Sls3) : Prop where
 ents : Sl Ent.enc 6 w w.heap.size (.slice s.a1 s.n1 s.c1) X.ents
 marks : Sl Dot.enc 3 w w.heap.size (.slice s.a2 s.n2 s.c2) X.ctx.marks
 cloud : Sl Dot.enc 3 w w.heap.size (.slice s.a3 s.n3 s.c3) X.ctx.cloud
section
variable {w0 w w1 : World} {L : List Chunk} {k : Nat} {bs bs' : List Nat} {X : Cart} {s : Sls3}
theorem CartIn.rd (h : CartIn w1 bs X s) (W : Wd w0 L w) (hk : L[k]? = some (.ice w1 bs)) : CartRd w X s := ⟨h.ents.sl W hk, h.marks.sl W hk, h.cloud.sl W hk⟩
theorem CartIn.anew (h : CartIn w1 bs X s) (W : Wd w0 L w) (hk : L[k]? = some (.ice w1 bs)) (hb : ∀ b ∈ bs, b ∈ bs') : CartIn w bs' X s := ⟨h.ents.anew W hk hb, h.marks.anew W hk hb, h.cloud.anew W hk hb⟩
theorem CartRd.ctx (h : CartRd w X s) : RdCtx w w.heap.size (.slice s.a2 s.n2 s.c2) (.slice s.a3 s.n3 s.c3) X.ctx := ⟨h.marks, h.cloud⟩
end
end Go.Fw
namespace Go.Fw
open Go.RowKit Go.Sort Go.Proofs
abbrev MEnt := {e : Ent // mayD e.dot = true}
instance : Inhabited MEnt := ⟨⟨⟨[], ⟨0, 1, 1⟩, 0, 0⟩, rfl⟩⟩
abbrev MEnt.enc (e : MEnt) : List Value := Ent.enc e.1
theorem not_ltE {a b : Ent} : ¬ ltE a b ↔ ltE b a ∨ (a.item = b.item ∧ a.dot = b.dot) := by
 constructor
 · intro h
   by_cases e : a.item = b.item
   · by_cases ed : a.dot = b.dot
     · exact .inr ⟨e, ed⟩
     · exact .inl ((ltE_total ed).resolve_left h)
   · rcases Wy e with h1 | h1
     · exact absurd (.inl h1) h
     · exact .inl (.inl h1)
 · rintro (h | ⟨h1, h2⟩) h'
   · exact ltE_asymm h h'
   · rcases h' with h' | ⟨_, h'⟩
     · rw [h1, We] at h'; cases h'
     · rw [h2] at h'; exact ltC_irr _ h'
theorem swoE : SWO (ltOf fun x y : MEnt => ordE x.1 y.1) where
 irrefl x := by
   simp only [ltOf, decide_eq_false_iff_not, ordE_iff]
   exact ltE_irr _
 trans x y z h1 h2 := by
   simp only [ltOf, decide_eq_true_eq, ordE_iff] at *
   exact ltE_trans h1 h2
 ntrans x y z h1 h2 := by
   simp only [ltOf, decide_eq_false_iff_not, ordE_iff] at *
   rcases not_ltE.1 h1 with a | ⟨a1, a2⟩
   · rcases not_ltE.1 h2 with b | ⟨b1, b2⟩
     · exact fun h => ltE_asymm h (ltE_trans b a)
     · intro h
       refine ltE_irr x.1 (ltE_trans h ?_)
       rcases a with a | ⟨a1, a2⟩
       · exact .inl (b1 ▸ a)
       · exact .inr ⟨b1 ▸ a1, b2 ▸ a2⟩
   · intro h
     refine h2 ?_
     rcases h with h | ⟨e1, e2⟩
     · exact .inl (a1 ▸ h)
     · exact .inr ⟨a1 ▸ e1, a2 ▸ e2⟩
theorem encE_map (ls : List MEnt) : ls.flatMap MEnt.enc = (ls.map (·.1)).flatMap Ent.enc := by
 induction ls with
 | nil => rfl
 | cons x r ih => simp only [List.flatMap_cons, List.map_cons, ih]
theorem sortE {l l' r : List Ent} (hp : l'.Perm l) (hs : l'.Pairwise fun a b => ¬ ordE b a < 0) (hd : (l.map (·.dot)).Nodup) (hr : r.Pairwise ltE) (hm : ∀ x, x ∈ r ↔ x ∈ l) : l' = r := by
 have hd' : (l'.map (·.dot)).Nodup := (hp.map _).nodup_iff.2 hd
 refine sorted_uniq ?_ hr fun x => by rw [hp.mem_iff, hm]
 have h2 : l'.Pairwise fun a b => a.dot ≠ b.dot := by rw [List.Nodup, List.pairwise_map] at hd'; exact hd'
 refine (hs.and h2).imp fun ⟨h1, h3⟩ => ?_
 rw [ordE_iff] at h1
 rcases not_ltE.1 h1 with h | ⟨_, h⟩
 · exact h
 · exact absurd h.symm h3
end Go.Fw
namespace Go.Ft
open Go.RowKit
abbrev bs (l : List UInt8) : ByteArray := ⟨l.toArray⟩
theorem Vi (l : List UInt8) : (bs l).toList = l := by rw [ByteArray.toList_eq]
section ops
variable {P : Program} {n : Nat} {w0 : World} {K : KL} {L : List Chunk} {b : Bool} {dst : Option Tmp} {ty : TypeId} {pos : String} {aft : Array Edge} {gd : Option (Nat × Bool)}
theorem Xs {t t' : TypeId} {x y : Operand} {l m : List UInt8} (hx : Ev n b K x (.string (bs l))) (hy : Ev n b K y (.string (bs m))) : Yr P ⟨dst, .binOp .neq t x y t', ty, pos, aft, gd⟩ n K w0 L b (.bool (decide (l ≠ m))) := fun a w hb hkn _ => by
 have h : (!(l == m)) = decide (l ≠ m) := by rw [Bool.eq_iff_iff]; simp
 simp only [execOp, hx a hb hkn, hy a hb hkn]
 simp [eqGuard, binOp, Op.stringOp, Vi, h]
end ops
section
variable {P : Program} {n : Nat} {w0 : World} {K : KL} {L : List Chunk} {ty : TypeId} {pos : String} {aft : Array Edge} {gd : Option (Nat × Bool)} {a : Act} {w : World} {Z : Act → World → Prop} {Q : Exit → Act → World → Prop} {d : Nat}
end
theorem Sl.first {P : Program} {w : World} {α : Type} {enc : α → List Value} {size B : Nat} {A : Option Addr} {l : List α} {cap : Nat} (h : Sl enc size w B (.slice A l.length cap) l) (m : Nat) (hm : m ≤ l.length) (hsz : 0 < size) (he : ∀ x, (enc x).length = size) :
   (Builtin.firstCells size m (.slice A l.length cap)).run P w = .ok ((l.take m).flatMap enc).toArray w := by
 have hflen : ∀ l : List α, (l.flatMap enc).length = l.length * size := by
   intro l
   induction l with
   | nil => simp
   | cons x r ih => simp [he, ih, Nat.add_mul, Nat.add_comm]
 obtain ⟨A', cap', hv, h2, h3, h4⟩ := h
 simp only [Value.slice.injEq, true_and] at hv
 obtain ⟨rfl, rfl⟩ := hv
 rcases Nat.eq_zero_or_pos l.length with h0 | hp
 · have : l = [] := List.eq_nil_of_length_eq_zero h0
   subst this
   have : m = 0 := by simpa using hm
   subst this
   cases A <;> simp [Builtin.firstCells, loadCells, loadCellsFrom]
 · obtain ⟨g, o, rfl, hg, hc⟩ := h4 hp
   have hs := Src.sl (P := P) (w := w) (enc := enc) (size := size) (B := B) (c := cap) (l := l.take m) (A := some ⟨g, o, none⟩) (cap := cap) ⟨_, _, rfl, by simp; omega, h3, fun _ => ⟨g, o, rfl, hg, fun k x hx => hc k x (by
     rw [List.getElem?_take] at hx
     split at hx
     · exact hx
     · cases hx)⟩⟩ hsz he
   have hlen : (l.take m).length = m := by simp; omega
   have e2 : (some (⟨g, o, none⟩ : Addr)) = some ⟨g, o, none⟩ := rfl
   refine run_firstCells_some (P := P) w size m ⟨g, o, none⟩ l.length cap _ (by rw [hflen, hlen]) (fun j u hj => ?_)
   rw [Addr.add_mid]
   have hget : ∀ (l : List α) (j : Nat) (u : Value), (l.flatMap enc)[j]? = some u → ∃ x, l[j / size]? = some x ∧ (enc x)[j % size]? = some u := by
     intro l
     induction l with
     | nil => intro j u hj; simp at hj
     | cons x r ih =>
       intro j u hj
       rw [List.flatMap_cons, List.getElem?_append] at hj
       split at hj
       · rename_i hlt
         rw [he] at hlt
         exact ⟨x, by simp [Nat.div_eq_of_lt hlt], by rw [Nat.mod_eq_of_lt hlt]; exact hj⟩
       · rename_i hge
         rw [he] at hge hj
         obtain ⟨y, h2, h3⟩ := ih _ _ hj
         have hge' : size ≤ j := by omega
         refine ⟨y, ?_, ?_⟩
         · rw [show j / size = (j - size) / size + 1 from Nat.div_eq_sub_div hsz hge']
           simpa using h2
         · rw [Nat.mod_eq_sub_mod hge']; exact h3
   obtain ⟨x, h5, h6⟩ := hget _ j u hj
   rw [List.getElem?_take] at h5
   split at h5
   · have := hc _ x h5 _ u h6
     rw [show o + j = o + j / size * size + j % size by rw [Nat.add_assoc, Nat.mul_comm, Nat.div_add_mod]]
     exact this
   · cases h5
section
variable {P : Program} {n : Nat} {w0 : World} {K : KL} {L : List Chunk} {ty : TypeId} {pos : String} {aft : Array Edge} {gd : Option (Nat × Bool)} {a : Act} {w : World} {Z : Act → World → Prop} {Q : Exit → Act → World → Prop} {d : Nat}
end
section
variable {P : Program} {n : Nat} {w0 : World} {K : KL} {L : List Chunk} {ty : TypeId} {pos : String} {aft : Array Edge} {gd : Option (Nat × Bool)} {a : Act} {w : World} {Z : Act → World → Prop} {Q : Exit → Act → World → Prop} {d : Nat}
end
section
variable {P : Program} {Q : Exit → Act → World → Prop} {J : Act → World → Prop} {l i : Nat} {a : Act} {w : World}
theorem Wq {c : Code} (n : Nat) (h : Code.rounds P c Q n a w) : (Code.loop c).wp P Q a w := wp_loop_rounds n h
theorem Xe {c : Code} {n : Nat} (h : c.wp P (Exit.then (fun a w => Code.rounds P c Q n a w) Q) a w) : Code.rounds P c Q (n + 1) a w := h
end
section ops
variable {P : Program} {n : Nat} {w0 : World} {K : KL} {L : List Chunk} {b : Bool} {dst : Option Tmp} {ty : TypeId} {pos : String} {aft : Array Edge} {gd : Option (Nat × Bool)}
end ops
end Go.Ft
namespace Go.Ft
open Go.RowKit
theorem Wg {α : Type} {enc : α → List Value} {size : Nat} (he : ∀ x, (enc x).length = size) (l : List α) : (l.flatMap enc).length = l.length * size := by
 induction l with
 | nil => simp
 | cons x r ih => simp [he, ih, Nat.add_mul, Nat.add_comm]
theorem flat_get {α : Type} {enc : α → List Value} {size : Nat} (he : ∀ x, (enc x).length = size) (hs : 0 < size) : ∀ (l : List α) (j : Nat) (x : α), l[j / size]? = some x → (l.flatMap enc)[j]? = (enc x)[j % size]?
 | [], j, x, h => by simp at h
 | y :: r, j, x, h => by
   rw [List.flatMap_cons, List.getElem?_append, he]
   split
   · rename_i hlt
     rw [Nat.div_eq_of_lt hlt] at h
     simp at h
     subst h
     rw [Nat.mod_eq_of_lt hlt]
   · rename_i hge
     have hge' : size ≤ j := by omega
     rw [show j / size = (j - size) / size + 1 from Nat.div_eq_sub_div hs hge'] at h
     rw [Nat.mod_eq_sub_mod hge']
     exact flat_get he hs r (j - size) x (by simpa using h)
section
variable {w0 w w' : World} {L : List Chunk}
end
end Go.Ft
namespace Go.Ft
open Go.RowKit
section ops
variable {P : Program} {n : Nat} {w0 : World} {K : KL} {L : List Chunk} {b : Bool} {dst : Option Tmp} {ty : TypeId} {pos : String} {aft : Array Edge} {gd : Option (Nat × Bool)}
end ops
section
variable {n : Nat} {w0 : World} {K : KL} {L : List Chunk} {a : Act} {w : World} {c : Chunk}
end
theorem Wd.cell {w0 w : World} {L : List Chunk} (W : Wd w0 L w) {k g i : Nat} {cs : List Value} {e : TypeId} {fr : Nat × Nat} {v : Value} (hk : L[k]? = some (.blk g (.cells cs.toArray e fr))) (hc : nth cs i = some v) : w.cell? ⟨g, i, none⟩ = some v := by
 rw [cell_of_row w g i _ e fr (W.get hk).2]
 rw [nth_eq] at hc
 simpa using hc
section split
variable {P : Program} {Q : Exit → Act → World → Prop} {n : Nat} {w0 : World} {K : KL} {L Lr : List Chunk} {a : Act} {w : World} {ops : Array Oper} {fuel : Nat} {listed : Array Bool} {md : Region.Mode}
end split
def zrep (len : Nat) (z : Value) : List Value := (List.replicate len ()).flatMap fun _ => z.cells.toList
theorem zrep_eq {z : Value} {sz : Nat} (len : Nat) (hz : z.cells.size = sz) : (Array.range (len * sz)).map (fun i => (if len * sz = 0 then #[] else z.cells)[i % (if len * sz = 0 then (#[] : Array Value) else z.cells).size]!) = (zrep len z).toArray := by
 have hl : (zrep len z).length = len * sz := by
   unfold zrep
   rw [Wg (size := sz) (fun _ => by simpa using hz)]; simp
 apply Array.ext
 · simp [hl]
 · intro i h1 h2
   have hi : i < len * sz := by simpa using h1
   have hs : 0 < sz := by rcases Nat.eq_zero_or_pos sz with h | h; rw [h] at hi; simp at hi; exact h
   have hx : (List.replicate len ())[i / sz]? = some () := by
     rw [List.getElem?_replicate, if_pos ((Nat.div_lt_iff_lt_mul hs).2 hi)]
   have h3 := flat_get (enc := fun (_ : Unit) => z.cells.toList) (size := sz) (fun _ => by simpa using hz) hs (List.replicate len ()) i () hx
   have h4 : i % sz < z.cells.size := by rw [hz]; exact Nat.mod_lt _ hs
   rw [Array.getElem_map, Array.getElem_range, if_neg (by omega), hz, getElem!_pos z.cells _ h4]
   have h5 : (zrep len z)[i]? = some z.cells[i % sz] := by
     unfold zrep
     rw [h3, Array.getElem?_toList, Array.getElem?_eq_getElem h4]
   rw [List.getElem_toArray]
   exact (Option.some.inj ((List.getElem?_eq_getElem (by rw [hl]; exact hi)).symm.trans h5)).symm
section
variable {P : Program} {n : Nat} {w0 : World} {K : KL} {L : List Chunk} {ty : TypeId} {pos : String} {aft : Array Edge} {gd : Option (Nat × Bool)} {a : Act} {w : World} {Z : Act → World → Prop} {Q : Exit → Act → World → Prop} {d : Nat}
theorem Ww {t e sz len : Nat} {z : Value} {ps : List (Nat × Operand)} {vs us : List Value} (S : St n w0 K L a w) (ht : P.underlying t = some (.slice e)) (hsz : ∀ w, (sizeOf e).run P w = .ok sz w) (hz : ∀ w, (zeroValue e).run P w = .ok z w)
   (hzc : z.cells.size = sz) (hmax : Nat.ble (len * sz) 16777216 = true) (hx : EvL n true K (ps.map (·.2)) vs) (hr : fillL (fun i => some (i * sz, sz)) (zrep len z) ((ps.map (·.1)).zip vs) = some us) (hd : Nat.blt d n = true)
   (next : ∀ g a w, St n w0 ((d, true, .slice (some ⟨g, 0, none⟩) len len) :: K) (.blk g (.cells us.toArray e) :: L) a w → Z a w) :
   Oper.wp P ⟨some d, .buildSlice t len ps.toArray, ty, pos, aft, gd⟩ a w Z Q := op_bslice (zrep len z) S ht hsz hz (zrep_eq len hzc) hmax hx hr hd next
end
end Go.Ft
namespace Go.Ft
open Go.Proofs Go.RowKit
section
variable {P : Program} {n : Nat} {w0 : World} {K : KL} {L : List Chunk} {ty : TypeId} {pos : String} {aft : Array Edge} {gd : Option (Nat × Bool)} {a : Act} {w : World} {Z : Act → World → Prop} {Q : Exit → Act → World → Prop} {d : Nat} {dst : Option Tmp} {b : Bool}
variable {K' : Act → World → Prop} {i : Nat} {ps : List PanicEntry}
end
section
variable {P : Program} {f : FuncId} {fn : Func} {c : Code} {R : Ending → World → Prop} {w0 w : World} {L : List Chunk} {v0 v1 v2 v3 v4 v5 v6 v7 v8 : Value}
end
theorem Sl.sub {w : World} {α : Type} {enc : α → List Value} {size B : Nat} {A : Option Addr} {l : List α} {cap : Nat} (h : Sl enc size w B (.slice A l.length cap) l) (lo hi : Nat) (hlo : lo ≤ hi) (hhi : hi ≤ l.length) :
   Sl enc size w B (.slice (if cap = lo then A else A.map (·.add (lo * size))) (hi - lo) (cap - lo)) ((l.drop lo).take (hi - lo)) := by
 obtain ⟨A', cap', hv, h2, h3, h4⟩ := h
 simp only [Value.slice.injEq, true_and] at hv
 obtain ⟨rfl, rfl⟩ := hv
 have hl : ((l.drop lo).take (hi - lo)).length = hi - lo := by simp; omega
 refine ⟨if cap = lo then A else A.map (·.add (lo * size)), cap - lo, by rw [hl], by rw [hl]; omega, by omega, fun hp => ?_⟩
 rw [hl] at hp
 obtain ⟨g, o, rfl, hg, hc⟩ := h4 (by omega)
 rw [if_neg (by omega)]
 refine ⟨g, o + lo * size, by simp [Addr.add_mid], hg, fun k x hx j u hu => ?_⟩
 rw [List.getElem?_take] at hx
 split at hx
 · rw [List.getElem?_drop] at hx
   have := hc _ x hx j u hu
   rw [Nat.add_mul] at this
   rw [show o + lo * size + k * size + j = o + (lo * size + k * size) + j by omega]
   exact this
 · cases hx
theorem Src.subS {P : Program} {w : World} {α : Type} {enc : α → List Value} {size B : Nat} {A : Option Addr} {l : List α} {cap lo hi c : Nat} (h : Sl enc size w B (.slice A l.length cap) l) (hsz : 0 < size) (he : ∀ x, (enc x).length = size) (h1 : ∀ x, ∀ u ∈ enc x, u.oneCell' = true) (hlo : lo ≤ hi) (hhi : hi ≤ l.length) :
   Src P w size (.slice (if cap = lo then A else A.map (·.add (lo * size))) (hi - lo) c) ((l.drop lo).take (hi - lo)).length (((l.drop lo).take (hi - lo)).flatMap enc) := by
 have hl : ((l.drop lo).take (hi - lo)).length = hi - lo := by simp; omega
 have h' : Sl enc size w B (.slice (if cap = lo then A else A.map (·.add (lo * size))) ((l.drop lo).take (hi - lo)).length (cap - lo)) ((l.drop lo).take (hi - lo)) := by rw [hl]; exact h.sub lo hi hlo hhi
 have := Src.sl (P := P) (c := c) h' hsz he h1
 rw [hl] at this
 rw [hl]
 exact this
theorem Src.sub {P : Program} {α : Type} {enc : α → List Value} {size e cap k lo hi c : Nat} {w w0 : World} {L : List Chunk} {A : Option Addr} {l : List α} (W : Wd w0 L w) (hk : L[k]? = some (rowOf e size enc A cap l)) (hsz : 0 < size) (he : ∀ x, (enc x).length = size) (h1 : ∀ x, ∀ u ∈ enc x, u.oneCell' = true) (hlo : lo ≤ hi) (hhi : hi ≤ l.length) :
   Src P w size (.slice (if cap = lo then A else A.map (·.add (lo * size))) (hi - lo) c) ((l.drop lo).take (hi - lo)).length (((l.drop lo).take (hi - lo)).flatMap enc) :=
 Src.subS (Sl.of_own W hk he) hsz he h1 hlo hhi
end Go.Ft
namespace Go.Ft
open Go.RowKit
theorem We : ∀ a : List UInt8, Op.bytesLess a a = false
 | [] => rfl
 | x :: r => by unfold Op.bytesLess; rw [We r]; simp
theorem less_nil (a : List UInt8) : Op.bytesLess a [] = false := by cases a <;> rfl
theorem less_cons (x y : UInt8) (a b : List UInt8) : Op.bytesLess (x :: a) (y :: b) = true ↔ x < y ∨ (x = y ∧ Op.bytesLess a b = true) := by
 rw [Op.bytesLess]
 simp
theorem less_trans : ∀ {a b c : List UInt8}, Op.bytesLess a b = true → Op.bytesLess b c = true → Op.bytesLess a c = true
 | _, [], _, h, _ => by rw [less_nil] at h; cases h
 | _, _ :: _, [], _, h => by rw [less_nil] at h; cases h
 | [], _ :: _, _ :: _, _, _ => rfl
 | x :: a, y :: b, z :: c, h, h' => by
   rw [less_cons] at h h' ⊢
   rcases h with h | ⟨rfl, h⟩
   · rcases h' with h' | ⟨rfl, h'⟩
     · exact .inl (UInt8.lt_trans h h')
     · exact .inl h
   · rcases h' with h' | ⟨rfl, h'⟩
     · exact .inl h'
     · exact .inr ⟨rfl, less_trans h h'⟩
theorem Wy : ∀ {a b : List UInt8}, a ≠ b → Op.bytesLess a b = true ∨ Op.bytesLess b a = true
 | [], [], h => absurd rfl h
 | [], _ :: _, _ => .inl rfl
 | _ :: _, [], _ => .inr rfl
 | x :: a, y :: b, h => by
   rw [less_cons, less_cons]
   by_cases e : x = y
   · subst e
     have h2 : a ≠ b := fun e => h (by rw [e])
     rcases Wy h2 with h | h
     · exact .inl (.inr ⟨rfl, h⟩)
     · exact .inr (.inr ⟨rfl, h⟩)
   · rcases UInt8.lt_or_lt_of_ne e with h | h
     · exact .inl (.inl h)
     · exact .inr (.inl h)
theorem less_asymm {a b : List UInt8} (h : Op.bytesLess a b = true) : Op.bytesLess b a = false := by
 rw [Bool.eq_false_iff]
 intro h'
 have := less_trans h h'
 rw [We] at this
 cases this
theorem less_ne {a b : List UInt8} (h : Op.bytesLess a b = true) : a ≠ b := fun e => by rw [e, We] at h; cases h
def cmpB (a b : List UInt8) : Int := if Op.bytesLess a b then -1 else if a = b then 0 else 1
theorem less_gt (l m : List UInt8) : (!(Op.bytesLess l m || l == m)) = Op.bytesLess m l := by
 by_cases e : l = m
 · subst e; simp [We]
 · rw [beq_false_of_ne e, Bool.or_false]
   rcases Wy e with h | h
   · rw [h, less_asymm h]; rfl
   · rw [h, less_asymm h]; rfl
end Go.Ft
namespace Go.Ft
open Go.Proofs Go.RowKit Go.ChangeMaps
section
variable {P : Program} {n : Nat} {w0 : World} {K : KL} {L : List Chunk} {b : Bool} {dst : Option Tmp} {ty : TypeId} {pos : String} {aft : Array Edge} {gd : Option (Nat × Bool)} {a : Act} {w : World} {Z : Act → World → Prop} {Q : Exit → Act → World → Prop} {d : Nat}
section
variable {t t' : TypeId} {x y : Operand} {l m : List UInt8} (hx : Ev n b K x (.string (bs l))) (hy : Ev n b K y (.string (bs m)))
include hx hy
theorem ys_lssStr : Yr P ⟨dst, .binOp .lss t x y t', ty, pos, aft, gd⟩ n K w0 L b (.bool (Op.bytesLess l m)) := fun a w hb hkn _ => by
 simp only [execOp, hx a hb hkn, hy a hb hkn]
 simp [eqGuard, binOp, Op.stringOp, Vi]
theorem ys_gtrStr : Yr P ⟨dst, .binOp .gtr t x y t', ty, pos, aft, gd⟩ n K w0 L b (.bool (Op.bytesLess m l)) := fun a w hb hkn _ => by
 simp only [execOp, hx a hb hkn, hy a hb hkn]
 simp only [eqGuard, binOp, Op.stringOp, Vi, less_gt]
 simp
end
end
end Go.Ft
namespace Go.Ft
open Go.RowKit
def ltM (a b : Dot) : Prop := a.node < b.node ∨ (a.node = b.node ∧ a.life < b.life)
def ltC (a b : Dot) : Prop := a.node < b.node ∨ (a.node = b.node ∧ (a.life < b.life ∨ (a.life = b.life ∧ a.count < b.count)))
theorem Xr (a b : Dot) : belowD a b = true ↔ ltC a b := by
 simp only [belowD, ltC]
 split
 · simp; omega
 · split <;> simp <;> omega
structure Nf (C : Ctx) : Prop where
 marks : C.marks.Pairwise ltM
 cloud : C.cloud.Pairwise ltC
 mayM : ∀ x ∈ C.marks, mayD x = true
 mayC : ∀ x ∈ C.cloud, mayD x = true
 gap : ∀ x ∈ C.cloud, markOf C.marks x.node x.life + 1 < x.count
end Go.Ft
namespace Go.Ft
open Go.RowKit
def charB (c : UInt8) : Bool := (decide (97 ≤ c.toNat) && decide (c.toNat ≤ 122)) || (decide (65 ≤ c.toNat) && decide (c.toNat ≤ 90)) || (decide (48 ≤ c.toNat) && decide (c.toNat ≤ 57)) || decide (c.toNat = 45) || decide (c.toNat = 95) || decide (c.toNat = 46)
def nameB (s : List UInt8) : Bool := decide (s ≠ []) && decide (s.length ≤ 32) && s.all charB
def priceB (p : UInt64) : Bool := decide (p.toNat ≤ 9218868437227405312) || decide (p.toNat = 9223372036854775808)
structure Ent where
 item : List UInt8
 dot : Dot
 qty : Int
 price : UInt64
deriving DecidableEq
abbrev Ent.enc (e : Ent) : List Value := [.string (bs e.item), .int .i64 e.dot.node, .int .i64 e.dot.life, .int .i64 e.dot.count, .int .i64 e.qty, .int .u64 (e.price.toNat : Int)]
structure Cart where
 ents : List Ent
 ctx : Ctx
deriving DecidableEq
abbrev Cart.zero : Cart := ⟨[], ⟨[], []⟩⟩
structure Line where
 item : List UInt8
 qty : Int
 price : UInt64
deriving DecidableEq
abbrev Line.enc (e : Line) : List Value := [.string (bs e.item), .int .i64 e.qty, .int .u64 (e.price.toNat : Int)]
def ltE (a b : Ent) : Prop := Op.bytesLess a.item b.item = true ∨ (a.item = b.item ∧ ltC a.dot b.dot)
instance (a b : Ent) : Decidable (ltE a b) := decidable_of_iff (Op.bytesLess a.item b.item = true ∨ (a.item = b.item ∧ belowD a.dot b.dot = true)) (by rw [Xr]; rfl)
def itemsFrom : Option (List UInt8) → List Ent → Nat
 | _, [] => 0
 | p, e :: r => (if p = some e.item then 0 else 1) + itemsFrom (some e.item) r
def itemsN (l : List Ent) : Nat := itemsFrom none l
structure EntOk (C : Ctx) (e : Ent) : Prop where
 name : nameB e.item = true
 qty : 1 ≤ e.qty ∧ e.qty ≤ 1000000
 price : priceB e.price = true
 cov : C.covers e.dot = true
structure CartOk (c : Cart) : Prop where
 ctx : canL c.ctx = true
 len : c.ents.length ≤ 64
 each : ∀ e ∈ c.ents, EntOk c.ctx e
 order : c.ents.Pairwise ltE
 dots : (c.ents.map (·.dot)).Nodup
 items : itemsN c.ents ≤ 32
structure Upd where
 key : List UInt8
 dot : Dot
 item : List UInt8
 qty : Int
 price : UInt64
 seen : Cart
deriving DecidableEq
def clashE (a b : Cart) : Prop := ∃ x ∈ a.ents, ∃ y ∈ b.ents, x.dot = y.dot ∧ x ≠ y
instance (a b : Cart) : Decidable (clashE a b) := by unfold clashE; infer_instance
end Go.Ft
namespace Go.Proofs
open Go.Shelf
def Tryz.sortEnts_ren : Go.Shelf.Ren := ⟨fun | 6 => 110 | 15 => 161 | 14 => 160 | 28 => 198 | 29 => 199 | 20 => 190 | 21 => 191 | 22 => 192 | 23 => 193 | 24 => 194 | 25 => 195 | 26 => 196 | 27 => 197 | 46 => 215 | 47 => 216 | 48 => 217 | 49 => 218 | 50 => 219 | 57 => 236 | n => n, fun | 22 => 31 | 24 => 100 | 25 => 149 | 3 => 3 | 39 => 61 | 0 => 0 | 53 => 225 | 55 => 75 | 4 => 4 | 46 => 219 | 45 => 218 | 50 => 106 | 5 => 5 | 9 => 9 | 66 => 237 | 70 => 241 | 76 => 251 | 77 => 252 | n => n, fun | n => n⟩
theorem Tryz.sortEnts : Go.Proofs.SlLaysF0.n6 Tryz.prog Tryz.sortEnts_ren := {
 mixed := by kernel_rfl
 f6 := ⟨Tryz.f110.name, by decide, Tryz.func110.trans (congrArg some (by kernel_rfl))⟩
 f14 := ⟨Tryz.f160.name, by decide, Tryz.func160.trans (congrArg some (by kernel_rfl))⟩
 f15 := Tryz.func161.trans (congrArg some (by kernel_rfl))
 f20 := ⟨Tryz.f190.name, by decide, Tryz.func190.trans (congrArg some (by kernel_rfl))⟩
 f21 := ⟨Tryz.f191.name, by decide, Tryz.func191.trans (congrArg some (by kernel_rfl))⟩
 f22 := ⟨Tryz.f192.name, by decide, Tryz.func192.trans (congrArg some (by kernel_rfl))⟩
 f23 := ⟨Tryz.f193.name, by decide, Tryz.func193.trans (congrArg some (by kernel_rfl))⟩
 f24 := ⟨Tryz.f194.name, by decide, Tryz.func194.trans (congrArg some (by kernel_rfl))⟩
 f25 := ⟨Tryz.f195.name, by decide, Tryz.func195.trans (congrArg some (by kernel_rfl))⟩
 f26 := ⟨Tryz.f196.name, by decide, Tryz.func196.trans (congrArg some (by kernel_rfl))⟩
 f27 := ⟨Tryz.f197.name, by decide, Tryz.func197.trans (congrArg some (by kernel_rfl))⟩
 f28 := Tryz.func198.trans (congrArg some (by kernel_rfl))
 f29 := Tryz.func199.trans (congrArg some (by kernel_rfl))
 f46 := ⟨Tryz.f215.name, by decide, Tryz.func215.trans (congrArg some (by kernel_rfl))⟩
 f47 := Tryz.func216.trans (congrArg some (by kernel_rfl))
 f48 := Tryz.func217.trans (congrArg some (by kernel_rfl))
 f49 := ⟨Tryz.f218.name, by decide, Tryz.func218.trans (congrArg some (by kernel_rfl))⟩
 f50 := ⟨Tryz.f219.name, by decide, Tryz.func219.trans (congrArg some (by kernel_rfl))⟩
 f57 := ⟨Tryz.f236.name, by decide, Tryz.func236.trans (congrArg some (by kernel_rfl))⟩
 t0 := Tryz.underlying0
 a0 := Tryz.isAgg0
 z0 := Tryz.sizeOf0
 v0 := Tryz.zeroValue0
 t3 := Tryz.underlying3
 a3 := Tryz.isAgg3
 z3 := Tryz.sizeOf3
 v3 := Tryz.zeroValue3
 t4 := Tryz.underlying4
 a4 := Tryz.isAgg4
 z4 := Tryz.sizeOf4
 v4 := Tryz.zeroValue4
 t5 := Tryz.underlying5
 a5 := Tryz.isAgg5
 z5 := Tryz.sizeOf5
 v5 := Tryz.zeroValue5
 t9 := Tryz.underlying9
 a9 := Tryz.isAgg9
 z9 := Tryz.sizeOf9
 v9 := Tryz.zeroValue9
 t22 := Tryz.underlying31
 a22 := Tryz.isAgg31
 z22 := Tryz.sizeOf31
 v22 := Tryz.zeroValue31
 t25 := Tryz.underlying149
 a25 := Tryz.isAgg149
 z25 := Tryz.sizeOf149
 v25 := Tryz.zeroValue149
 t39 := Tryz.underlying61
 a39 := Tryz.isAgg61
 z39 := Tryz.sizeOf61
 v39 := Tryz.zeroValue61
 t45 := Tryz.underlying218
 a45 := Tryz.isAgg218
 z45 := Tryz.sizeOf218
 v45 := Tryz.zeroValue218
 t46 := Tryz.underlying219
 a46 := Tryz.isAgg219
 z46 := Tryz.sizeOf219
 v46 := Tryz.zeroValue219
 t50 := Tryz.underlying106
 a50 := Tryz.isAgg106
 z50 := Tryz.sizeOf106
 v50 := Tryz.zeroValue106
 t53 := Tryz.underlying225
 a53 := Tryz.isAgg225
 z53 := Tryz.sizeOf225
 v53 := Tryz.zeroValue225
 t55 := Tryz.underlying75
 a55 := Tryz.isAgg75
 z55 := Tryz.sizeOf75
 v55 := Tryz.zeroValue75
 t66 := Tryz.underlying237
 a66 := Tryz.isAgg237
 z66 := Tryz.sizeOf237
 v66 := Tryz.zeroValue237
 t70 := Tryz.underlying241
 a70 := Tryz.isAgg241
 z70 := Tryz.sizeOf241
 v70 := Tryz.zeroValue241
 t76 := Tryz.underlying251
 a76 := Tryz.isAgg251
 z76 := Tryz.sizeOf251
 v76 := Tryz.zeroValue251
 t77 := Tryz.underlying252
 a77 := Tryz.isAgg252
 z77 := Tryz.sizeOf252
 v77 := Tryz.zeroValue252 }
end Go.Proofs
namespace Go.Fw
theorem insE_none {e : Ent} : ∀ {l : List Ent}, (∀ y ∈ l, ¬ ltE e y) → insE e l = l ++ [e]
 | [], _ => rfl
 | x :: r, h => by
   rw [insE, if_neg (h x (by simp)), insE_none fun y hy => h y (by simp [hy])]
   rfl
theorem insE_put {e x : Ent} : ∀ {l : List Ent}, (∃ y ∈ l, ltE e y) → insE e (l ++ [x]) = insE e l ++ [x]
 | [], h => by obtain ⟨y, hy, _⟩ := h; simp at hy
 | z :: r, h => by
   rw [List.cons_append, insE, insE]
   by_cases hz : ltE e z
   · rw [if_pos hz, if_pos hz]; rfl
   · rw [if_neg hz, if_neg hz, insE_put (l := r)]
     · rfl
     · obtain ⟨y, hy, hy2⟩ := h
       rcases List.mem_cons.1 hy with rfl | hy
       · exact absurd hy2 hz
       · exact ⟨y, hy, hy2⟩
theorem insE_new {e x : Ent} : ∀ {l : List Ent}, (∀ y ∈ l, ¬ ltE e y) → ltE e x → insE e (l ++ [x]) = l ++ [e, x]
 | [], _, h => by simp [insE, h]
 | z :: r, h, hx => by
   rw [List.cons_append, insE, if_neg (h z (by simp)), insE_new (fun y hy => h y (by simp [hy])) hx]
   rfl
end Go.Fw
namespace Go.Proofs.YtakpdbmdfnialaaGreat
open Go.Fw Go.Proofs Go.RowKit Go.Sort Go.Proofs.Tryz
def outE (e : Ent) (l : List Ent) (put : Bool) : List Ent := if put then insE e l else l
end Go.Proofs.YtakpdbmdfnialaaGreat
namespace Go.Proofs.YtakpdbmdfnialaaGreat
open Go.Fw Go.Proofs Go.RowKit Go.Proofs.Tryz
theorem c135 (w0 : World) (v1 : Value) (l : List Dot) (h : Sl Dot.enc 3 w0 w0.heap.size v1 l) (hn : l.length ≤ 4194304) :
   Rets Tryz.prog 135 #[v1] w0 fun v L => ∃ A c, v = .slice A l.length c ∧ L = [rowOf 30 3 Dot.enc A c l] := by
 have h0 := h
 obtain ⟨A, cap, rfl, hl, hcap, hA⟩ := h
 unfold Go.Fw.Rets
 refine enter1 func135 rfl ntmps135 rfl fun a S => sg S (.ac rfl <| .z) fun a w S => wp_seq_k fun _ hK1 => sg S (.mv rfl <| .yy (ys_sNil underlying32 (.t rfl) Ev.c) rfl <| .z) fun a w S => ?_
 refine Xi S (.t rfl) (fun h1 => ?_) (fun h1 => ?_)
 refine sg S (.ac rfl <| .z) fun a w S => wp_ret (Zd (Zm S (results1 S results135 (Rv.tmp rfl)) ?_))
 rotate_left
 refine wp_skip (Za (hK1 _ _ (wp_seq_k fun _ hK1 => wp_region_lit (Zj (op_bslice0 S underlying32 sizeOf30 rfl fun g1 a w S => run S (.mv rfl <| .z) fun a w S => Zj (Xy _ (S.nil_ 30 _ Go.Fw.Dot.enc _) underlying32 underlying32 (.inr ⟨_, rfl⟩) inf30 rfl (k := 0) rfl (.t rfl) (.t rfl) (Src.sl (Sl.old S.wd h0) (by decide) Go.Fw.Dot.enc_len Go.Fw.Dot.enc_one) (by first | omega | (simp only [List.length_append, List.length_cons, List.length_nil]; omega) | (simp; omega)) rfl rfl rfl fun A1 cap1 a w S => ?_))))))
 simp only [List.nil_append] at S
 refine run S (.as rfl <| .z) fun a w S => Zb (Za (hK1 _ _ (wp_ret (Zm S (results1 S results135 (Rv.tmp rfl)) ?_))))
 rotate_left
 · have hnil : l = [] := by
     refine List.eq_nil_of_length_eq_zero (Decidable.byContradiction fun hne => ?_)
     obtain ⟨g, o, rfl, _⟩ := hA (by omega)
     cases h1
   subst hnil
   exact ⟨_, _, rfl, (S.nil_ 30 3 Dot.enc none).wd.sub (by repeat (first | exact List.Sublist.refl _ | exact List.nil_sublist _ | refine .cons_cons _ ?_ | refine .cons _ ?_)), none, 0, rfl, rfl⟩
 · try simp only [List.nil_append] at S ⊢
   exact ⟨_, _, rfl, S.wd.sub (by repeat (first | exact List.Sublist.refl _ | exact List.nil_sublist _ | refine .cons_cons _ ?_ | refine .cons _ ?_)), _, _, rfl, rfl⟩
end Go.Proofs.YtakpdbmdfnialaaGreat
namespace Go.Fw
open Go.RowKit
def leqR (A B : Ctx) : Bool := A.marks.all (fun m => decide (m.count ≤ markOf B.marks m.node m.life)) && A.cloud.all B.coversR
theorem coversR_eq {C : Ctx} (hC : Nf C) {d : Dot} (h : mayD d = true) : C.coversR d = C.covers d := by
 have := Xw h
 unfold Ctx.coversR Ctx.covers
 rw [decide_eq_true (by omega : 1 ≤ d.count)]
 simp
theorem leqR_eq {A B : Ctx} (hA : Nf A) (hB : Nf B) : leqR A B = leqL A B := by
 rw [Bool.eq_iff_iff, leq_covers hA hB]
 unfold leqR
 rw [Bool.and_eq_true, List.all_eq_true, List.all_eq_true]
 constructor
 · rintro ⟨h1, h2⟩ x hx
   rw [Xc] at hx
   obtain ⟨h3, h4 | h4⟩ := hx
   · have hp := markOf_pos (l := A.marks) (x := x.node) (y := x.life) (by omega)
     have h5 := of_decide_eq_true (h1 _ hp)
     rw [Xc]
     exact ⟨h3, .inl (Int.le_trans h4 h5)⟩
   · rw [← coversR_eq hB (hA.mayC x h4)]
     exact h2 x h4
 · intro h
   refine ⟨fun m hm => decide_eq_true ?_, fun m hm => ?_⟩
   · have hmm := Xw (hA.mayM m hm)
     refine Int.not_lt.1 fun hlt => ?_
     have h2 := h ⟨m.node, m.life, markOf B.marks m.node m.life + 1⟩ (by
       rw [Xc]
       have := (Wf (x := m.node) (y := m.life) hB.mayM).1
       exact ⟨by simp only; omega, .inl (by simp only; rw [Vg hA.marks hm]; omega)⟩)
     rw [Xc] at h2
     obtain ⟨_, h2 | h2⟩ := h2
     · simp only at h2; omega
     · have := hB.gap _ h2
       simp at this
   · have hmm := Xw (hA.mayC m hm)
     rw [coversR_eq hB (hA.mayC m hm)]
     exact h m (by rw [Xc]; exact ⟨by omega, .inr hm⟩)
theorem leqR_m {A B : Ctx} {k : Nat} {m : Dot} (hm : A.marks[k]? = some m) (h : markOf B.marks m.node m.life < m.count) : leqR A B = false := by
 rw [leqR, (List.all_eq_false.2 ⟨m, List.mem_of_getElem? hm, by simp; omega⟩ : A.marks.all _ = false)]; rfl
theorem leqR_c {A B : Ctx} {k : Nat} {m : Dot} (hm : A.cloud[k]? = some m) (h : B.coversR m = false) : leqR A B = false := by
 rw [leqR, (List.all_eq_false.2 ⟨m, List.mem_of_getElem? hm, by simp [h]⟩ : A.cloud.all B.coversR = false), Bool.and_false]
theorem leqR_yes {A B : Ctx} (h : ∀ x ∈ A.marks, x.count ≤ markOf B.marks x.node x.life) (h' : ∀ x ∈ A.cloud, B.coversR x = true) : leqR A B = true := by
 rw [leqR, List.all_eq_true.2 fun x hx => decide_eq_true (h x hx), List.all_eq_true.2 h']; rfl
end Go.Fw
namespace Go.Proofs.YtakpdbmdfnialaaGreat
open Go.Fw Go.Proofs Go.RowKit Go.Proofs.Tryz
theorem c175 (w0 : World) (v1 v2 v3 v4 : Value) (C D : Ctx) (h : RdCtx w0 w0.heap.size v1 v2 C) (h' : RdCtx w0 w0.heap.size v3 v4 D) :
   Calls Tryz.prog 175 #[.agg #[v1, v2], .agg #[v3, v4]] w0 fun e w' => e = .returned (.bool (leqR C D)) ∧ Bel w0.heap.size w0 w' := by
 obtain ⟨⟨A, cap, rfl, hl, hcap, hA⟩, ⟨A', cap', rfl, hl', hcap', hA'⟩⟩ := h
 obtain ⟨hD1, hD2⟩ := h'
 have hD : RdCtx w0 w0.heap.size v3 v4 D := ⟨hD1, hD2⟩
 refine enter2 func175 rfl ntmps175 rfl fun a S => wp_seq_k fun _ hK1 => wp_region_lit (Zj (Zw S (.t rfl) rfl fun g1 a w S => Zj (Zw S (.t rfl) rfl fun g2 a w S => run S (.ac rfl <| .z) fun a w S => Zb (Za (hK1 _ _ (wp_seq_k fun _ hK1 => sg S (.fa underlying35 sizeOf32 0 rfl rfl rfl <| .ld gt32 1 rfl rfl rfl <| .ln underlying32 rfl <| .mc rfl <| .z) fun a w S => wp_block ?_))))))
 refine Xk S (X := Nat) (fun k => [(12, true, .int .i64 (k : Int))]) (fun _ L => L) (fun k => k ≤ C.marks.length ∧ ∀ x ∈ C.marks.take k, x.count ≤ markOf D.marks x.node x.life) (fun k => C.marks.length - k) 0 ⟨Nat.zero_le _, by simp⟩ ?_
 clear S
 intro k a w ⟨hk, hno⟩ S
 by_cases hlt : k < C.marks.length
 · obtain ⟨g, o, m, rfl, hmm, hd, hc⟩ := Yg hA hlt
   by_cases hle : markOf D.marks m.node m.life < m.count
   · refine sg S (.lt (by omega) rfl rfl <| .z) fun a w S => wp_seq_k fun _ hK2 => Zg S (.t rfl) (wp_skip (Za (hK2 _ _ (wp_seq_k fun _ hK2 => wp_block (wp_seq_k fun _ hK3 => wp_region_lit (run S (.ix underlying32 sizeOf30 (by omega) rfl rfl <| .yy (Zp ⟨isAgg30, sizeOf30⟩ (.t rfl) (vs := [_, _, _]) rfl (fun _ => hc)) rfl <| .z) fun a w S => Zj (Zn S zeroValue30 (cs := _) rfl rfl fun g3 a w S => Zj (Zq S sizeOf30 (.t rfl) (.t rfl) (k := 0) rfl rfl rfl (by simp [Value.oneCell']) fun a w S => Zb (Za (hK3 _ _ (wp_seq_k fun _ hK3 => Yc S (by kernel_rfl) (by kernel_rfl) fun a S => qrun S (.fa underlying35 sizeOf32 0 rfl rfl rfl <| .ld gt32 1 rfl rfl rfl <| .fa underlying30 sizeOf3 0 rfl rfl rfl <| .ld gt3 0 rfl rfl rfl <| .fa underlying30 sizeOf3 1 rfl rfl rfl <| .ld gt3 0 rfl rfl rfl <| .xx (Zf call143 (.cons (.t rfl) (.cons (.t rfl) (.cons (.t rfl) .nil))) (fun hp w W => c143 _ _ _ _ _ (by exact .old W (by assumption)))) rfl <| .fa underlying30 sizeOf3 2 rfl rfl rfl <| .ld gt3 0 rfl rfl rfl <| .lt (by omega) rfl rfl <| .z) fun a S => ?_)))))))))))
     (refine Yt ?_; intro w W; replace S := St.mk S W; clear W)
     refine Za (hK3 _ _ (Zg S (.t rfl) (sg S (.ac rfl <| .z) fun a w S => wp_ret (Zr (Zd (Zd (Zr (Zd (Zm S (results1 S results175 (Rv.tmp rfl)) ?_)))))))))
     exact ⟨by rw [leqR_m hmm hle], S.wd.below⟩
   · refine sg S (.lt (by omega) rfl rfl <| .z) fun a w S => wp_seq_k fun _ hK2 => Zg S (.t rfl) (wp_skip (Za (hK2 _ _ (wp_seq_k fun _ hK2 => wp_block (wp_seq_k fun _ hK3 => wp_region_lit (run S (.ix underlying32 sizeOf30 (by omega) rfl rfl <| .yy (Zp ⟨isAgg30, sizeOf30⟩ (.t rfl) (vs := [_, _, _]) rfl (fun _ => hc)) rfl <| .z) fun a w S => Zj (Zn S zeroValue30 (cs := _) rfl rfl fun g3 a w S => Zj (Zq S sizeOf30 (.t rfl) (.t rfl) (k := 0) rfl rfl rfl (by simp [Value.oneCell']) fun a w S => Zb (Za (hK3 _ _ (wp_seq_k fun _ hK3 => Yc S (by kernel_rfl) (by kernel_rfl) fun a S => qrun S (.fa underlying35 sizeOf32 0 rfl rfl rfl <| .ld gt32 1 rfl rfl rfl <| .fa underlying30 sizeOf3 0 rfl rfl rfl <| .ld gt3 0 rfl rfl rfl <| .fa underlying30 sizeOf3 1 rfl rfl rfl <| .ld gt3 0 rfl rfl rfl <| .xx (Zf call143 (.cons (.t rfl) (.cons (.t rfl) (.cons (.t rfl) .nil))) (fun hp w W => c143 _ _ _ _ _ (by exact .old W (by assumption)))) rfl <| .fa underlying30 sizeOf3 2 rfl rfl rfl <| .ld gt3 0 rfl rfl rfl <| .ge (by omega) rfl rfl <| .z) fun a S => ?_)))))))))))
     (refine Yt ?_; intro w W; replace S := St.mk S W; clear W)
     refine Za (hK3 _ _ (Ze S (.t rfl) (wp_skip (Zk (Za (hK2 _ _ (wp_region_lit (run S (.ad (by unfold I64; omega) rfl <| .mv rfl <| .z) fun a w S => Zb (Za ?_)))))))))
     refine ⟨k + 1, ⟨by omega, fun x hx => ?_⟩, by omega, S.wk⟩
     rw [List.take_add_one, hmm] at hx
     rcases List.mem_append.1 hx with hx | hx
     · exact hno x hx
     · simp at hx; rw [hx]; omega
 · have hend : k = C.marks.length := by omega
   subst hend
   rw [List.take_length] at hno
   refine sg S (.ge (by omega) rfl rfl <| .z) fun a w S => wp_seq_k fun _ hK2 => Ze S (.t rfl) (wp_exit (Zh (Zh (Ya (Za (hK1 _ _ (wp_seq_k fun _ hK1 => sg S (.fa underlying35 sizeOf33 1 rfl rfl rfl <| .ld gt33 1 rfl rfl rfl <| .ln underlying33 rfl <| .mc rfl <| .z) fun a w S => wp_block ?_)))))))
   refine Xk S (X := Nat) (fun k => [(30, true, .int .i64 (k : Int))]) (fun _ L => L) (fun k => k ≤ C.cloud.length ∧ ∀ x ∈ C.cloud.take k, D.coversR x = true) (fun k => C.cloud.length - k) 0 ⟨Nat.zero_le _, by simp⟩ ?_
   clear S
   intro k a w ⟨hk, hno'⟩ S
   by_cases hlt : k < C.cloud.length
   · obtain ⟨g, o, m, rfl, hmm, hd, hc⟩ := Yg hA' hlt
     have rw_e : (⟨m.node, m.life, m.count⟩ : Dot) = m := rfl
     cases rw_b : D.coversR m with
     | false =>
       refine sg S (.lt (by omega) rfl rfl <| .z) fun a w S => wp_seq_k fun _ hK3 => Zg S (.t rfl) (wp_skip (Za (hK3 _ _ (wp_seq_k fun _ hK3 => wp_block (wp_seq_k fun _ hK4 => wp_region_lit (run S (.ix underlying33 sizeOf74 (by omega) rfl rfl <| .yy (Zp ⟨isAgg74, sizeOf74⟩ (.t rfl) (vs := [_, _, _]) rfl (fun _ => hc)) rfl <| .z) fun a w S => Zj (Zn S zeroValue74 (cs := _) rfl rfl fun g3 a w S => Zj (Zq S sizeOf74 (.t rfl) (.t rfl) (k := 0) rfl rfl rfl (by simp [Value.oneCell']) fun a w S => Zb (Za (hK4 _ _ (wp_seq_k fun _ hK4 => wp_region_lit (run S (.la gt35 1 rfl rfl rfl <| .la gt74 0 rfl rfl rfl <| .xx (Zf call77 (.cons (.t rfl) (.cons (.t rfl) .nil)) (fun hp w W => c77 _ _ _ _ _ _ _ (by exact .old W (by assumption)))) rfl <| .z) fun a w S => ?_))))))))))))
       rw [rw_e] at S
       rw [rw_b] at S
       refine run S (.nt rfl <| .z) fun a w S => Zb (Za (hK4 _ _ (Zg S (.t rfl) (sg S (.ac rfl <| .z) fun a w S => wp_ret (Zr (Zd (Zd (Zr (Zd (Zm S (results1 S results175 (Rv.tmp rfl)) ?_))))))))))
       exact ⟨by rw [leqR_c hmm rw_b], S.wd.below⟩
     | true =>
       refine sg S (.lt (by omega) rfl rfl <| .z) fun a w S => wp_seq_k fun _ hK3 => Zg S (.t rfl) (wp_skip (Za (hK3 _ _ (wp_seq_k fun _ hK3 => wp_block (wp_seq_k fun _ hK4 => wp_region_lit (run S (.ix underlying33 sizeOf74 (by omega) rfl rfl <| .yy (Zp ⟨isAgg74, sizeOf74⟩ (.t rfl) (vs := [_, _, _]) rfl (fun _ => hc)) rfl <| .z) fun a w S => Zj (Zn S zeroValue74 (cs := _) rfl rfl fun g3 a w S => Zj (Zq S sizeOf74 (.t rfl) (.t rfl) (k := 0) rfl rfl rfl (by simp [Value.oneCell']) fun a w S => Zb (Za (hK4 _ _ (wp_seq_k fun _ hK4 => wp_region_lit (run S (.la gt35 1 rfl rfl rfl <| .la gt74 0 rfl rfl rfl <| .xx (Zf call77 (.cons (.t rfl) (.cons (.t rfl) .nil)) (fun hp w W => c77 _ _ _ _ _ _ _ (by exact .old W (by assumption)))) rfl <| .z) fun a w S => ?_))))))))))))
       rw [rw_e] at S
       rw [rw_b] at S
       refine run S (.nt rfl <| .z) fun a w S => Zb (Za (hK4 _ _ (Ze S (.t rfl) (wp_skip (Zk (Za (hK3 _ _ (wp_region_lit (run S (.ad (by unfold I64; omega) rfl <| .mv rfl <| .z) fun a w S => Zb (Za ?_))))))))))
       exact ⟨k + 1, ⟨by omega, step_all hmm hno' rw_b⟩, by omega, S.wk⟩
   · have hend : k = C.cloud.length := by omega
     subst hend
     rw [List.take_length] at hno'
     refine sg S (.ge (by omega) rfl rfl <| .z) fun a w S => wp_seq_k fun _ hK3 => Ze S (.t rfl) (wp_exit (Zh (Zh (Ya (Za (hK1 _ _ (sg S (.ac rfl <| .z) fun a w S => wp_ret (Zm S (results1 S results175 (Rv.tmp rfl)) ?_))))))))
     exact ⟨by rw [leqR_yes hno hno'], S.wd.below⟩
theorem c65 (w0 : World) (v1 v2 : Value) (C : Ctx) (h : RdCtx w0 w0.heap.size v1 v2 C) (hn : C.marks.length ≤ 1048576) (hn' : C.cloud.length ≤ 1048576) :
   Rets Tryz.prog 65 #[.agg #[v1, v2]] w0 fun v L => ∃ A1 r1 A2 r2, v = .agg #[.slice A1 C.marks.length r1, .slice A2 C.cloud.length r2] ∧
     L = [rowOf 30 3 Dot.enc A1 r1 C.marks, rowOf 74 3 Dot.enc A2 r2 C.cloud] := by
 obtain ⟨h1, h2⟩ := id h
 obtain ⟨B1, q1, rfl, _⟩ := id h1
 obtain ⟨B2, q2, rfl, _⟩ := id h2
 unfold Go.Fw.Rets
 refine enter1 func65 rfl ntmps65 rfl fun a S => wp_seq_k fun _ hK1 => wp_region_lit (Zj (Zw S (.t rfl) rfl fun g1 a w S => Zj (Zn S zeroValue35 (cs := _) rfl rfl fun g2 a w S => Zb (Za (hK1 _ _ (wp_seq_k fun _ hK1 => h_beginE S (by kernel_rfl) 0 fun a w S => hy 0 S rfl (Zc (FieldT.mk underlying35 rfl sizeOf32 rfl) (.t rfl) (i' := 0) rfl) rfl fun a w S => hy 1 S rfl (Zt ⟨isAgg32, sizeOf32⟩ (.t rfl) (k := 0) rfl rfl) rfl fun a w S => hy 3 S rfl (Zc (FieldT.mk underlying35 rfl sizeOf33 rfl) (.t rfl) (i' := 1) rfl) rfl fun a w S => ?_))))))
 refine hy 4 S rfl (Zt ⟨isAgg33, sizeOf33⟩ (.t rfl) (k := 0) rfl rfl) rfl fun a w S => ?_
 (refine h_m (i := 2) rfl (by kernel_rfl) (Yb S call135 (.cons (.t rfl) .nil) (c135 _ _ _ (by exact .old S.wd (by assumption)) (by omega)) rfl ?_); clear S a w; rintro _ _ ⟨A1, c1, rfl, rfl⟩ a w S; refine Yj S ?_)
 (refine h_m (i := 5) rfl (by kernel_rfl) (Yb S call136 (.cons (.t rfl) .nil) (c136 _ _ _ (by exact .old S.wd (by assumption)) (by omega)) rfl ?_); clear S a w; rintro _ _ ⟨A2, c2, rfl, rfl⟩ a w S; refine Yj S ?_)
 refine hy 6 S rfl (Xd (ps := [(0, Go.Operand.tmp 5), (1, Go.Operand.tmp 8)]) (us := [_, _]) bld35 (.cons (.t rfl) (.cons (.t rfl) .nil)) rfl) rfl fun a w S => ?_
 (refine Xq (i := 7) rfl (by kernel_rfl) (Zq S sizeOf35 (.t rfl) (.t rfl) (k := 2) rfl rfl rfl (by simp [Value.oneCell']) ?_); clear S a w; intro a w S; refine Yj S ?_)
 refine Xf (by kernel_rfl) (Za (hK1 _ _ (wp_ret (Zm S (results1 S results65 (Rv.cell (k := 2) ⟨isAgg35, sizeOf35⟩ rfl rfl rfl)) ?_))))
 (replace S := S.pull 1 rfl; try simp only [List.set_cons_zero, List.set_cons_succ, List.eraseIdx_cons_succ, List.eraseIdx_cons_zero] at S)
 exact ⟨_, _, rfl, S.wd.sub (by repeat (first | exact List.Sublist.refl _ | exact List.nil_sublist _ | refine .cons_cons _ ?_ | refine .cons _ ?_)), _, _, _, _, rfl, rfl⟩
end Go.Proofs.YtakpdbmdfnialaaGreat
namespace Go.Fw
theorem filter_yes {α : Type} {p : α → Bool} {l : List α} {k : Nat} {x : α} (h : l[k]? = some x) (hp : p x = true) : (l.take (k + 1)).filter p = (l.take k).filter p ++ [x] := by
 rw [List.take_add_one, h, Option.toList_some]
 simp [hp]
theorem filter_no {α : Type} {p : α → Bool} {l : List α} {k : Nat} {x : α} (h : l[k]? = some x) (hp : p x = false) : (l.take (k + 1)).filter p = (l.take k).filter p := by
 rw [List.take_add_one, h, Option.toList_some]
 simp [hp]
theorem filter_take {α : Type} (p : α → Bool) (l : List α) (k : Nat) : ((l.take k).filter p).length ≤ l.length := by
 have h1 := List.length_filter_le p (l.take k)
 have h2 : (l.take k).length ≤ l.length := by rw [List.length_take]; omega
 omega
end Go.Fw
namespace Go.Proofs.YtakpdbmdfnialaaGreat
open Go.Fw Go.Proofs Go.RowKit Go.Proofs.Tryz
end Go.Proofs.YtakpdbmdfnialaaGreat
namespace Go.Fw
theorem cart_same {X Y : Cart} : (decide (X.ents = Y.ents) && decide (X.ctx = Y.ctx)) = decide (X = Y) := by
 cases X; cases Y; simp
end Go.Fw
namespace Go.Proofs.YtakpdbmdfnialaaGreat
open Go.Fw Go.Proofs Go.RowKit Go.Proofs.Tryz
theorem c68 (w0 : World) (v1 v2 v3 : Value) (X : Cart) (p q : Int) (h : Sl Ent.enc 6 w0 w0.heap.size v1 X.ents) (hr : RdCtx w0 w0.heap.size v2 v3 X.ctx) (hl1 : X.ents.length ≤ 1048576) (hl2 : X.ctx.marks.length ≤ 1048576) (hl3 : X.ctx.cloud.length ≤ 1048576) :
   Rets Tryz.prog 68 #[.agg #[v1, v2, v3], .agg #[.int .i64 p, .int .i64 q]] w0 fun v L => ∃ A1 r1 A2 r2 A3 r3, v = .agg #[.slice A1 (pruneK X p q).ents.length r1, .slice A2 (pruneK X p q).ctx.marks.length r2, .slice A3 (pruneK X p q).ctx.cloud.length r3] ∧
     L = [rowOf 100 6 Ent.enc A1 r1 (pruneK X p q).ents, rowOf 30 3 Dot.enc A2 r2 (pruneK X p q).ctx.marks, rowOf 74 3 Dot.enc A3 r3 (pruneK X p q).ctx.cloud] := by
 have hs := h
 have hrr := hr
 obtain ⟨A, cap, rfl, hl, hcap, hA⟩ := h
 obtain ⟨⟨A2, cap2, rfl, _⟩, ⟨A3, cap3, rfl, _⟩⟩ := hr
 unfold Go.Fw.Rets
 refine enter2 func68 rfl ntmps68 rfl fun a S => wp_seq_k fun _ hK1 => wp_region_lit (Zj (Zw S (.t rfl) rfl fun g1 a w S => Zj (Zw S (.t rfl) rfl fun g2 a w S => Zj (Zn S zeroValue37 (cs := _) rfl rfl fun g3 a w S => Zb (Za (hK1 _ _ (wp_seq_k fun _ hK1 => wp_region_lit (run S (.fa underlying37 sizeOf35 1 rfl rfl rfl <| .la gt35 2 rfl rfl rfl <| .la gt66 1 rfl rfl rfl <| .z) fun a w S => ?_))))))))
 (refine Zj (Yb S call142 (.cons (.t rfl) (.cons (.t rfl) .nil)) (c142 _ _ _ _ _ _ (by exact .old S.wd (by assumption)) (by assumption) (by assumption)) rfl ?_); clear S a w; rintro _ _ ⟨A11, r11, A21, r21, rfl, rfl⟩ a w S)
 refine run S (.yy (Xd (ps := [(1, Go.Operand.tmp 11)]) (us := [_, _, _]) bld37 (.cons (.t rfl) .nil) rfl) rfl <| .z) fun a w S => Zj (Zn S zeroValue37 (cs := _) rfl rfl fun g4 a w S => Zj (Zq S sizeOf37 (.t rfl) (.t rfl) (k := 0) rfl rfl rfl (by simp [Value.oneCell']) fun a w S => Zb (Za (hK1 _ _ (wp_seq_k fun _ hK1 => sg S (.fa underlying37 sizeOf31 0 rfl rfl rfl <| .ld gt31 5 rfl rfl rfl <| .ln underlying31 rfl <| .mc rfl <| .z) fun a w S => wp_block ?_)))))
 refine Xb (S.nil_ 100 6 Ent.enc none) [16] (X := Nat × Option Addr × Nat) (fun t => [(16, true, .int .i64 (t.1 : Int))])
   (fun t => [rowOf 100 6 Ent.enc t.2.1 t.2.2 (keepE p q (X.ents.take t.1)), .blk g4 (.cells #[.slice t.2.1 (keepE p q (X.ents.take t.1)).length t.2.2, .slice A11 (keep p q X.ctx.marks).length r11, .slice A21 (keep p q X.ctx.cloud).length r21] 37), rowOf 74 3 Dot.enc A21 r21 (keep p q X.ctx.cloud), rowOf 30 3 Dot.enc A11 r11 (keep p q X.ctx.marks), .blk g3 (.cells #[.slice none 0 0, .slice none 0 0, .slice none 0 0] 37), .blk g2 (.cells #[.int .i64 p, .int .i64 q] 66), .blk g1 (.cells #[.slice A X.ents.length cap, .slice A2 X.ctx.marks.length cap2, .slice A3 X.ctx.cloud.length cap3] 37)])
   (fun t => t.1 ≤ X.ents.length) (fun t => X.ents.length - t.1) (0, none, 0) (Nat.zero_le _) ?_
 clear S
 rintro ⟨k, D, cD⟩ a w hk S
 dsimp only at hk S
 have hol : (keepE p q (X.ents.take k)).length ≤ X.ents.length := filter_take _ X.ents k
 by_cases hlt : k < X.ents.length
 · obtain ⟨g, o, x, rfl, hx, hd, hc⟩ := Yg hA hlt
   refine sg S (.lt (by omega) rfl rfl <| .z) fun a w S => wp_seq_k fun _ hK2 => Zg S (.t rfl) (wp_skip (Za (hK2 _ _ (wp_seq_k fun _ hK2 => wp_block (wp_seq_k fun _ hK3 => wp_region_lit (run S (.ix underlying31 sizeOf100 (by omega) rfl rfl <| .yy (Zp ⟨isAgg100, sizeOf100⟩ (.t rfl) (vs := [_, _, _, _, _, _]) rfl (fun _ => hc)) rfl <| .z) fun a w S => Zj (Zn S zeroValue100 (cs := _) rfl rfl fun g5 a w S => Zj (Zq S sizeOf100 (.t rfl) (.t rfl) (k := 0) rfl rfl rfl (by simp [Value.oneCell']) fun a w S => Zb (Za (hK3 _ _ (wp_seq_k fun _ hK3 => wp_region_lit (run S (.fa underlying100 sizeOf74 1 rfl rfl rfl <| .fa underlying74 sizeOf3 1 rfl rfl rfl <| .ld gt3 0 rfl rfl rfl <| .fa underlying66 sizeOf3 0 rfl rfl rfl <| .ld gt3 6 rfl rfl rfl <| .yy (Yh (.t rfl) (.t rfl)) rfl <| .mv rfl <| .z) fun a w S => Yp S rfl rfl (Yr.ys (Zc (FieldT.mk underlying100 rfl sizeOf74 rfl) (.t rfl) (i' := 1) rfl)) rfl fun a w S => Yp S rfl rfl (Yr.ys (Zc (FieldT.mk underlying74 rfl sizeOf3 rfl) (Ev.g rfl) (i' := 2) rfl)) rfl fun a w S => Yp S rfl rfl (Yr.ys (Zt ⟨isAgg3, sizeOf3⟩ (Ev.g rfl) (k := 0) rfl rfl)) rfl fun a w S => ?_))))))))))))
   refine Yp S rfl rfl (Yr.ys (Zc (FieldT.mk underlying66 rfl sizeOf3 rfl) (.t rfl) (i' := 1) rfl)) rfl fun a w S => Yp S rfl rfl (Yr.ys (Zt ⟨isAgg3, sizeOf3⟩ (Ev.g rfl) (k := 6) rfl rfl)) rfl fun a w S => Yp S rfl rfl (Yr.ys (Yh (Ev.g rfl) (Ev.g rfl))) rfl fun a w S => run S (.yy (Wj (.t rfl) Ev.c (Ev.g rfl)) rfl <| .z) fun a w S => Zb (Za (hK3 _ _ ?_))
   refine Xi S (.t rfl) (fun h1 => ?_) (fun h1 => ?_)
   refine wp_region_lit (run S (.fa underlying37 sizeOf31 0 rfl rfl rfl <| .ld gt31 2 rfl rfl rfl <| .la gt100 0 rfl rfl rfl <| .z) fun a w S => Zj (Yf S underlying31 inf100 rfl rfl rfl (.t rfl) rfl rfl rfl fun g6 a w S => Zj (Yw S underlying31 inf100 rfl (k := 2) (j := 0) rfl (.t rfl) (.t rfl) rfl rfl rfl rfl (by first | omega | (simp only [List.length_append, List.length_cons, List.length_nil]; omega)) rfl rfl rfl fun A1 cap1 a w S => run S (.fa underlying37 sizeOf31 0 rfl rfl rfl <| .z) fun a w S => Zj (op_st S sizeOf31 (.t rfl) (.t rfl) (k := 3) rfl rfl (by simp) fun a w S => Zb (Zk (Za (hK2 _ _ (wp_region_lit (run S (.ad (by unfold I64; omega) rfl <| .mv rfl <| .z) fun a w S => Zb (Za ?_))))))))))
   rotate_left
   refine wp_skip (Zk (Za (hK2 _ _ (wp_region_lit (run S (.ad (by unfold I64; omega) rfl <| .mv rfl <| .z) fun a w S => Zb (Za ?_))))))
   rotate_left
   · have hst : keepE p q (X.ents.take (k + 1)) = keepE p q (X.ents.take k) ++ [x] := filter_yes hx (by simp at h1 ⊢; omega)
     exact ⟨(k + 1, A1, cap1), by dsimp only; omega, by dsimp only; omega, by dsimp only; rw [hst]; exact S.pk⟩
   · have hst : keepE p q (X.ents.take (k + 1)) = keepE p q (X.ents.take k) := filter_no hx (by simp at h1 ⊢; omega)
     exact ⟨(k + 1, D, cD), by dsimp only; omega, by dsimp only; omega, by dsimp only; rw [hst]; exact S.pk⟩
 obtain rfl : k = X.ents.length := by omega
 rw [List.take_length] at S
 refine sg S (.ge (by omega) rfl rfl <| .z) fun a w S => wp_seq_k fun _ hK2 => Ze S (.t rfl) (wp_exit (Zh (Zh (Ya (Za (hK1 _ _ (wp_seq_k fun _ hK1 => wp_region_lit (run S (.la gt37 1 rfl rfl rfl <| .z) fun a w S => Zj (Zq S sizeOf37 (.t rfl) (.t rfl) (k := 4) rfl rfl rfl (by simp [Value.oneCell']) fun a w S => Zb (Za (hK1 _ _ (wp_ret (Zm S (results1 S results68 (Rv.cell (k := 4) ⟨isAgg37, sizeOf37⟩ rfl rfl rfl)) ?_)))))))))))))
 exact ⟨_, _, rfl, S.wd.pk, _, _, _, _, _, _, rfl, rfl⟩
theorem c70 (w0 : World) (v1 v2 v3 : Value) (X : Cart) (p q : Int) (h : Sl Ent.enc 6 w0 w0.heap.size v1 X.ents) (hr : RdCtx w0 w0.heap.size v2 v3 X.ctx) (hl1 : X.ents.length ≤ 1048576) (hl2 : X.ctx.marks.length ≤ 1048576) (hl3 : X.ctx.cloud.length ≤ 1048576) :
   Rets Tryz.prog 70 #[.agg #[v1, v2, v3], .agg #[.int .i64 p, .int .i64 q]] w0 fun v L => ∃ A1 r1 A2 r2 A3 r3, v = .agg #[.slice A1 (pruneK X p q).ents.length r1, .slice A2 (pruneK X p q).ctx.marks.length r2, .slice A3 (pruneK X p q).ctx.cloud.length r3] ∧
     L = [rowOf 100 6 Ent.enc A1 r1 (pruneK X p q).ents, rowOf 30 3 Dot.enc A2 r2 (pruneK X p q).ctx.marks, rowOf 74 3 Dot.enc A3 r3 (pruneK X p q).ctx.cloud] := by
 have hs := h
 have hrr := hr
 obtain ⟨A, cap, rfl, hl, hcap, hA⟩ := h
 obtain ⟨⟨A2, cap2, rfl, _⟩, ⟨A3, cap3, rfl, _⟩⟩ := hr
 unfold Go.Fw.Rets
 refine enter2 func70 rfl ntmps70 rfl fun a S => wp_seq_k fun _ hK1 => wp_region_lit (Zj (Zw S (.t rfl) rfl fun g1 a w S => Zj (Zw S (.t rfl) rfl fun g2 a w S => Zj (Zn S zeroValue37 (cs := _) rfl rfl fun g3 a w S => Zb (Za (hK1 _ _ (wp_seq_k fun _ hK1 => wp_region_lit (run S (.fa underlying37 sizeOf35 1 rfl rfl rfl <| .la gt35 2 rfl rfl rfl <| .la gt66 1 rfl rfl rfl <| .z) fun a w S => ?_))))))))
 (refine Zj (Yb S call144 (.cons (.t rfl) (.cons (.t rfl) .nil)) (c144 _ _ _ _ _ _ (by exact .old S.wd (by assumption)) (by assumption) (by assumption)) rfl ?_); clear S a w; rintro _ _ ⟨A11, r11, A21, r21, rfl, rfl⟩ a w S)
 refine run S (.yy (Xd (ps := [(1, Go.Operand.tmp 11)]) (us := [_, _, _]) bld37 (.cons (.t rfl) .nil) rfl) rfl <| .z) fun a w S => Zj (Zn S zeroValue37 (cs := _) rfl rfl fun g4 a w S => Zj (Zq S sizeOf37 (.t rfl) (.t rfl) (k := 0) rfl rfl rfl (by simp [Value.oneCell']) fun a w S => Zb (Za (hK1 _ _ (wp_seq_k fun _ hK1 => sg S (.fa underlying37 sizeOf31 0 rfl rfl rfl <| .ld gt31 5 rfl rfl rfl <| .ln underlying31 rfl <| .mc rfl <| .z) fun a w S => wp_block ?_)))))
 refine Xb (S.nil_ 100 6 Ent.enc none) [16] (X := Nat × Option Addr × Nat) (fun t => [(16, true, .int .i64 (t.1 : Int))])
   (fun t => [rowOf 100 6 Ent.enc t.2.1 t.2.2 (keepE p q (X.ents.take t.1)), .blk g4 (.cells #[.slice t.2.1 (keepE p q (X.ents.take t.1)).length t.2.2, .slice A11 (keep p q X.ctx.marks).length r11, .slice A21 (keep p q X.ctx.cloud).length r21] 37), rowOf 74 3 Dot.enc A21 r21 (keep p q X.ctx.cloud), rowOf 30 3 Dot.enc A11 r11 (keep p q X.ctx.marks), .blk g3 (.cells #[.slice none 0 0, .slice none 0 0, .slice none 0 0] 37), .blk g2 (.cells #[.int .i64 p, .int .i64 q] 66), .blk g1 (.cells #[.slice A X.ents.length cap, .slice A2 X.ctx.marks.length cap2, .slice A3 X.ctx.cloud.length cap3] 37)])
   (fun t => t.1 ≤ X.ents.length) (fun t => X.ents.length - t.1) (0, none, 0) (Nat.zero_le _) ?_
 clear S
 rintro ⟨k, D, cD⟩ a w hk S
 dsimp only at hk S
 have hol : (keepE p q (X.ents.take k)).length ≤ X.ents.length := filter_take _ X.ents k
 by_cases hlt : k < X.ents.length
 · obtain ⟨g, o, x, rfl, hx, hd, hc⟩ := Yg hA hlt
   refine sg S (.lt (by omega) rfl rfl <| .z) fun a w S => wp_seq_k fun _ hK2 => Zg S (.t rfl) (wp_skip (Za (hK2 _ _ (wp_seq_k fun _ hK2 => wp_block (wp_seq_k fun _ hK3 => wp_region_lit (run S (.ix underlying31 sizeOf100 (by omega) rfl rfl <| .yy (Zp ⟨isAgg100, sizeOf100⟩ (.t rfl) (vs := [_, _, _, _, _, _]) rfl (fun _ => hc)) rfl <| .z) fun a w S => Zj (Zn S zeroValue100 (cs := _) rfl rfl fun g5 a w S => Zj (Zq S sizeOf100 (.t rfl) (.t rfl) (k := 0) rfl rfl rfl (by simp [Value.oneCell']) fun a w S => Zb (Za (hK3 _ _ (wp_seq_k fun _ hK3 => wp_region_lit (run S (.fa underlying100 sizeOf74 1 rfl rfl rfl <| .fa underlying74 sizeOf3 1 rfl rfl rfl <| .ld gt3 0 rfl rfl rfl <| .fa underlying66 sizeOf3 0 rfl rfl rfl <| .ld gt3 6 rfl rfl rfl <| .yy (Yh (.t rfl) (.t rfl)) rfl <| .mv rfl <| .z) fun a w S => Yp S rfl rfl (Yr.ys (Zc (FieldT.mk underlying100 rfl sizeOf74 rfl) (.t rfl) (i' := 1) rfl)) rfl fun a w S => Yp S rfl rfl (Yr.ys (Zc (FieldT.mk underlying74 rfl sizeOf3 rfl) (Ev.g rfl) (i' := 2) rfl)) rfl fun a w S => Yp S rfl rfl (Yr.ys (Zt ⟨isAgg3, sizeOf3⟩ (Ev.g rfl) (k := 0) rfl rfl)) rfl fun a w S => ?_))))))))))))
   refine Yp S rfl rfl (Yr.ys (Zc (FieldT.mk underlying66 rfl sizeOf3 rfl) (.t rfl) (i' := 1) rfl)) rfl fun a w S => Yp S rfl rfl (Yr.ys (Zt ⟨isAgg3, sizeOf3⟩ (Ev.g rfl) (k := 6) rfl rfl)) rfl fun a w S => Yp S rfl rfl (Yr.ys (Yh (Ev.g rfl) (Ev.g rfl))) rfl fun a w S => run S (.yy (Wj (.t rfl) Ev.c (Ev.g rfl)) rfl <| .z) fun a w S => Zb (Za (hK3 _ _ ?_))
   refine Xi S (.t rfl) (fun h1 => ?_) (fun h1 => ?_)
   refine wp_region_lit (run S (.fa underlying37 sizeOf31 0 rfl rfl rfl <| .ld gt31 2 rfl rfl rfl <| .la gt100 0 rfl rfl rfl <| .z) fun a w S => Zj (Yf S underlying31 inf100 rfl rfl rfl (.t rfl) rfl rfl rfl fun g6 a w S => Zj (Yw S underlying31 inf100 rfl (k := 2) (j := 0) rfl (.t rfl) (.t rfl) rfl rfl rfl rfl (by first | omega | (simp only [List.length_append, List.length_cons, List.length_nil]; omega)) rfl rfl rfl fun A1 cap1 a w S => run S (.fa underlying37 sizeOf31 0 rfl rfl rfl <| .z) fun a w S => Zj (op_st S sizeOf31 (.t rfl) (.t rfl) (k := 3) rfl rfl (by simp) fun a w S => Zb (Zk (Za (hK2 _ _ (wp_region_lit (run S (.ad (by unfold I64; omega) rfl <| .mv rfl <| .z) fun a w S => Zb (Za ?_))))))))))
   rotate_left
   refine wp_skip (Zk (Za (hK2 _ _ (wp_region_lit (run S (.ad (by unfold I64; omega) rfl <| .mv rfl <| .z) fun a w S => Zb (Za ?_))))))
   rotate_left
   · have hst : keepE p q (X.ents.take (k + 1)) = keepE p q (X.ents.take k) ++ [x] := filter_yes hx (by simp at h1 ⊢; omega)
     exact ⟨(k + 1, A1, cap1), by dsimp only; omega, by dsimp only; omega, by dsimp only; rw [hst]; exact S.pk⟩
   · have hst : keepE p q (X.ents.take (k + 1)) = keepE p q (X.ents.take k) := filter_no hx (by simp at h1 ⊢; omega)
     exact ⟨(k + 1, D, cD), by dsimp only; omega, by dsimp only; omega, by dsimp only; rw [hst]; exact S.pk⟩
 obtain rfl : k = X.ents.length := by omega
 rw [List.take_length] at S
 refine sg S (.ge (by omega) rfl rfl <| .z) fun a w S => wp_seq_k fun _ hK2 => Ze S (.t rfl) (wp_exit (Zh (Zh (Ya (Za (hK1 _ _ (wp_seq_k fun _ hK1 => wp_region_lit (run S (.la gt37 1 rfl rfl rfl <| .z) fun a w S => Zj (Zq S sizeOf37 (.t rfl) (.t rfl) (k := 4) rfl rfl rfl (by simp [Value.oneCell']) fun a w S => Zb (Za (hK1 _ _ (wp_ret (Zm S (results1 S results70 (Rv.cell (k := 4) ⟨isAgg37, sizeOf37⟩ rfl rfl rfl)) ?_)))))))))))))
 exact ⟨_, _, rfl, S.wd.pk, _, _, _, _, _, _, rfl, rfl⟩
theorem c16 (w0 : World) (v1 v2 v3 : Value) (X : Cart) (h : Sl Ent.enc 6 w0 w0.heap.size v1 X.ents) (hr : RdCtx w0 w0.heap.size v2 v3 X.ctx) (hl1 : X.ents.length ≤ 1048576) (hl2 : X.ctx.marks.length ≤ 1048576) (hl3 : X.ctx.cloud.length ≤ 1048576) :
   Rets Tryz.prog 16 #[.agg #[v1, v2, v3]] w0 fun v L => ∃ A1 r1 A2 r2 A3 r3, v = .agg #[.slice A1 X.ents.length r1, .slice A2 X.ctx.marks.length r2, .slice A3 X.ctx.cloud.length r3] ∧
     L = [rowOf 100 6 Ent.enc A1 r1 X.ents, rowOf 30 3 Dot.enc A2 r2 X.ctx.marks, rowOf 74 3 Dot.enc A3 r3 X.ctx.cloud] := by
 have hs := h
 have hrr := hr
 obtain ⟨A, cap, rfl, hl, hcap, hA⟩ := h
 obtain ⟨⟨A2, cap2, rfl, _⟩, ⟨A3, cap3, rfl, _⟩⟩ := hr
 unfold Go.Fw.Rets
 refine enter1 func16 rfl ntmps16 rfl fun a S => wp_seq_k fun _ hK1 => wp_region_lit (Zj (Zw S (.t rfl) rfl fun g1 a w S => Zj (Zn S zeroValue37 (cs := _) rfl rfl fun g2 a w S => Zb (Za (hK1 _ _ (wp_seq_k fun _ hK1 => h_beginE S (by kernel_rfl) 0 fun a w S => hy 0 S rfl (Zc (FieldT.mk underlying37 rfl sizeOf31 rfl) (.t rfl) (i' := 0) rfl) rfl fun a w S => hy 1 S rfl (Zt ⟨isAgg31, sizeOf31⟩ (.t rfl) (k := 0) rfl rfl) rfl fun a w S => hy 3 S rfl (Zc (FieldT.mk underlying37 rfl sizeOf35 rfl) (.t rfl) (i' := 1) rfl) rfl fun a w S => ?_))))))
 refine hy 4 S rfl (Zz ⟨isAgg35, sizeOf35⟩ (.t rfl) (k := 0) rfl rfl) rfl fun a w S => ?_
 (refine h_m (i := 2) rfl (by kernel_rfl) (Yb S call64 (.cons (.t rfl) .nil) (c64 _ _ _ (by exact .old S.wd (by assumption)) (by omega)) rfl ?_); clear S a w; rintro _ _ ⟨A1, c1, rfl, rfl⟩ a w S; refine Yj S ?_)
 (refine h_m (i := 5) rfl (by kernel_rfl) (Yb S call65 (.cons (.t rfl) .nil) (c65 _ _ _ _ (by exact .old S.wd (by assumption)) (by assumption) (by assumption)) rfl ?_); clear S a w; rintro _ _ ⟨A11, r11, A21, r21, rfl, rfl⟩ a w S; refine Yj S ?_)
 refine hy 6 S rfl (Xd (ps := [(0, Go.Operand.tmp 5), (1, Go.Operand.tmp 8)]) (us := [_, _, _]) bld37 (.cons (.t rfl) (.cons (.t rfl) .nil)) rfl) rfl fun a w S => ?_
 (refine Xq (i := 7) rfl (by kernel_rfl) (Zq S sizeOf37 (.t rfl) (.t rfl) (k := 3) rfl rfl rfl (by simp [Value.oneCell']) ?_); clear S a w; intro a w S; refine Yj S ?_)
 refine Xf (by kernel_rfl) (Za (hK1 _ _ (wp_ret (Zm S (results1 S results16 (Rv.cell (k := 3) ⟨isAgg37, sizeOf37⟩ rfl rfl rfl)) ?_))))
 exact ⟨_, _, rfl, S.wd.pk, _, _, _, _, _, _, rfl, rfl⟩
theorem c19 (w0 : World) (v1 v2 v3 v4 v5 v6 : Value) (X Y : Cart) (h : Sl Ent.enc 6 w0 w0.heap.size v1 X.ents) (hr : RdCtx w0 w0.heap.size v2 v3 X.ctx) (h' : Sl Ent.enc 6 w0 w0.heap.size v4 Y.ents) (hr' : RdCtx w0 w0.heap.size v5 v6 Y.ctx) :
   Calls Tryz.prog 19 #[.agg #[v1, v2, v3], .agg #[v4, v5, v6]] w0 fun e w' => e = .returned (.bool (decide (X = Y))) ∧ Bel w0.heap.size w0 w' := by
 have hs := h
 have hrr := hr
 have hs' := h'
 have hrr' := hr'
 obtain ⟨A, cap, rfl, hl, hcap, hA⟩ := h
 obtain ⟨⟨A2, cap2, rfl, _⟩, ⟨A3, cap3, rfl, _⟩⟩ := hr
 obtain ⟨B, capB, rfl, hlB, hcapB, hB⟩ := h'
 obtain ⟨⟨B2, capB2, rfl, _⟩, ⟨B3, capB3, rfl, _⟩⟩ := hr'
 refine enter2 func19 rfl ntmps19 rfl fun a S => wp_seq_k fun _ hK1 => wp_region_lit (Zj (Zw S (.t rfl) rfl fun g1 a w S => Zj (Zw S (.t rfl) rfl fun g2 a w S => run S (.ac rfl <| .z) fun a w S => Zb (Za (hK1 _ _ (wp_seq_k fun _ hK1 => wp_region_lit (run S (.fa underlying37 sizeOf31 0 rfl rfl rfl <| .ld gt31 1 rfl rfl rfl <| .fa underlying37 sizeOf31 0 rfl rfl rfl <| .ld gt31 0 rfl rfl rfl <| .xx (Zf call71 (.cons (.t rfl) (.cons (.t rfl) .nil)) (fun hp w W => c71 _ _ _ _ _ (by exact .old W (by assumption)) (by exact .old W (by assumption)))) rfl <| .mv rfl <| .z) fun a w S => Yd S rfl rfl (Yr.ys (Zc (FieldT.mk underlying37 rfl sizeOf35 rfl) (.t rfl) (i' := 1) rfl)) rfl fun a w S => Yd S rfl rfl (Yr.ys (Zz ⟨isAgg35, sizeOf35⟩ (Ev.g rfl) (k := 1) rfl rfl)) rfl fun a w S => Yd S rfl rfl (Yr.ys (Zc (FieldT.mk underlying37 rfl sizeOf35 rfl) (.t rfl) (i' := 1) rfl)) rfl fun a w S => Yd S rfl rfl (Yr.ys (Zz ⟨isAgg35, sizeOf35⟩ (Ev.g rfl) (k := 0) rfl rfl)) rfl fun a w S => Yd S rfl rfl (Zf call72 (.cons (Ev.g rfl) (.cons (Ev.g rfl) .nil)) (fun hp w W => c72 _ _ _ _ _ _ _ (by exact .old W (by assumption)) (by exact .old W (by assumption)))) rfl fun a w S => run S (.yy (Xn (.t rfl) (Ev.g rfl) Ev.c) rfl <| .as rfl <| .z) fun a w S => Zb (Za (hK1 _ _ (wp_ret ?_))))))))))
 refine Zm S (results1 S results19 (Rv.tmp rfl)) ?_
 exact ⟨by rw [cart_same], S.wd.below⟩
theorem c95 (w0 : World) (v1 v2 v3 v4 v5 v6 : Value) (X Y : Cart) (h : Sl Ent.enc 6 w0 w0.heap.size v1 X.ents) (hr : RdCtx w0 w0.heap.size v2 v3 X.ctx) (h' : Sl Ent.enc 6 w0 w0.heap.size v4 Y.ents) (hr' : RdCtx w0 w0.heap.size v5 v6 Y.ctx) :
   Calls Tryz.prog 95 #[.agg #[v1, v2, v3], .agg #[v4, v5, v6]] w0 fun e w' => e = .returned (.bool (decide (X = Y))) ∧ Bel w0.heap.size w0 w' := by
 have hs := h
 have hrr := hr
 have hs' := h'
 have hrr' := hr'
 obtain ⟨A, cap, rfl, hl, hcap, hA⟩ := h
 obtain ⟨⟨A2, cap2, rfl, _⟩, ⟨A3, cap3, rfl, _⟩⟩ := hr
 obtain ⟨B, capB, rfl, hlB, hcapB, hB⟩ := h'
 obtain ⟨⟨B2, capB2, rfl, _⟩, ⟨B3, capB3, rfl, _⟩⟩ := hr'
 obtain ⟨q1, q2⟩ := hrr
 obtain ⟨q3, q4⟩ := hrr'
 by_cases h1 : X.ents = Y.ents
 · have rw_1 := decide_eq_true h1
   by_cases h2 : X.ctx.marks = Y.ctx.marks
   · have rw_2 := decide_eq_true h2
     refine enter2 func95 rfl ntmps95 rfl fun a S => wp_seq_k fun _ hK1 => wp_region_lit (Zj (Zw S (.t rfl) rfl fun g1 a w S => Zj (Zw S (.t rfl) rfl fun g2 a w S => run S (.ac rfl <| .z) fun a w S => Zb (Za (hK1 _ _ (wp_seq_k fun _ hK1 => wp_region_lit (run S (.fa underlying37 sizeOf31 0 rfl rfl rfl <| .ld gt31 1 rfl rfl rfl <| .fa underlying37 sizeOf31 0 rfl rfl rfl <| .ld gt31 0 rfl rfl rfl <| .xx (Zf call71 (.cons (.t rfl) (.cons (.t rfl) .nil)) (fun hp w W => c71 _ _ _ _ _ (by exact .old W (by assumption)) (by exact .old W (by assumption)))) rfl <| .z) fun a w S => ?_)))))))
     rw [rw_1] at S
     refine run S (.mv rfl <| .gy rfl rfl (Zc (FieldT.mk underlying37 rfl sizeOf35 rfl) (.t rfl) (i' := 1) rfl) <| .gy rfl rfl (Zc (FieldT.mk underlying35 rfl sizeOf32 rfl) (.t rfl) (i' := 1) rfl) <| .gy rfl rfl (Zt ⟨isAgg32, sizeOf32⟩ (.t rfl) (k := 1) rfl rfl) <| .gy rfl rfl (Zc (FieldT.mk underlying37 rfl sizeOf35 rfl) (.t rfl) (i' := 1) rfl) <| .gy rfl rfl (Zc (FieldT.mk underlying35 rfl sizeOf32 rfl) (.t rfl) (i' := 1) rfl) <| .gy rfl rfl (Zt ⟨isAgg32, sizeOf32⟩ (.t rfl) (k := 0) rfl rfl) <| .gx rfl rfl (Zf call23 (.cons (.t rfl) (.cons (.t rfl) .nil)) (fun hp w W => c23 _ _ _ _ _ (by exact .old W (by assumption)) (by exact .old W (by assumption)))) <| .z) fun a w S => ?_
     rw [rw_2] at S
     refine run S (.yy (Zv (.t rfl) (.t rfl)) rfl <| .mv rfl <| .gy rfl rfl (Zc (FieldT.mk underlying37 rfl sizeOf35 rfl) (.t rfl) (i' := 1) rfl) <| .gy rfl rfl (Zc (FieldT.mk underlying35 rfl sizeOf33 rfl) (.t rfl) (i' := 2) rfl) <| .gy rfl rfl (Zt ⟨isAgg33, sizeOf33⟩ (.t rfl) (k := 1) rfl rfl) <| .gy rfl rfl (Zc (FieldT.mk underlying37 rfl sizeOf35 rfl) (.t rfl) (i' := 1) rfl) <| .gy rfl rfl (Zc (FieldT.mk underlying35 rfl sizeOf33 rfl) (.t rfl) (i' := 2) rfl) <| .gy rfl rfl (Zt ⟨isAgg33, sizeOf33⟩ (.t rfl) (k := 0) rfl rfl) <| .gx rfl rfl (Zf call46 (.cons (.t rfl) (.cons (.t rfl) .nil)) (fun hp w W => c46 _ _ _ _ _ (by exact .old W (by assumption)) (by exact .old W (by assumption)))) <| .yy (Zv (.t rfl) (.t rfl)) rfl <| .as rfl <| .z) fun a w S => Zb (Za (hK1 _ _ (wp_ret (Zm S (results1 S results95 (Rv.tmp rfl)) ?_))))
     refine ⟨?_, S.wd.below⟩
     have e : decide (X.ctx.cloud = Y.ctx.cloud) = decide (X = Y) := by
       obtain ⟨l, ⟨m, c⟩⟩ := X
       obtain ⟨l', ⟨m', c'⟩⟩ := Y
       dsimp only at h1 h2
       subst h1 h2
       simp
     rw [e]
   · have rw_2 := decide_eq_false h2
     refine enter2 func95 rfl ntmps95 rfl fun a S => wp_seq_k fun _ hK1 => wp_region_lit (Zj (Zw S (.t rfl) rfl fun g1 a w S => Zj (Zw S (.t rfl) rfl fun g2 a w S => run S (.ac rfl <| .z) fun a w S => Zb (Za (hK1 _ _ (wp_seq_k fun _ hK1 => wp_region_lit (run S (.fa underlying37 sizeOf31 0 rfl rfl rfl <| .ld gt31 1 rfl rfl rfl <| .fa underlying37 sizeOf31 0 rfl rfl rfl <| .ld gt31 0 rfl rfl rfl <| .xx (Zf call71 (.cons (.t rfl) (.cons (.t rfl) .nil)) (fun hp w W => c71 _ _ _ _ _ (by exact .old W (by assumption)) (by exact .old W (by assumption)))) rfl <| .z) fun a w S => ?_)))))))
     rw [rw_1] at S
     refine run S (.mv rfl <| .gy rfl rfl (Zc (FieldT.mk underlying37 rfl sizeOf35 rfl) (.t rfl) (i' := 1) rfl) <| .gy rfl rfl (Zc (FieldT.mk underlying35 rfl sizeOf32 rfl) (.t rfl) (i' := 1) rfl) <| .gy rfl rfl (Zt ⟨isAgg32, sizeOf32⟩ (.t rfl) (k := 1) rfl rfl) <| .gy rfl rfl (Zc (FieldT.mk underlying37 rfl sizeOf35 rfl) (.t rfl) (i' := 1) rfl) <| .gy rfl rfl (Zc (FieldT.mk underlying35 rfl sizeOf32 rfl) (.t rfl) (i' := 1) rfl) <| .gy rfl rfl (Zt ⟨isAgg32, sizeOf32⟩ (.t rfl) (k := 0) rfl rfl) <| .gx rfl rfl (Zf call23 (.cons (.t rfl) (.cons (.t rfl) .nil)) (fun hp w W => c23 _ _ _ _ _ (by exact .old W (by assumption)) (by exact .old W (by assumption)))) <| .z) fun a w S => ?_
     rw [rw_2] at S
     refine run S (.yy (Zv (.t rfl) (.t rfl)) rfl <| .mv rfl <| .sk rfl rfl rfl <| .sk rfl rfl rfl <| .sk rfl rfl rfl <| .sk rfl rfl rfl <| .sk rfl rfl rfl <| .sk rfl rfl rfl <| .sk rfl rfl rfl <| .yy (Zu (.t rfl) Ev.c) rfl <| .as rfl <| .z) fun a w S => Zb (Za (hK1 _ _ (wp_ret (Zm S (results1 S results95 (Rv.tmp rfl)) ?_))))
     exact ⟨by rw [decide_eq_false (fun h => h2 (by rw [h]))], S.wd.below⟩
 · have rw_1 := decide_eq_false h1
   refine enter2 func95 rfl ntmps95 rfl fun a S => wp_seq_k fun _ hK1 => wp_region_lit (Zj (Zw S (.t rfl) rfl fun g1 a w S => Zj (Zw S (.t rfl) rfl fun g2 a w S => run S (.ac rfl <| .z) fun a w S => Zb (Za (hK1 _ _ (wp_seq_k fun _ hK1 => wp_region_lit (run S (.fa underlying37 sizeOf31 0 rfl rfl rfl <| .ld gt31 1 rfl rfl rfl <| .fa underlying37 sizeOf31 0 rfl rfl rfl <| .ld gt31 0 rfl rfl rfl <| .xx (Zf call71 (.cons (.t rfl) (.cons (.t rfl) .nil)) (fun hp w W => c71 _ _ _ _ _ (by exact .old W (by assumption)) (by exact .old W (by assumption)))) rfl <| .z) fun a w S => ?_)))))))
   rw [rw_1] at S
   refine run S (.mv rfl <| .sk rfl rfl rfl <| .sk rfl rfl rfl <| .sk rfl rfl rfl <| .sk rfl rfl rfl <| .sk rfl rfl rfl <| .sk rfl rfl rfl <| .sk rfl rfl rfl <| .yy (Zu (.t rfl) Ev.c) rfl <| .mv rfl <| .sk rfl rfl rfl <| .sk rfl rfl rfl <| .sk rfl rfl rfl <| .sk rfl rfl rfl <| .sk rfl rfl rfl <| .sk rfl rfl rfl <| .sk rfl rfl rfl <| .yy (Zu (.t rfl) Ev.c) rfl <| .as rfl <| .z) fun a w S => Zb (Za (hK1 _ _ (wp_ret (Zm S (results1 S results95 (Rv.tmp rfl)) ?_))))
   exact ⟨by rw [decide_eq_false (fun h => h1 (by rw [h]))], S.wd.below⟩
end Go.Proofs.YtakpdbmdfnialaaGreat
namespace Go.Fw
open Go.RowKit
theorem CartRd.old {w0 w : World} {L : List Chunk} {X : Cart} {s : Sls3} (W : Wd w0 L w) (h : CartRd w0 X s) : CartRd w X s := ⟨.old W h.1, .old W h.2, .old W h.3⟩
def CartsRd (w : World) (l : List SCart) : Prop := ∀ x ∈ l, CartRd w x.1 x.2
theorem CartsRd.old {w0 w : World} {L : List Chunk} {l : List SCart} (W : Wd w0 L w) (h : CartsRd w0 l) : CartsRd w l := fun x hx => (h x hx).old W
theorem CartRd.wd {w0 w : World} {X : Cart} {s : Sls3} (h : CartRd w0 X s) (W : Wd w0 [] w) : CartRd w X s := h.old W
theorem freeze_cart {w0 w w1 : World} {L : List Chunk} {bs : List Nat} {e1 e2 e3 : TypeId} {A1 A2 A3 : Option Addr} {c1 c2 c3 : Nat} {X : Cart}
   (W : Wd w0 (rowOf e1 6 Ent.enc A1 c1 X.ents :: rowOf e2 3 Dot.enc A2 c2 X.ctx.marks :: rowOf e3 3 Dot.enc A3 c3 X.ctx.cloud :: .ice w1 bs :: L) w) :
   ∃ bs', Wd w0 (.ice w bs' :: L) w ∧ CartIn w bs' X ⟨A1, X.ents.length, c1, A2, X.ctx.marks.length, c2, A3, X.ctx.cloud.length, c3⟩ ∧ ∀ Y t, CartIn w1 bs Y t → CartIn w bs' Y t := by
 have W1 := Wd.freeze (cs := [rowOf e1 6 Ent.enc A1 c1 X.ents, rowOf e2 3 Dot.enc A2 c2 X.ctx.marks, rowOf e3 3 Dot.enc A3 c3 X.ctx.cloud, .ice w1 bs]) W
 generalize hcs0 : [rowOf e1 6 Ent.enc A1 c1 X.ents, rowOf e2 3 Dot.enc A2 c2 X.ctx.marks, rowOf e3 3 Dot.enc A3 c3 X.ctx.cloud, .ice w1 bs] = cs0 at W1
 have hblk : ∀ (k : Nat) (c : Chunk), cs0[k]? = some c → ∀ b ∈ c.blocks, b ∈ cs0.flatMap Chunk.blocks := fun k c hk b hb => List.mem_flatMap.2 ⟨c, List.mem_of_getElem? hk, hb⟩
 refine ⟨_, W1, ⟨SlIn.row W (k := 0) rfl (fun _ => rfl) (hblk 0 _ (by rw [← hcs0]; rfl)), SlIn.row W (k := 1) rfl (fun _ => rfl) (hblk 1 _ (by rw [← hcs0]; rfl)), SlIn.row W (k := 2) rfl (fun _ => rfl) (hblk 2 _ (by rw [← hcs0]; rfl))⟩, fun Y t h => h.anew W (k := 3) rfl (hblk 3 (.ice w1 bs) (by rw [← hcs0]; rfl))⟩
end Go.Fw
namespace Go.Proofs.YtakpdbmdfnialaaGreat
open Go.Fw Go.Proofs Go.RowKit Go.Proofs.Tryz
end Go.Proofs.YtakpdbmdfnialaaGreat
namespace Go.Proofs.YtakpdbmdfnialaaGreat
open Go.Fw Go.Proofs Go.RowKit Go.ChangeShapes Go.WideShapes Go.ChangeAt Go.Deep Go.Joins Go.Proofs.Tryz
section
variable {H : Type} {enc : TypeId × Value → H} {w : World}
def ScRd (w : World) (s : SCart) (b : Nat) : Prop := CartRd w s.1 s.2 ∧ s.1.ents.length ≤ b ∧ s.1.ctx.marks.length ≤ b ∧ s.1.ctx.cloud.length ≤ b
theorem rdSC : Rdr enc Tryz.prog w 37 fun cs b => ∃ s : SCart, cs = SCart.enc s ∧ ScRd w s b := rdCart.mono fun cs b ⟨v1, v2, v3, X, e, hX⟩ => by
 obtain ⟨h1, ⟨h2, h3⟩, l1, l2, l3, _⟩ := hX
 have k1 := h1
 have k2 := h2
 have k3 := h3
 obtain ⟨A1, c1, rfl, _⟩ := h1
 obtain ⟨A2, c2, rfl, _⟩ := h2
 obtain ⟨A3, c3, rfl, _⟩ := h3
 exact ⟨(X, ⟨A1, _, c1, A2, _, c2, A3, _, c3⟩), e, ⟨k1, k2, k3⟩, by dsimp only; omega, by dsimp only; omega, by dsimp only; omega⟩
end
end Go.Proofs.YtakpdbmdfnialaaGreat
namespace Go.Fw
open Go.RowKit
def oneU (U : List Upd) : Prop := (U.map (·.dot)).Nodup
structure Play where
 st : List Cart
 up : List Upd
 ct : List Int
def Play.start : Play := ⟨[], [], List.replicate 8 0⟩
end Go.Fw
namespace Go.Fw
open Go.RowKit
def seenB (U : List Upd) (u : Upd) : Bool := U.any fun v => decide (v.item = u.item) && v.seen.ctx.covers u.dot
end Go.Fw
namespace Go.Fw
open Go.RowKit
def firstE : List Upd → Int
 | [] => 0
 | u :: r => if mayE u = 0 then firstE r else mayE u
def keptU (U V : List Upd) : List Ent := (V.filter fun u => decide (0 < u.qty) && !seenB U u).map Upd.ent
def marksU (U : List Upd) : List Dot := U.flatMap fun u => u.seen.ctx.marks
def dotsU (U : List Upd) : List Dot := U.flatMap fun u => u.seen.ctx.cloud ++ [u.dot]
def sortI (l : List Ent) : List Ent := l.foldl (fun a e => insE e a) []
def okU (U : List Upd) : Prop := oneU U ∧ ∀ u ∈ U, ∀ v ∈ U, u.key = v.key
instance (U : List Upd) : Decidable (okU U) := inferInstanceAs (Decidable ((U.map (·.dot)).Nodup ∧ ∀ u ∈ U, ∀ v ∈ U, u.key = v.key))
def knownU (U : List Upd) : Ctx × Int := normalL (marksU U) (dotsU U)
def meantC (U : List Upd) : Cart := ⟨sortI (keptU U U), (knownU U).1⟩
def meantK (U : List Upd) : Cart × Int :=
 if okU U then
   if firstE U = 0 then
     if (knownU U).2 = 0 then
       if canE (meantC U) = 0 then (meantC U, 0) else (Cart.zero, canE (meantC U))
     else (Cart.zero, (knownU U).2)
   else (Cart.zero, firstE U)
 else (Cart.zero, 260)
theorem firstE_ok : ∀ {U : List Upd}, firstE U = 0 ↔ ∀ u ∈ U, mayE u = 0
 | [] => by simp [firstE]
 | u :: r => by
   unfold firstE
   by_cases h : mayE u = 0
   · rw [if_pos h, firstE_ok]
     simp [h]
   · rw [if_neg h]
     simp [h]
theorem sortI_all : ∀ (l a : List Ent) (x : Ent), x ∈ l.foldl (fun a e => insE e a) a ↔ x ∈ a ∨ x ∈ l
 | [], a, x => by simp
 | e :: r, a, x => by
   rw [List.foldl_cons, sortI_all r, insE_mem, List.mem_cons]
   constructor
   · rintro ((h | h) | h)
     · exact .inr (.inl h)
     · exact .inl h
     · exact .inr (.inr h)
   · rintro (h | h | h)
     · exact .inl (.inr h)
     · exact .inl (.inl h)
     · exact .inr h
theorem sortI_mem {l : List Ent} {x : Ent} : x ∈ sortI l ↔ x ∈ l := by
 rw [sortI, sortI_all]; simp
theorem sortI_pw : ∀ (l a : List Ent), a.Pairwise ltE → (l.map (·.dot)).Nodup → (∀ x ∈ a, ∀ e ∈ l, x.dot ≠ e.dot) → (l.foldl (fun a e => insE e a) a).Pairwise ltE
 | [], a, h, _, _ => h
 | e :: r, a, h, hn, hd => by
   rw [List.map_cons, List.nodup_cons] at hn
   refine sortI_pw r _ (insE_sorted h fun x hx => hd x hx e (by simp)) hn.2 fun x hx f hf => ?_
   rcases insE_mem.1 hx with rfl | hx
   · exact fun e' => hn.1 (e' ▸ List.mem_map.2 ⟨f, hf, rfl⟩)
   · exact hd x hx f (by simp [hf])
theorem sortI_sorted {l : List Ent} (h : (l.map (·.dot)).Nodup) : (sortI l).Pairwise ltE := sortI_pw l [] List.Pairwise.nil h (fun x hx => by cases hx)
theorem sortI_len (l : List Ent) : (sortI l).length = l.length := by
 have : ∀ (l a : List Ent), (l.foldl (fun a e => insE e a) a).length = a.length + l.length := by
   intro l
   induction l with
   | nil => intro a; simp
   | cons e r ih => intro a; rw [List.foldl_cons, ih, insE_len, List.length_cons]; omega
 rw [sortI, this]; simp
theorem kept_mem {U V : List Upd} {x : Ent} : x ∈ keptU U V ↔ ∃ u ∈ V, 0 < u.qty ∧ seenB U u = false ∧ u.ent = x := by
 unfold keptU
 rw [List.mem_map]
 constructor
 · rintro ⟨u, hu, rfl⟩
   rw [List.mem_filter, Bool.and_eq_true, decide_eq_true_eq, Bool.not_eq_true'] at hu
   exact ⟨u, hu.1, hu.2.1, hu.2.2, rfl⟩
 · rintro ⟨u, hu, h1, h2, rfl⟩
   exact ⟨u, by rw [List.mem_filter, Bool.and_eq_true, decide_eq_true_eq, Bool.not_eq_true']; exact ⟨hu, h1, h2⟩, rfl⟩
theorem kept_dots {U V : List Upd} (h : oneU V) : ((keptU U V).map (·.dot)).Nodup := by
 unfold keptU
 rw [List.map_map]
 exact List.Nodup.sublist (List.Sublist.map _ List.filter_sublist) h
end Go.Fw
namespace Go.Fw
open Go.RowKit
def metD (m : List (Dot × Unit)) (l : List Dot) : List (Dot × Unit) := l.foldl (fun m d => aput m d ()) m
theorem metD_take {m : List (Dot × Unit)} {l : List Dot} {i : Nat} {d : Dot} (h : l[i]? = some d) : metD m (l.take (i + 1)) = aput (metD m (l.take i)) d () := by
 unfold metD
 rw [List.take_add_one, h, Option.toList_some, List.foldl_append]
 rfl
theorem aput_len (m : List (Dot × Unit)) (d : Dot) : (aput m d ()).length = if d ∈ m.map (·.1) then m.length else m.length + 1 := by
 have h := congrArg List.length (aput_keys m d ())
 rw [List.length_map] at h
 rw [h]
 split
 · rw [List.length_map]
 · rw [List.length_append, List.length_map]; rfl
theorem metD_len : ∀ (l : List Dot) (m : List (Dot × Unit)), (metD m l).length ≤ m.length + l.length ∧ ((metD m l).length = m.length + l.length ↔ l.Nodup ∧ ∀ d ∈ l, d ∉ m.map (·.1))
 | [], m => by simp [metD]
 | x :: r, m => by
   show (metD (aput m x ()) r).length ≤ _ ∧ ((metD (aput m x ()) r).length = _ ↔ _)
   obtain ⟨h1, h2⟩ := metD_len r (aput m x ())
   rw [aput_len] at h1 h2
   rw [List.length_cons]
   by_cases h : x ∈ m.map (·.1)
   · rw [if_pos h] at h1 h2
     refine ⟨by omega, ⟨fun e => by omega, fun ⟨_, e⟩ => absurd h (e x (by simp))⟩⟩
   · rw [if_neg h] at h1 h2
     refine ⟨by omega, ?_⟩
     rw [show m.length + (r.length + 1) = m.length + 1 + r.length by omega, h2, aput_keys, if_neg h, List.nodup_cons]
     constructor
     · rintro ⟨k1, k2⟩
       refine ⟨⟨fun hx => ?_, k1⟩, fun d hd => ?_⟩
       · exact k2 x hx (by simp)
       · rcases List.mem_cons.1 hd with rfl | hd
         · exact h
         · intro e; exact k2 d hd (by rw [List.mem_append]; exact .inl e)
     · rintro ⟨⟨k1, k2⟩, k3⟩
       refine ⟨k2, fun d hd e => ?_⟩
       rw [List.mem_append, List.mem_singleton] at e
       rcases e with e | rfl
       · exact k3 d (by simp [hd]) e
       · exact k1 hd
theorem met_fewer (U : List Upd) : decide (((metD [] (U.map (·.dot))).length : Int) < (U.length : Int)) = !decide ((U.map (·.dot)).Nodup) := by
 obtain ⟨h1, h2⟩ := metD_len (U.map (·.dot)) []
 rw [List.length_nil, List.length_map, Nat.zero_add] at h1 h2
 have h3 : (metD [] (U.map (·.dot))).length = U.length ↔ oneU U := by rw [h2]; exact ⟨fun h => h.1, fun h => ⟨h, fun d _ e => by simp at e⟩⟩
 by_cases h : oneU U
 · rw [decide_eq_true (show (U.map (·.dot)).Nodup from h), decide_eq_false (by have := h3.2 h; omega)]; rfl
 · have : (metD [] (U.map (·.dot))).length ≠ U.length := fun e => h (h3.1 e)
   rw [decide_eq_false (show ¬ (U.map (·.dot)).Nodup from h), decide_eq_true (by omega)]; rfl
end Go.Fw
namespace Go.Fw
open Go.RowKit
theorem marks_take {U : List Upd} {i : Nat} {u : Upd} (h : U[i]? = some u) : marksU (U.take (i + 1)) = marksU (U.take i) ++ u.seen.ctx.marks := by
 unfold marksU
 rw [List.take_add_one, h, Option.toList_some, List.flatMap_append, List.flatMap_cons, List.flatMap_nil, List.append_nil]
theorem dots_take {U : List Upd} {i : Nat} {u : Upd} (h : U[i]? = some u) : dotsU (U.take (i + 1)) = (dotsU (U.take i) ++ u.seen.ctx.cloud) ++ [u.dot] := by
 unfold dotsU
 rw [List.take_add_one, h, Option.toList_some, List.flatMap_append, List.flatMap_cons, List.flatMap_nil, List.append_nil, List.append_assoc]
theorem kept_take {U V : List Upd} {i : Nat} {u : Upd} (h : V[i]? = some u) : keptU U (V.take (i + 1)) = keptU U (V.take i) ++ if (decide (0 < u.qty) && !seenB U u) = true then [u.ent] else [] := by
 unfold keptU
 rw [List.take_add_one, h, Option.toList_some, List.filter_append, List.map_append]
 congr 1
 have e : List.filter (fun u => decide (0 < u.qty) && !seenB U u) [u] = if (decide (0 < u.qty) && !seenB U u) = true then [u] else [] := by
   rw [List.filter_cons, List.filter_nil]
 rw [e]
 split <;> rfl
theorem kept_len (U V : List Upd) : (keptU U V).length ≤ V.length := by
 unfold keptU
 rw [List.length_map]
 exact List.length_filter_le _ _
theorem firstE_at {U : List Upd} {i : Nat} {u : Upd} (h : U[i]? = some u) : firstE (U.drop i) = if mayE u = 0 then firstE (U.drop (i + 1)) else mayE u := by
 obtain ⟨h1, h2⟩ := List.getElem?_eq_some_iff.1 h
 rw [List.drop_eq_getElem_cons h1, h2, firstE]
def RoomU (U : List Upd) : Prop := (∀ u ∈ U, mayE u = 0) → (marksU U).length ≤ 1900000 ∧ (dotsU U).length ≤ 1900000
theorem marks_le (U : List Upd) (i : Nat) : (marksU (U.take i)).length ≤ (marksU U).length := by
 have h : marksU U = marksU (U.take i) ++ marksU (U.drop i) := by unfold marksU; rw [← List.flatMap_append, List.take_append_drop]
 rw [h, List.length_append]; omega
theorem dots_le (U : List Upd) (i : Nat) : (dotsU (U.take i)).length ≤ (dotsU U).length := by
 have h : dotsU U = dotsU (U.take i) ++ dotsU (U.drop i) := by unfold dotsU; rw [← List.flatMap_append, List.take_append_drop]
 rw [h, List.length_append]; omega
theorem flat_le {α β : Type} (f : α → List β) (k : Nat) : ∀ (l : List α), (∀ x ∈ l, (f x).length ≤ k) → (l.flatMap f).length ≤ l.length * k
 | [], _ => by simp
 | x :: r, h => by
   rw [List.flatMap_cons, List.length_append, List.length_cons, Nat.add_mul]
   have h1 := h x (by simp)
   have h2 := flat_le f k r fun y hy => h y (by simp [hy])
   omega
theorem room_few {U : List Upd} (h : U.length ≤ 20000) : RoomU U := fun hm => by
 have h1 := flat_le (fun u : Upd => u.seen.ctx.marks) 64 U fun u hu => (can_len (mayE_ok (hm u hu)).seen.ctx).1
 have h2 := flat_le (fun u : Upd => u.seen.ctx.cloud ++ [u.dot]) 65 U fun u hu => by
   have := (can_len (mayE_ok (hm u hu)).seen.ctx).2
   rw [List.length_append, List.length_singleton]; omega
 unfold marksU dotsU
 omega
theorem meant_keys {U : List Upd} (h : ¬ ∀ u ∈ U, ∀ v ∈ U, u.key = v.key) : meantK U = (Cart.zero, 260) := if_neg fun e => h e.2
theorem meant_dots {U : List Upd} (h : ¬ oneU U) : meantK U = (Cart.zero, 260) := if_neg fun e => h e.1
theorem meant_first {U : List Upd} (h : okU U) (h2 : firstE U ≠ 0) : meantK U = (Cart.zero, firstE U) := by
 unfold meantK
 rw [if_pos h, if_neg h2]
theorem meant_known {U : List Upd} (h : okU U) (h2 : firstE U = 0) (h3 : (knownU U).2 ≠ 0) : meantK U = (Cart.zero, (knownU U).2) := by
 unfold meantK
 rw [if_pos h, if_pos h2, if_neg h3]
theorem meant_can {U : List Upd} (h : okU U) (h2 : firstE U = 0) (h3 : (knownU U).2 = 0) (h4 : canE (meantC U) ≠ 0) : meantK U = (Cart.zero, canE (meantC U)) := by
 unfold meantK
 rw [if_pos h, if_pos h2, if_pos h3, if_neg h4]
theorem meant_ok {U : List Upd} (h : okU U) (h2 : firstE U = 0) (h3 : (knownU U).2 = 0) (h4 : canE (meantC U) = 0) : meantK U = (meantC U, 0) := by
 unfold meantK
 rw [if_pos h, if_pos h2, if_pos h3, if_pos h4]
theorem kept_may {U V : List Upd} (h : ∀ u ∈ V, mayE u = 0) : ∀ x ∈ keptU U V, mayD x.dot = true := fun x hx => by
 obtain ⟨u, hu, _, _, rfl⟩ := kept_mem.1 hx
 exact (mayE_ok (h u hu)).dot
end Go.Fw
namespace Go.Fw
open Go.RowKit
structure Gon where
 key : List UInt8
 dt : Dot
deriving DecidableEq
abbrev Gon.enc (x : Gon) : List Value := [.string (bs x.key), .int .i64 x.dt.node, .int .i64 x.dt.life, .int .i64 x.dt.count]
theorem Gon.enc_len (x : Gon) : (Gon.enc x).length = 4 := rfl
theorem Gon.enc_one (x : Gon) : ∀ u ∈ Gon.enc x, u.oneCell' = true := fun u hu => by simp [Gon.enc] at hu; rcases hu with rfl | rfl | rfl | rfl <;> rfl
theorem Gon.mkEnc {s : List UInt8} {x y z : Int} : [Value.string (bs s), .int .i64 x, .int .i64 y, .int .i64 z] = Gon.enc ⟨s, ⟨x, y, z⟩⟩ := rfl
def ltG (a b : Gon) : Prop := Op.bytesLess a.key b.key = true ∨ (a.key = b.key ∧ ltM a.dt b.dt)
def sameG (a b : Gon) : Prop := a.key = b.key ∧ a.dt.node = b.dt.node ∧ a.dt.life = b.dt.life
instance (a b : Gon) : Decidable (ltG a b) := by unfold ltG ltM; infer_instance
instance (a b : Gon) : Decidable (sameG a b) := by unfold sameG; infer_instance
end Go.Fw
namespace Go.Fw
def cmpI (x y : Int) : Int := if x < y then -1 else if y < x then 1 else 0
def orI (x y : Int) : Int := if x ≠ 0 then x else y
end Go.Fw
namespace Go.Proofs.YtakpdbmdfnialaaGreat
open Go.Fw Go.Proofs Go.RowKit Go.Proofs.Tryz
end Go.Proofs.YtakpdbmdfnialaaGreat
namespace Go.Fw
def ordA (a b : Ent) : Int := orI (cmpB a.item b.item) (orI (cmpI a.dot.node b.dot.node) (orI (cmpI a.dot.life b.dot.life) (cmpI a.dot.count b.dot.count)))
theorem ordA_iff (a b : Ent) : ordA a b < 0 ↔ ltE a b := by
 unfold ordA ltE ltC orI cmpB cmpI
 by_cases h1 : Op.bytesLess a.item b.item = true
 · simp [h1]
 · by_cases h2 : a.item = b.item
   · have h3 : Op.bytesLess b.item b.item = false := We _
     simp only [h2, h3, if_true, Bool.false_eq_true, if_false, false_or, true_and, ne_eq, not_true]
     repeat' split
     all_goals omega
   · simp [h1, h2]
end Go.Fw
namespace Go.Proofs.YtakpdbmdfnialaaGreat
open Go.Fw Go.Proofs Go.RowKit Go.Proofs.Tryz
end Go.Proofs.YtakpdbmdfnialaaGreat
namespace Go.Ft
open Go.RowKit
structure Play where
 st : List Cart
 up : List Upd
 ct : List Int
def Play.start : Play := ⟨[], [], List.replicate 8 0⟩
end Go.Ft
namespace Go.Ft
open Go.RowKit
structure Gon where
 key : List UInt8
 dt : Dot
deriving DecidableEq
abbrev Gon.enc (x : Gon) : List Value := [.string (bs x.key), .int .i64 x.dt.node, .int .i64 x.dt.life, .int .i64 x.dt.count]
def ltG (a b : Gon) : Prop := Op.bytesLess a.key b.key = true ∨ (a.key = b.key ∧ ltM a.dt b.dt)
def sameG (a b : Gon) : Prop := a.key = b.key ∧ a.dt.node = b.dt.node ∧ a.dt.life = b.dt.life
instance (a b : Gon) : Decidable (ltG a b) := by unfold ltG ltM; infer_instance
instance (a b : Gon) : Decidable (sameG a b) := by unfold sameG; infer_instance
end Go.Ft
namespace Go.Ft
def cmpI (x y : Int) : Int := if x < y then -1 else if y < x then 1 else 0
def orI (x y : Int) : Int := if x ≠ 0 then x else y
end Go.Ft
namespace Go.Proofs.YtakpdbmdfnialaaGreat.Tk
open Go.Ft Go.Proofs Go.RowKit
theorem c177 (w0 : World) (x : Int) : Calls Tryz.prog 177 #[.int .i64 x] w0 fun e w' => e = .returned (.bool false) ∧ Bel w0.heap.size w0 w' := by
 refine enter1 Tryz.func177 rfl Tryz.ntmps177 rfl fun a S => ?_
 refine wp_seq_k fun _ hK1 => ?_
 refine wp_region_lit ?_
 (refine Yk S (Yr.ys (Yi Ev.c)) rfl ?_; clear S a; intro a w S)
 refine Zb ?_
 (refine (Za (hK1 _ _ ?_)); clear hK1)
 refine wp_seq_k fun _ hK1 => ?_
 refine wp_region_lit ?_
 (refine Yk S (Yr.ys (Zi (Ev.t rfl))) rfl ?_; clear S a w; intro a w S)
 (refine Yk S (Yr.ys (Zi (Ev.t rfl))) rfl ?_; clear S a w; intro a w S)
 (refine Yk S (Yr.ys (Yq (by omega) (Yh (Ev.t rfl) (Ev.t rfl)))) rfl ?_; clear S a w; intro a w S)
 (refine Yk S (Yr.ys (Yi (Ev.t rfl))) rfl ?_; clear S a w; intro a w S)
 refine Zb ?_
 (refine (Za (hK1 _ _ ?_)); clear hK1)
 refine wp_ret ?_
 refine Zm S (results1 S Tryz.results177 (Rv.tmp rfl)) ?_
 exact ⟨by simp, S.wd.below⟩
theorem c132 (w0 : World) (x y : Int) :
   Calls Tryz.prog 132 #[.int .i64 x, .int .i64 y] w0 fun e w' => e = .returned (.int .i64 (cmpI x y)) ∧ Bel w0.heap.size w0 w' := by
 refine enter2 Tryz.func132 rfl Tryz.ntmps132 rfl fun a S => ?_
 refine wp_seq_k fun _ hK1 => ?_
 refine wp_region_lit ?_
 (refine Yk S (Yr.ys (Yi Ev.c)) rfl ?_; clear S a; intro a w S)
 refine Zb ?_
 (refine (Za (hK1 _ _ ?_)); clear hK1)
 refine wp_seq_k fun _ hK1 => ?_
 refine wp_region_lit ?_
 (refine Yk S (Yr.ys (Zi (Ev.t rfl))) rfl ?_; clear S a w; intro a w S)
 (refine Yk S (Zf Tryz.call177 (EvL.cons (Ev.t rfl) EvL.nil) (fun hp w W => c177 _ _)) rfl ?_; clear S a w; intro a w S)
 (refine Yk S (Yr.ys (Yi (Ev.t rfl))) rfl ?_; clear S a w; intro a w S)
 refine Zb ?_
 (refine (Za (hK1 _ _ ?_)); clear hK1)
 refine wp_seq_k fun _ hK1 => ?_
 refine wp_region_lit ?_
 (refine Yk S (Yr.ys (Zi (Ev.t rfl))) rfl ?_; clear S a w; intro a w S)
 (refine Yk S (Zf Tryz.call177 (EvL.cons (Ev.t rfl) EvL.nil) (fun hp w W => c177 _ _)) rfl ?_; clear S a w; intro a w S)
 (refine Yk S (Yr.ys (Yi (Ev.t rfl))) rfl ?_; clear S a w; intro a w S)
 refine Zb ?_
 (refine (Za (hK1 _ _ ?_)); clear hK1)
 refine wp_seq_k fun _ hK1 => ?_
 refine wp_seq_k fun _ hK2 => ?_
 refine wp_region_lit ?_
 (refine Yk S (Yr.ys (Zi (Ev.t rfl))) rfl ?_; clear S a w; intro a w S)
 refine Zb ?_
 (refine (Za (hK2 _ _ ?_)); clear hK2)
 refine Ze S (Ev.t rfl) ?_
 refine wp_skip ?_
 (refine (Za (hK1 _ _ ?_)); clear hK1)
 refine wp_seq_k fun _ hK1 => ?_
 refine wp_seq_k fun _ hK2 => ?_
 refine wp_region_lit ?_
 (refine Yk S (Yr.ys (Zi (Ev.t rfl))) rfl ?_; clear S a w; intro a w S)
 refine Zb ?_
 (refine (Za (hK2 _ _ ?_)); clear hK2)
 refine Ze S (Ev.t rfl) ?_
 refine wp_skip ?_
 (refine (Za (hK1 _ _ ?_)); clear hK1)
 refine wp_seq_k fun _ hK1 => ?_
 refine wp_seq_k fun _ hK2 => ?_
 refine wp_region_lit ?_
 (refine Yk S (Yr.ys (Zi (Ev.t rfl))) rfl ?_; clear S a w; intro a w S)
 (refine Yk S (Yr.ys (Zi (Ev.t rfl))) rfl ?_; clear S a w; intro a w S)
 (refine Yk S (Yr.ys (Yy (Ev.t rfl) (Ev.t rfl))) rfl ?_; clear S a w; intro a w S)
 refine Zb ?_
 (refine (Za (hK2 _ _ ?_)); clear hK2)
 refine Xz S (Ev.t rfl) (fun h1 => ?_) (fun h1 => ?_)
 refine wp_seq_k fun _ hK2 => ?_
 refine wp_region_lit ?_
 (refine Yk S (Yr.ys (Yi Ev.c)) rfl ?_; clear S a w; intro a w S)
 refine Zb ?_
 (refine (Za (hK2 _ _ ?_)); clear hK2)
 refine wp_ret ?_
 refine (Zd ?_)
 refine Zm S (results1 S Tryz.results132 (Rv.tmp rfl)) ?_
 rotate_left
 refine wp_skip ?_
 (refine (Za (hK1 _ _ ?_)); clear hK1)
 refine wp_seq_k fun _ hK1 => ?_
 refine wp_seq_k fun _ hK2 => ?_
 refine wp_region_lit ?_
 (refine Yk S (Yr.ys (Zi (Ev.t rfl))) rfl ?_; clear S a w; intro a w S)
 (refine Yk S (Yr.ys (Zi (Ev.t rfl))) rfl ?_; clear S a w; intro a w S)
 (refine Yk S (Yr.ys (Yn (Ev.t rfl) (Ev.t rfl))) rfl ?_; clear S a w; intro a w S)
 refine Zb ?_
 (refine (Za (hK2 _ _ ?_)); clear hK2)
 refine Xz S (Ev.t rfl) (fun h2 => ?_) (fun h2 => ?_)
 refine wp_seq_k fun _ hK2 => ?_
 refine wp_region_lit ?_
 (refine Yk S (Yr.ys (Yi Ev.c)) rfl ?_; clear S a w; intro a w S)
 refine Zb ?_
 (refine (Za (hK2 _ _ ?_)); clear hK2)
 refine wp_ret ?_
 refine (Zd ?_)
 refine Zm S (results1 S Tryz.results132 (Rv.tmp rfl)) ?_
 rotate_left
 refine wp_skip ?_
 (refine (Za (hK1 _ _ ?_)); clear hK1)
 refine wp_seq_k fun _ hK1 => ?_
 refine wp_region_lit ?_
 (refine Yk S (Yr.ys (Yi Ev.c)) rfl ?_; clear S a w; intro a w S)
 refine Zb ?_
 (refine (Za (hK1 _ _ ?_)); clear hK1)
 refine wp_ret ?_
 refine Zm S (results1 S Tryz.results132 (Rv.tmp rfl)) ?_
 rotate_left
 · exact ⟨by rw [cmpI, if_pos h1], S.wd.below⟩
 · exact ⟨by rw [cmpI, if_neg h1, if_pos h2], S.wd.below⟩
 · exact ⟨by rw [cmpI, if_neg h1, if_neg h2], S.wd.below⟩
end Go.Proofs.YtakpdbmdfnialaaGreat.Tk
namespace Go.Ft
theorem less_neither {a b : List UInt8} (h : Op.bytesLess a b = false) (h' : Op.bytesLess b a = false) : a = b := by
 refine Decidable.byContradiction fun hne => ?_
 rcases Wy hne with h1 | h1
 · rw [h] at h1; cases h1
 · rw [h'] at h1; cases h1
end Go.Ft
namespace Go.Proofs.YtakpdbmdfnialaaGreat.Tk
open Go.Ft Go.Proofs Go.RowKit
theorem c176 (w0 : World) (l : List UInt8) : Calls Tryz.prog 176 #[.string (bs l)] w0 fun e w' => e = .returned (.bool false) ∧ Bel w0.heap.size w0 w' := by
 refine enter1 Tryz.func176 rfl Tryz.ntmps176 rfl fun a S => ?_
 refine wp_seq_k fun _ hK1 => ?_
 refine wp_region_lit ?_
 (refine Yk S (Yr.ys (Yi Ev.c)) rfl ?_; clear S a; intro a w S)
 refine Zb ?_
 (refine (Za (hK1 _ _ ?_)); clear hK1)
 refine wp_seq_k fun _ hK1 => ?_
 refine wp_region_lit ?_
 (refine Yk S (Yr.ys (Zi (Ev.t rfl))) rfl ?_; clear S a w; intro a w S)
 (refine Yk S (Yr.ys (Zi (Ev.t rfl))) rfl ?_; clear S a w; intro a w S)
 (refine Yk S (Yr.ys (Xs (Ev.t rfl) (Ev.t rfl))) rfl ?_; clear S a w; intro a w S)
 (refine Yk S (Yr.ys (Yi (Ev.t rfl))) rfl ?_; clear S a w; intro a w S)
 refine Zb ?_
 (refine (Za (hK1 _ _ ?_)); clear hK1)
 refine wp_ret ?_
 refine Zm S (results1 S Tryz.results176 (Rv.tmp rfl)) ?_
 exact ⟨by simp, S.wd.below⟩
theorem c131 (w0 : World) (l m : List UInt8) : Calls Tryz.prog 131 #[.string (bs l), .string (bs m)] w0 fun e w' => e = .returned (.int .i64 (cmpB l m)) ∧ Bel w0.heap.size w0 w' := by
 refine enter2 Tryz.func131 rfl Tryz.ntmps131 rfl fun a S => ?_
 refine wp_seq_k fun _ hK1 => ?_
 refine wp_region_lit ?_
 (refine Yk S (Yr.ys (Yi Ev.c)) rfl ?_; clear S a; intro a w S)
 refine Zb ?_
 (refine (Za (hK1 _ _ ?_)); clear hK1)
 refine wp_seq_k fun _ hK1 => ?_
 refine wp_region_lit ?_
 (refine Yk S (Yr.ys (Zi (Ev.t rfl))) rfl ?_; clear S a w; intro a w S)
 (refine Yk S (Zf Tryz.call176 (EvL.cons (Ev.t rfl) EvL.nil) (fun hp w W => c176 _ _)) rfl ?_; clear S a w; intro a w S)
 (refine Yk S (Yr.ys (Yi (Ev.t rfl))) rfl ?_; clear S a w; intro a w S)
 refine Zb ?_
 (refine (Za (hK1 _ _ ?_)); clear hK1)
 refine wp_seq_k fun _ hK1 => ?_
 refine wp_region_lit ?_
 (refine Yk S (Yr.ys (Zi (Ev.t rfl))) rfl ?_; clear S a w; intro a w S)
 (refine Yk S (Zf Tryz.call176 (EvL.cons (Ev.t rfl) EvL.nil) (fun hp w W => c176 _ _)) rfl ?_; clear S a w; intro a w S)
 (refine Yk S (Yr.ys (Yi (Ev.t rfl))) rfl ?_; clear S a w; intro a w S)
 refine Zb ?_
 (refine (Za (hK1 _ _ ?_)); clear hK1)
 refine wp_seq_k fun _ hK1 => ?_
 refine wp_seq_k fun _ hK2 => ?_
 refine wp_region_lit ?_
 (refine Yk S (Yr.ys (Zi (Ev.t rfl))) rfl ?_; clear S a w; intro a w S)
 refine Zb ?_
 (refine (Za (hK2 _ _ ?_)); clear hK2)
 refine Ze S (Ev.t rfl) ?_
 refine wp_skip ?_
 (refine (Za (hK1 _ _ ?_)); clear hK1)
 refine wp_seq_k fun _ hK1 => ?_
 refine wp_seq_k fun _ hK2 => ?_
 refine wp_region_lit ?_
 (refine Yk S (Yr.ys (Zi (Ev.t rfl))) rfl ?_; clear S a w; intro a w S)
 refine Zb ?_
 (refine (Za (hK2 _ _ ?_)); clear hK2)
 refine Ze S (Ev.t rfl) ?_
 refine wp_skip ?_
 (refine (Za (hK1 _ _ ?_)); clear hK1)
 refine wp_seq_k fun _ hK1 => ?_
 refine wp_seq_k fun _ hK2 => ?_
 refine wp_region_lit ?_
 (refine Yk S (Yr.ys (Zi (Ev.t rfl))) rfl ?_; clear S a w; intro a w S)
 (refine Yk S (Yr.ys (Zi (Ev.t rfl))) rfl ?_; clear S a w; intro a w S)
 (refine Yk S (Yr.ys (ys_lssStr (Ev.t rfl) (Ev.t rfl))) rfl ?_; clear S a w; intro a w S)
 refine Zb ?_
 (refine (Za (hK2 _ _ ?_)); clear hK2)
 refine Xi S (Ev.t rfl) (fun h1 => ?_) (fun h1 => ?_)
 refine wp_seq_k fun _ hK2 => ?_
 refine wp_region_lit ?_
 (refine Yk S (Yr.ys (Yi Ev.c)) rfl ?_; clear S a w; intro a w S)
 refine Zb ?_
 (refine (Za (hK2 _ _ ?_)); clear hK2)
 refine wp_ret ?_
 refine (Zd ?_)
 refine Zm S (results1 S Tryz.results131 (Rv.tmp rfl)) ?_
 rotate_left
 refine wp_skip ?_
 (refine (Za (hK1 _ _ ?_)); clear hK1)
 refine wp_seq_k fun _ hK1 => ?_
 refine wp_seq_k fun _ hK2 => ?_
 refine wp_region_lit ?_
 (refine Yk S (Yr.ys (Zi (Ev.t rfl))) rfl ?_; clear S a w; intro a w S)
 (refine Yk S (Yr.ys (Zi (Ev.t rfl))) rfl ?_; clear S a w; intro a w S)
 (refine Yk S (Yr.ys (ys_gtrStr (Ev.t rfl) (Ev.t rfl))) rfl ?_; clear S a w; intro a w S)
 refine Zb ?_
 (refine (Za (hK2 _ _ ?_)); clear hK2)
 refine Xi S (Ev.t rfl) (fun h2 => ?_) (fun h2 => ?_)
 refine wp_seq_k fun _ hK2 => ?_
 refine wp_region_lit ?_
 (refine Yk S (Yr.ys (Yi Ev.c)) rfl ?_; clear S a w; intro a w S)
 refine Zb ?_
 (refine (Za (hK2 _ _ ?_)); clear hK2)
 refine wp_ret ?_
 refine (Zd ?_)
 refine Zm S (results1 S Tryz.results131 (Rv.tmp rfl)) ?_
 rotate_left
 refine wp_skip ?_
 (refine (Za (hK1 _ _ ?_)); clear hK1)
 refine wp_seq_k fun _ hK1 => ?_
 refine wp_region_lit ?_
 (refine Yk S (Yr.ys (Yi Ev.c)) rfl ?_; clear S a w; intro a w S)
 refine Zb ?_
 (refine (Za (hK1 _ _ ?_)); clear hK1)
 refine wp_ret ?_
 refine Zm S (results1 S Tryz.results131 (Rv.tmp rfl)) ?_
 rotate_left
 · exact ⟨by rw [cmpB, if_pos h1], S.wd.below⟩
 · exact ⟨by rw [cmpB, if_neg (by rw [h1]; simp), if_neg (less_ne h2).symm], S.wd.below⟩
 · exact ⟨by rw [cmpB, if_neg (by rw [h1]; simp), if_pos (less_neither h1 h2)], S.wd.below⟩
end Go.Proofs.YtakpdbmdfnialaaGreat.Tk
namespace Go.Ft
def ordA (a b : Ent) : Int := orI (cmpB a.item b.item) (orI (cmpI a.dot.node b.dot.node) (orI (cmpI a.dot.life b.dot.life) (cmpI a.dot.count b.dot.count)))
end Go.Ft
namespace Go.Proofs.YtakpdbmdfnialaaGreat.Tk
open Go.Ft Go.Proofs Go.RowKit
theorem e130 (w0 : World) (g : Nat) (x y z u : Int) (h0 : w0.cell? ⟨g, 0, none⟩ = some (.int .i64 x)) (h1 : w0.cell? ⟨g, 1, none⟩ = some (.int .i64 y)) (h2 : w0.cell? ⟨g, 2, none⟩ = some (.int .i64 z)) (hu : w0.cell? ⟨g, 3, none⟩ = some (.int .i64 u)) :
   Calls Tryz.prog 130 #[.slice (some ⟨g, 0, none⟩) 4 4] w0 fun e w' => e = .returned (.int .i64 (orI x (orI y (orI z u)))) ∧ Bel w0.heap.size w0 w' := by
 have rw_1 : (0 : Int) + 1 = ((1 : Nat) : Int) := rfl
 have rw_2 : ((1 : Nat) : Int) + 1 = ((2 : Nat) : Int) := rfl
 have rw_3 : ((2 : Nat) : Int) + 1 = ((3 : Nat) : Int) := rfl
 have rw_4 : ((3 : Nat) : Int) + 1 = ((4 : Nat) : Int) := rfl
 refine enter1 Tryz.func130 rfl Tryz.ntmps130 rfl fun a S => ?_
 refine wp_seq_k fun _ hK1 => ?_
 refine wp_region_lit ?_
 (refine Yk S (Yr.ys (Yi Ev.c)) rfl ?_; clear S a; intro a w S)
 refine Zb ?_
 (refine (Za (hK1 _ _ ?_)); clear hK1)
 refine wp_seq_k fun _ hK1 => ?_
 refine wp_region_lit ?_
 (refine Yk S (Yr.ys (Yi Ev.c)) rfl ?_; clear S a w; intro a w S)
 refine Zb ?_
 (refine (Za (hK1 _ _ ?_)); clear hK1)
 refine wp_seq_k fun _ hK1 => ?_
 refine wp_seq_k fun _ hK2 => ?_
 refine wp_region_lit ?_
 (refine Yk S (Yr.ys (Zi (Ev.t rfl))) rfl ?_; clear S a w; intro a w S)
 (refine Yk S (Yr.ys (Wt Tryz.underlying202 (Ev.t rfl))) rfl ?_; clear S a w; intro a w S)
 (refine Yk S (Yr.ys (Zi Ev.c)) rfl ?_; clear S a w; intro a w S)
 refine Zb ?_
 (refine (Za (hK2 _ _ ?_)); clear hK2)
 refine wp_block ?_
 refine Wq 5 (Xe ?_)
 refine wp_seq_k fun _ hK2 => ?_
 refine wp_region_lit ?_
 (refine Yk S (Yr.ys (Yu (by omega) (Yy (Ev.t rfl) (Ev.t rfl)))) rfl ?_; clear S a w; intro a w S)
 refine Zb ?_
 (refine (Za (hK2 _ _ ?_)); clear hK2)
 refine wp_seq_k fun _ hK2 => ?_
 refine Zg S (Ev.t rfl) ?_
 refine wp_skip ?_
 (refine (Za (hK2 _ _ ?_)); clear hK2)
 refine wp_seq_k fun _ hK2 => ?_
 refine wp_block ?_
 refine wp_seq_k fun _ hK3 => ?_
 refine wp_region_lit ?_
 (refine Yk S (Yr.ys (Ym (j := 0) Tryz.underlying202 Tryz.sizeOf3 (Ev.t rfl) (Ev.t rfl) (fun _ => by omega))) rfl ?_; clear S a w; intro a w S)
 (refine Yk S (Yr.ys (Yv ⟨Tryz.isAgg3, Tryz.sizeOf3⟩ (Ev.t rfl) (fun _ => h0))) rfl ?_; clear S a w; intro a w S)
 (refine Yk S (Yr.ys (Yi (Ev.t rfl))) rfl ?_; clear S a w; intro a w S)
 refine Zb ?_
 (refine (Za (hK3 _ _ ?_)); clear hK3)
 refine wp_seq_k fun _ hK3 => ?_
 refine wp_region_lit ?_
 (refine Yk S (Yr.ys (Zi (Ev.t rfl))) rfl ?_; clear S a w; intro a w S)
 (refine Yk S (Yr.ys (Zi (Ev.t rfl))) rfl ?_; clear S a w; intro a w S)
 (refine Yk S (Yr.ys (Yh (Ev.t rfl) (Ev.t rfl))) rfl ?_; clear S a w; intro a w S)
 refine Zb ?_
 (refine (Za (hK3 _ _ ?_)); clear hK3)
 refine Xz S (Ev.t rfl) (fun h3 => ?_) (fun h3 => ?_)
 refine wp_seq_k fun _ hK3 => ?_
 refine wp_region_lit ?_
 (refine Yk S (Yr.ys (Zi (Ev.t rfl))) rfl ?_; clear S a w; intro a w S)
 (refine Yk S (Yr.ys (Yi (Ev.t rfl))) rfl ?_; clear S a w; intro a w S)
 refine Zb ?_
 (refine (Za (hK3 _ _ ?_)); clear hK3)
 refine wp_ret ?_
 refine (Zr (Zd (Zd (Zr (Zd ?_)))))
 refine Zm S (results1 S Tryz.results130 (Rv.tmp rfl)) ?_
 rotate_left
 refine wp_skip ?_
 (refine (Zk (Za (hK2 _ _ ?_))); clear hK2)
 refine wp_region_lit ?_
 (refine Yk S (Yr.ys (Xu (Ev.t rfl) Ev.c (fun _ => by unfold I64; omega))) rfl ?_; clear S a w; intro a w S)
 rw [rw_1] at S
 (refine Yk S (Yr.ys (Zi (Ev.t rfl))) rfl ?_; clear S a w; intro a w S)
 refine Zb ?_
 refine (Za ?_)
 rotate_left
 · exact ⟨by rw [orI, if_pos h3], S.wd.below⟩
 refine Xe ?_
 refine wp_seq_k fun _ hK2 => ?_
 refine wp_region_lit ?_
 (refine Yk S (Yr.ys (Yu (by omega) (Yy (Ev.t rfl) (Ev.t rfl)))) rfl ?_; clear S a w; intro a w S)
 refine Zb ?_
 (refine (Za (hK2 _ _ ?_)); clear hK2)
 refine wp_seq_k fun _ hK2 => ?_
 refine Zg S (Ev.t rfl) ?_
 refine wp_skip ?_
 (refine (Za (hK2 _ _ ?_)); clear hK2)
 refine wp_seq_k fun _ hK2 => ?_
 refine wp_block ?_
 refine wp_seq_k fun _ hK3 => ?_
 refine wp_region_lit ?_
 (refine Yk S (Yr.ys (Ym (j := 1) Tryz.underlying202 Tryz.sizeOf3 (Ev.t rfl) (Ev.t rfl) (fun _ => by omega))) rfl ?_; clear S a w; intro a w S)
 (refine Yk S (Yr.ys (Yv ⟨Tryz.isAgg3, Tryz.sizeOf3⟩ (Ev.t rfl) (fun _ => h1))) rfl ?_; clear S a w; intro a w S)
 (refine Yk S (Yr.ys (Yi (Ev.t rfl))) rfl ?_; clear S a w; intro a w S)
 refine Zb ?_
 (refine (Za (hK3 _ _ ?_)); clear hK3)
 refine wp_seq_k fun _ hK3 => ?_
 refine wp_region_lit ?_
 (refine Yk S (Yr.ys (Zi (Ev.t rfl))) rfl ?_; clear S a w; intro a w S)
 (refine Yk S (Yr.ys (Zi (Ev.t rfl))) rfl ?_; clear S a w; intro a w S)
 (refine Yk S (Yr.ys (Yh (Ev.t rfl) (Ev.t rfl))) rfl ?_; clear S a w; intro a w S)
 refine Zb ?_
 (refine (Za (hK3 _ _ ?_)); clear hK3)
 refine Xz S (Ev.t rfl) (fun h4 => ?_) (fun h4 => ?_)
 refine wp_seq_k fun _ hK3 => ?_
 refine wp_region_lit ?_
 (refine Yk S (Yr.ys (Zi (Ev.t rfl))) rfl ?_; clear S a w; intro a w S)
 (refine Yk S (Yr.ys (Yi (Ev.t rfl))) rfl ?_; clear S a w; intro a w S)
 refine Zb ?_
 (refine (Za (hK3 _ _ ?_)); clear hK3)
 refine wp_ret ?_
 refine (Zr (Zd (Zd (Zr (Zd ?_)))))
 refine Zm S (results1 S Tryz.results130 (Rv.tmp rfl)) ?_
 rotate_left
 refine wp_skip ?_
 (refine (Zk (Za (hK2 _ _ ?_))); clear hK2)
 refine wp_region_lit ?_
 (refine Yk S (Yr.ys (Xu (Ev.t rfl) Ev.c (fun _ => by unfold I64; omega))) rfl ?_; clear S a w; intro a w S)
 rw [rw_2] at S
 (refine Yk S (Yr.ys (Zi (Ev.t rfl))) rfl ?_; clear S a w; intro a w S)
 refine Zb ?_
 refine (Za ?_)
 rotate_left
 · exact ⟨by rw [orI, if_neg h3, orI, if_pos h4], S.wd.below⟩
 refine Xe ?_
 refine wp_seq_k fun _ hK2 => ?_
 refine wp_region_lit ?_
 (refine Yk S (Yr.ys (Yu (by omega) (Yy (Ev.t rfl) (Ev.t rfl)))) rfl ?_; clear S a w; intro a w S)
 refine Zb ?_
 (refine (Za (hK2 _ _ ?_)); clear hK2)
 refine wp_seq_k fun _ hK2 => ?_
 refine Zg S (Ev.t rfl) ?_
 refine wp_skip ?_
 (refine (Za (hK2 _ _ ?_)); clear hK2)
 refine wp_seq_k fun _ hK2 => ?_
 refine wp_block ?_
 refine wp_seq_k fun _ hK3 => ?_
 refine wp_region_lit ?_
 (refine Yk S (Yr.ys (Ym (j := 2) Tryz.underlying202 Tryz.sizeOf3 (Ev.t rfl) (Ev.t rfl) (fun _ => by omega))) rfl ?_; clear S a w; intro a w S)
 (refine Yk S (Yr.ys (Yv ⟨Tryz.isAgg3, Tryz.sizeOf3⟩ (Ev.t rfl) (fun _ => h2))) rfl ?_; clear S a w; intro a w S)
 (refine Yk S (Yr.ys (Yi (Ev.t rfl))) rfl ?_; clear S a w; intro a w S)
 refine Zb ?_
 (refine (Za (hK3 _ _ ?_)); clear hK3)
 refine wp_seq_k fun _ hK3 => ?_
 refine wp_region_lit ?_
 (refine Yk S (Yr.ys (Zi (Ev.t rfl))) rfl ?_; clear S a w; intro a w S)
 (refine Yk S (Yr.ys (Zi (Ev.t rfl))) rfl ?_; clear S a w; intro a w S)
 (refine Yk S (Yr.ys (Yh (Ev.t rfl) (Ev.t rfl))) rfl ?_; clear S a w; intro a w S)
 refine Zb ?_
 (refine (Za (hK3 _ _ ?_)); clear hK3)
 refine Xz S (Ev.t rfl) (fun h5 => ?_) (fun h5 => ?_)
 refine wp_seq_k fun _ hK3 => ?_
 refine wp_region_lit ?_
 (refine Yk S (Yr.ys (Zi (Ev.t rfl))) rfl ?_; clear S a w; intro a w S)
 (refine Yk S (Yr.ys (Yi (Ev.t rfl))) rfl ?_; clear S a w; intro a w S)
 refine Zb ?_
 (refine (Za (hK3 _ _ ?_)); clear hK3)
 refine wp_ret ?_
 refine (Zr (Zd (Zd (Zr (Zd ?_)))))
 refine Zm S (results1 S Tryz.results130 (Rv.tmp rfl)) ?_
 rotate_left
 refine wp_skip ?_
 (refine (Zk (Za (hK2 _ _ ?_))); clear hK2)
 refine wp_region_lit ?_
 (refine Yk S (Yr.ys (Xu (Ev.t rfl) Ev.c (fun _ => by unfold I64; omega))) rfl ?_; clear S a w; intro a w S)
 rw [rw_3] at S
 (refine Yk S (Yr.ys (Zi (Ev.t rfl))) rfl ?_; clear S a w; intro a w S)
 refine Zb ?_
 refine (Za ?_)
 rotate_left
 · exact ⟨by rw [orI, if_neg h3, orI, if_neg h4, orI, if_pos h5], S.wd.below⟩
 refine Xe ?_
 refine wp_seq_k fun _ hK2 => ?_
 refine wp_region_lit ?_
 (refine Yk S (Yr.ys (Yu (by omega) (Yy (Ev.t rfl) (Ev.t rfl)))) rfl ?_; clear S a w; intro a w S)
 refine Zb ?_
 (refine (Za (hK2 _ _ ?_)); clear hK2)
 refine wp_seq_k fun _ hK2 => ?_
 refine Zg S (Ev.t rfl) ?_
 refine wp_skip ?_
 (refine (Za (hK2 _ _ ?_)); clear hK2)
 refine wp_seq_k fun _ hK2 => ?_
 refine wp_block ?_
 refine wp_seq_k fun _ hK3 => ?_
 refine wp_region_lit ?_
 (refine Yk S (Yr.ys (Ym (j := 3) Tryz.underlying202 Tryz.sizeOf3 (Ev.t rfl) (Ev.t rfl) (fun _ => by omega))) rfl ?_; clear S a w; intro a w S)
 (refine Yk S (Yr.ys (Yv ⟨Tryz.isAgg3, Tryz.sizeOf3⟩ (Ev.t rfl) (fun _ => hu))) rfl ?_; clear S a w; intro a w S)
 (refine Yk S (Yr.ys (Yi (Ev.t rfl))) rfl ?_; clear S a w; intro a w S)
 refine Zb ?_
 (refine (Za (hK3 _ _ ?_)); clear hK3)
 refine wp_seq_k fun _ hK3 => ?_
 refine wp_region_lit ?_
 (refine Yk S (Yr.ys (Zi (Ev.t rfl))) rfl ?_; clear S a w; intro a w S)
 (refine Yk S (Yr.ys (Zi (Ev.t rfl))) rfl ?_; clear S a w; intro a w S)
 (refine Yk S (Yr.ys (Yh (Ev.t rfl) (Ev.t rfl))) rfl ?_; clear S a w; intro a w S)
 refine Zb ?_
 (refine (Za (hK3 _ _ ?_)); clear hK3)
 refine Xz S (Ev.t rfl) (fun h6 => ?_) (fun h6 => ?_)
 refine wp_seq_k fun _ hK3 => ?_
 refine wp_region_lit ?_
 (refine Yk S (Yr.ys (Zi (Ev.t rfl))) rfl ?_; clear S a w; intro a w S)
 (refine Yk S (Yr.ys (Yi (Ev.t rfl))) rfl ?_; clear S a w; intro a w S)
 refine Zb ?_
 (refine (Za (hK3 _ _ ?_)); clear hK3)
 refine wp_ret ?_
 refine (Zr (Zd (Zd (Zr (Zd ?_)))))
 refine Zm S (results1 S Tryz.results130 (Rv.tmp rfl)) ?_
 rotate_left
 refine wp_skip ?_
 (refine (Zk (Za (hK2 _ _ ?_))); clear hK2)
 refine wp_region_lit ?_
 (refine Yk S (Yr.ys (Xu (Ev.t rfl) Ev.c (fun _ => by unfold I64; omega))) rfl ?_; clear S a w; intro a w S)
 rw [rw_4] at S
 (refine Yk S (Yr.ys (Zi (Ev.t rfl))) rfl ?_; clear S a w; intro a w S)
 refine Zb ?_
 refine (Za ?_)
 rotate_left
 · exact ⟨by rw [orI, if_neg h3, orI, if_neg h4, orI, if_neg h5], S.wd.below⟩
 refine Xe ?_
 refine wp_seq_k fun _ hK2 => ?_
 refine wp_region_lit ?_
 (refine Yk S (Yr.ys (Yq (by omega) (Yy (Ev.t rfl) (Ev.t rfl)))) rfl ?_; clear S a w; intro a w S)
 refine Zb ?_
 (refine (Za (hK2 _ _ ?_)); clear hK2)
 refine wp_seq_k fun _ hK2 => ?_
 refine Ze S (Ev.t rfl) ?_
 refine wp_exit ?_
 (refine (Zh (Zh (Ya (Za (hK1 _ _ ?_))))); clear hK1)
 refine wp_seq_k fun _ hK1 => ?_
 refine wp_region_lit ?_
 (refine Yk S (Yr.ys (Zi (Ev.t rfl))) rfl ?_; clear S a w; intro a w S)
 (refine Yk S (Yr.ys (Yi (Ev.t rfl))) rfl ?_; clear S a w; intro a w S)
 refine Zb ?_
 (refine (Za (hK1 _ _ ?_)); clear hK1)
 refine wp_ret ?_
 refine Zm S (results1 S Tryz.results130 (Rv.tmp rfl)) ?_
 exact ⟨by rw [orI, if_neg h3, orI, if_neg h4, orI, if_neg h5, Decidable.not_not.1 h6], S.wd.below⟩
theorem c111 (w0 : World) (a b : Ent) : Calls Tryz.prog 111 #[.agg (Ent.enc a).toArray, .agg (Ent.enc b).toArray] w0 fun e w' => e = .returned (.int .i64 (ordA a b)) ∧ Bel w0.heap.size w0 w' := by
 refine enter2 Tryz.func111 rfl Tryz.ntmps111 rfl fun a S => ?_
 refine wp_seq_k fun _ hK1 => ?_
 refine wp_region_lit ?_
 (refine Zj (Zw S (Ev.t rfl) rfl ?_); clear S a; intro g1 a w S)
 (refine Zj (Zw S (Ev.t rfl) rfl ?_); clear S a w; intro g2 a w S)
 (refine Yk S (Yr.ys (Yi Ev.c)) rfl ?_; clear S a w; intro a w S)
 refine Zb ?_
 (refine (Za (hK1 _ _ ?_)); clear hK1)
 refine wp_seq_k fun _ hK1 => ?_
 (refine h_begin0 S (by kernel_rfl) ?_; clear S a w; intro a w S)
 (refine h_y (i := 0) S (by repeat (first | exact List.Sublist.refl _ | exact List.nil_sublist _ | refine .cons_cons _ ?_ | refine .cons _ ?_)) rfl (by kernel_rfl) (by kernel_rfl) (by kernel_rfl) (fun _ _ _ _ h => h) (Zc (FieldT.mk Tryz.underlying100 rfl Tryz.sizeOf9 rfl) (Ev.t rfl) (i' := 0) rfl) rfl ?_; clear S a w; intro a w S)
 (refine h_y (i := 1) S (by repeat (first | exact List.Sublist.refl _ | exact List.nil_sublist _ | refine .cons_cons _ ?_ | refine .cons _ ?_)) rfl (by kernel_rfl) (by kernel_rfl) (by kernel_rfl) (fun _ _ _ _ h => h) (Zt ⟨Tryz.isAgg9, Tryz.sizeOf9⟩ (Ev.t rfl) (k := 1) rfl rfl) rfl ?_; clear S a w; intro a w S)
 (refine h_y (i := 2) S (by repeat (first | exact List.Sublist.refl _ | exact List.nil_sublist _ | refine .cons_cons _ ?_ | refine .cons _ ?_)) rfl (by kernel_rfl) (by kernel_rfl) (by kernel_rfl) (fun _ _ _ _ h => h) (Zc (FieldT.mk Tryz.underlying100 rfl Tryz.sizeOf9 rfl) (Ev.t rfl) (i' := 0) rfl) rfl ?_; clear S a w; intro a w S)
 (refine h_y (i := 3) S (by repeat (first | exact List.Sublist.refl _ | exact List.nil_sublist _ | refine .cons_cons _ ?_ | refine .cons _ ?_)) rfl (by kernel_rfl) (by kernel_rfl) (by kernel_rfl) (fun _ _ _ _ h => h) (Zt ⟨Tryz.isAgg9, Tryz.sizeOf9⟩ (Ev.t rfl) (k := 0) rfl rfl) rfl ?_; clear S a w; intro a w S)
 (refine h_y (i := 5) S (by repeat (first | exact List.Sublist.refl _ | exact List.nil_sublist _ | refine .cons_cons _ ?_ | refine .cons _ ?_)) rfl (by kernel_rfl) (by kernel_rfl) (by kernel_rfl) (fun _ _ _ _ h => h) (Zc (FieldT.mk Tryz.underlying100 rfl Tryz.sizeOf74 rfl) (Ev.t rfl) (i' := 1) rfl) rfl ?_; clear S a w; intro a w S)
 (refine h_y (i := 6) S (by repeat (first | exact List.Sublist.refl _ | exact List.nil_sublist _ | refine .cons_cons _ ?_ | refine .cons _ ?_)) rfl (by kernel_rfl) (by kernel_rfl) (by kernel_rfl) (fun _ _ _ _ h => h) (Zc (FieldT.mk Tryz.underlying74 rfl Tryz.sizeOf3 rfl) (Ev.t rfl) (i' := 1) rfl) rfl ?_; clear S a w; intro a w S)
 (refine h_y (i := 7) S (by repeat (first | exact List.Sublist.refl _ | exact List.nil_sublist _ | refine .cons_cons _ ?_ | refine .cons _ ?_)) rfl (by kernel_rfl) (by kernel_rfl) (by kernel_rfl) (fun _ _ _ _ h => h) (Zt ⟨Tryz.isAgg3, Tryz.sizeOf3⟩ (Ev.t rfl) (k := 1) rfl rfl) rfl ?_; clear S a w; intro a w S)
 (refine h_y (i := 8) S (by repeat (first | exact List.Sublist.refl _ | exact List.nil_sublist _ | refine .cons_cons _ ?_ | refine .cons _ ?_)) rfl (by kernel_rfl) (by kernel_rfl) (by kernel_rfl) (fun _ _ _ _ h => h) (Zc (FieldT.mk Tryz.underlying100 rfl Tryz.sizeOf74 rfl) (Ev.t rfl) (i' := 1) rfl) rfl ?_; clear S a w; intro a w S)
 (refine h_y (i := 9) S (by repeat (first | exact List.Sublist.refl _ | exact List.nil_sublist _ | refine .cons_cons _ ?_ | refine .cons _ ?_)) rfl (by kernel_rfl) (by kernel_rfl) (by kernel_rfl) (fun _ _ _ _ h => h) (Zc (FieldT.mk Tryz.underlying74 rfl Tryz.sizeOf3 rfl) (Ev.t rfl) (i' := 1) rfl) rfl ?_; clear S a w; intro a w S)
 (refine h_y (i := 10) S (by repeat (first | exact List.Sublist.refl _ | exact List.nil_sublist _ | refine .cons_cons _ ?_ | refine .cons _ ?_)) rfl (by kernel_rfl) (by kernel_rfl) (by kernel_rfl) (fun _ _ _ _ h => h) (Zt ⟨Tryz.isAgg3, Tryz.sizeOf3⟩ (Ev.t rfl) (k := 0) rfl rfl) rfl ?_; clear S a w; intro a w S)
 (refine h_y (i := 12) S (by repeat (first | exact List.Sublist.refl _ | exact List.nil_sublist _ | refine .cons_cons _ ?_ | refine .cons _ ?_)) rfl (by kernel_rfl) (by kernel_rfl) (by kernel_rfl) (fun _ _ _ _ h => h) (Zc (FieldT.mk Tryz.underlying100 rfl Tryz.sizeOf74 rfl) (Ev.t rfl) (i' := 1) rfl) rfl ?_; clear S a w; intro a w S)
 (refine h_y (i := 13) S (by repeat (first | exact List.Sublist.refl _ | exact List.nil_sublist _ | refine .cons_cons _ ?_ | refine .cons _ ?_)) rfl (by kernel_rfl) (by kernel_rfl) (by kernel_rfl) (fun _ _ _ _ h => h) (Zc (FieldT.mk Tryz.underlying74 rfl Tryz.sizeOf3 rfl) (Ev.t rfl) (i' := 2) rfl) rfl ?_; clear S a w; intro a w S)
 (refine h_y (i := 14) S (by repeat (first | exact List.Sublist.refl _ | exact List.nil_sublist _ | refine .cons_cons _ ?_ | refine .cons _ ?_)) rfl (by kernel_rfl) (by kernel_rfl) (by kernel_rfl) (fun _ _ _ _ h => h) (Zt ⟨Tryz.isAgg3, Tryz.sizeOf3⟩ (Ev.t rfl) (k := 1) rfl rfl) rfl ?_; clear S a w; intro a w S)
 (refine h_y (i := 15) S (by repeat (first | exact List.Sublist.refl _ | exact List.nil_sublist _ | refine .cons_cons _ ?_ | refine .cons _ ?_)) rfl (by kernel_rfl) (by kernel_rfl) (by kernel_rfl) (fun _ _ _ _ h => h) (Zc (FieldT.mk Tryz.underlying100 rfl Tryz.sizeOf74 rfl) (Ev.t rfl) (i' := 1) rfl) rfl ?_; clear S a w; intro a w S)
 (refine h_y (i := 16) S (by repeat (first | exact List.Sublist.refl _ | exact List.nil_sublist _ | refine .cons_cons _ ?_ | refine .cons _ ?_)) rfl (by kernel_rfl) (by kernel_rfl) (by kernel_rfl) (fun _ _ _ _ h => h) (Zc (FieldT.mk Tryz.underlying74 rfl Tryz.sizeOf3 rfl) (Ev.t rfl) (i' := 2) rfl) rfl ?_; clear S a w; intro a w S)
 (refine h_y (i := 17) S (by repeat (first | exact List.Sublist.refl _ | exact List.nil_sublist _ | refine .cons_cons _ ?_ | refine .cons _ ?_)) rfl (by kernel_rfl) (by kernel_rfl) (by kernel_rfl) (fun _ _ _ _ h => h) (Zt ⟨Tryz.isAgg3, Tryz.sizeOf3⟩ (Ev.t rfl) (k := 0) rfl rfl) rfl ?_; clear S a w; intro a w S)
 (refine h_y (i := 19) S (by repeat (first | exact List.Sublist.refl _ | exact List.nil_sublist _ | refine .cons_cons _ ?_ | refine .cons _ ?_)) rfl (by kernel_rfl) (by kernel_rfl) (by kernel_rfl) (fun _ _ _ _ h => h) (Zc (FieldT.mk Tryz.underlying100 rfl Tryz.sizeOf74 rfl) (Ev.t rfl) (i' := 1) rfl) rfl ?_; clear S a w; intro a w S)
 (refine h_y (i := 20) S (by repeat (first | exact List.Sublist.refl _ | exact List.nil_sublist _ | refine .cons_cons _ ?_ | refine .cons _ ?_)) rfl (by kernel_rfl) (by kernel_rfl) (by kernel_rfl) (fun _ _ _ _ h => h) (Zc (FieldT.mk Tryz.underlying74 rfl Tryz.sizeOf3 rfl) (Ev.t rfl) (i' := 3) rfl) rfl ?_; clear S a w; intro a w S)
 (refine h_y (i := 21) S (by repeat (first | exact List.Sublist.refl _ | exact List.nil_sublist _ | refine .cons_cons _ ?_ | refine .cons _ ?_)) rfl (by kernel_rfl) (by kernel_rfl) (by kernel_rfl) (fun _ _ _ _ h => h) (Zt ⟨Tryz.isAgg3, Tryz.sizeOf3⟩ (Ev.t rfl) (k := 1) rfl rfl) rfl ?_; clear S a w; intro a w S)
 (refine h_y (i := 22) S (by repeat (first | exact List.Sublist.refl _ | exact List.nil_sublist _ | refine .cons_cons _ ?_ | refine .cons _ ?_)) rfl (by kernel_rfl) (by kernel_rfl) (by kernel_rfl) (fun _ _ _ _ h => h) (Zc (FieldT.mk Tryz.underlying100 rfl Tryz.sizeOf74 rfl) (Ev.t rfl) (i' := 1) rfl) rfl ?_; clear S a w; intro a w S)
 (refine h_y (i := 23) S (by repeat (first | exact List.Sublist.refl _ | exact List.nil_sublist _ | refine .cons_cons _ ?_ | refine .cons _ ?_)) rfl (by kernel_rfl) (by kernel_rfl) (by kernel_rfl) (fun _ _ _ _ h => h) (Zc (FieldT.mk Tryz.underlying74 rfl Tryz.sizeOf3 rfl) (Ev.t rfl) (i' := 3) rfl) rfl ?_; clear S a w; intro a w S)
 (refine h_y (i := 24) S (by repeat (first | exact List.Sublist.refl _ | exact List.nil_sublist _ | refine .cons_cons _ ?_ | refine .cons _ ?_)) rfl (by kernel_rfl) (by kernel_rfl) (by kernel_rfl) (fun _ _ _ _ h => h) (Zt ⟨Tryz.isAgg3, Tryz.sizeOf3⟩ (Ev.t rfl) (k := 0) rfl rfl) rfl ?_; clear S a w; intro a w S)
 (refine h_q (i := 4) S (by repeat (first | exact List.Sublist.refl _ | exact List.nil_sublist _ | refine .cons_cons _ ?_ | refine .cons _ ?_)) rfl (by kernel_rfl) (Zf Tryz.call131 (EvL.cons (Ev.t rfl) (EvL.cons (Ev.t rfl) EvL.nil)) (fun hp w W => c131 _ _ _)) rfl ?_; clear S a w; intro a w S)
 (refine h_q (i := 11) S (by repeat (first | exact List.Sublist.refl _ | exact List.nil_sublist _ | refine .cons_cons _ ?_ | refine .cons _ ?_)) rfl (by kernel_rfl) (Zf Tryz.call132 (EvL.cons (Ev.t rfl) (EvL.cons (Ev.t rfl) EvL.nil)) (fun hp w W => c132 _ _ _)) rfl ?_; clear S a w; intro a w S)
 (refine h_q (i := 18) S (by repeat (first | exact List.Sublist.refl _ | exact List.nil_sublist _ | refine .cons_cons _ ?_ | refine .cons _ ?_)) rfl (by kernel_rfl) (Zf Tryz.call132 (EvL.cons (Ev.t rfl) (EvL.cons (Ev.t rfl) EvL.nil)) (fun hp w W => c132 _ _ _)) rfl ?_; clear S a w; intro a w S)
 (refine h_q (i := 25) S (by repeat (first | exact List.Sublist.refl _ | exact List.nil_sublist _ | refine .cons_cons _ ?_ | refine .cons _ ?_)) rfl (by kernel_rfl) (Zf Tryz.call132 (EvL.cons (Ev.t rfl) (EvL.cons (Ev.t rfl) EvL.nil)) (fun hp w W => c132 _ _ _)) rfl ?_; clear S a w; intro a w S)
 (refine h_m (i := 26) rfl (by kernel_rfl) (Ww (ps := [(0, Go.Operand.tmp 9), (1, Go.Operand.tmp 16), (2, Go.Operand.tmp 23), (3, Go.Operand.tmp 30)]) (us := [_, _, _, _]) S Tryz.underlying202 Tryz.sizeOf3 Tryz.zeroValue3 rfl rfl (EvL.cons (Ev.t rfl) (EvL.cons (Ev.t rfl) (EvL.cons (Ev.t rfl) (EvL.cons (Ev.t rfl) EvL.nil)))) rfl rfl ?_); clear S a w; intro g3 a w S; refine h_on S _ (by repeat (first | exact List.Sublist.refl _ | exact List.nil_sublist _ | refine .cons_cons _ ?_ | refine .cons _ ?_)) (List.Sublist.refl _) ?_)
 (refine h_q (i := 27) S (by repeat (first | exact List.Sublist.refl _ | exact List.nil_sublist _ | refine .cons_cons _ ?_ | refine .cons _ ?_)) rfl (by kernel_rfl) (Zf Tryz.call130 (EvL.cons (Ev.t rfl) EvL.nil) (fun hp w W => e130 _ _ _ _ _ _ (by exact Wd.cell W (k := 0) rfl rfl) (by exact Wd.cell W (k := 0) rfl rfl) (by exact Wd.cell W (k := 0) rfl rfl) (by exact Wd.cell W (k := 0) rfl rfl))) rfl ?_; clear S a w; intro a w S)
 (refine h_y (i := 28) S (by repeat (first | exact List.Sublist.refl _ | exact List.nil_sublist _ | refine .cons_cons _ ?_ | refine .cons _ ?_)) rfl (by kernel_rfl) (by kernel_rfl) (by kernel_rfl) (fun _ _ _ _ h => h) (Yi (Ev.t rfl)) rfl ?_; clear S a w; intro a w S)
 refine Xf (by kernel_rfl) ?_
 (refine (Za (hK1 _ _ ?_)); clear hK1)
 refine wp_ret ?_
 refine Zm S (results1 S Tryz.results111 (Rv.tmp rfl)) ?_
 exact ⟨rfl, S.wd.below⟩
end Go.Proofs.YtakpdbmdfnialaaGreat.Tk
namespace Go.Fw
open Go.RowKit Go.Sort Go.Proofs Go.Shelf
theorem swoA : SWO (ltOf fun x y : MEnt => ordA x.1 y.1) := by
 have e : (ltOf fun x y : MEnt => ordA x.1 y.1) = ltOf fun x y : MEnt => ordE x.1 y.1 := by
   funext x y
   unfold ltOf
   exact decide_eq_decide.2 (by rw [ordA_iff, ordE_iff])
 rw [e]
 exact swoE
end Go.Fw
namespace Go.Proofs.YtakpdbmdfnialaaGreat
open Go.Fw Go.Proofs Go.RowKit Go.Sort Go.Proofs.Tryz
theorem ordTA (W : World) (x y : MEnt) : Calls Tryz.prog 111 #[.agg (MEnt.enc x).toArray, .agg (MEnt.enc y).toArray] W fun e w' => e = .returned (.int .i64 (ordA x.1 y.1)) ∧ Go.Ft.Bel W.heap.size W w' := by
 obtain ⟨⟨s, ⟨a, b, c⟩, q, p⟩, hx⟩ := x
 obtain ⟨⟨s', ⟨a', b', c'⟩, q', p'⟩, hy⟩ := y
 exact Tk.c111 W ⟨s, ⟨a, b, c⟩, q, p⟩ ⟨s', ⟨a', b', c'⟩, q', p'⟩
theorem o110 {w0 w : World} {L : List Chunk} {A : Option Addr} {cap : Nat} {l r : List Ent} (W : Wd w0 (rowOf 100 6 Ent.enc A cap l :: L) w) (hm : ∀ x ∈ l, mayD x.dot = true) (hn : l.length ≤ 4194304)
   (hd : (l.map (·.dot)).Nodup) (hr : r.Pairwise ltE) (hlr : ∀ x, x ∈ r ↔ x ∈ l) :
   RetsO Tryz.prog 110 #[.slice A l.length cap, .func (.func 111) #[] #[]] w0 w fun v L' => v = .tuple #[] ∧ l.length = r.length ∧ L' = rowOf 100 6 Ent.enc A cap r :: L := by
 obtain ⟨ls, rfl⟩ : ∃ ls : List MEnt, ls.map (·.1) = l := ⟨l.pmap Subtype.mk hm, by simp [List.map_pmap]⟩
 have e1 : ∀ ls : List MEnt, rowOf 100 6 Ent.enc A cap (ls.map (·.1)) = rowOf 100 6 MEnt.enc A cap ls := fun ls => by
   unfold rowOf
   rw [encE_map, List.length_map]
 rw [e1] at W
 rw [List.length_map] at hn ⊢
 have h := sort_any Tryz.sortEnts 6 (by omega) isAgg100 sizeOf100 MEnt.enc (fun _ => rfl) (fun x => Ent.enc_one x.1) (fun x y => ordA x.1 y.1) swoA 111 call111
   (fun x y W => ordTA W x y) W hn
 refine Calls.mono h fun e w' ⟨v, L', he, W', l', hv, hp, hs, hL⟩ => ?_
 have hl : l'.map (·.1) = r := sortE (hp.map _) (by rw [List.pairwise_map]; exact hs.imp fun h => by rw [ordE_iff, ← ordA_iff]; exact h) hd hr hlr
 have hlen := hp.length_eq
 refine ⟨v, L', he, W', hv, ?_, ?_⟩
 · rw [← hl, List.length_map, hlen]
 · rw [hL, ← e1, hl]
end Go.Proofs.YtakpdbmdfnialaaGreat
namespace Go.Fw
def idxW {α : Type} (p : α → Bool) : Nat → List α → Int
 | _, [] => -1
 | k, y :: r => if p y then (k : Int) else idxW p (k + 1) r
theorem idxW_any {α : Type} (p : α → Bool) : ∀ (l : List α) (k : Nat), decide (0 ≤ idxW p k l) = l.any p
 | [], k => rfl
 | y :: r, k => by
   unfold idxW
   by_cases h : p y = true
   · rw [if_pos h, List.any_cons, h, Bool.true_or]
     exact decide_eq_true (by omega)
   · rw [if_neg h, idxW_any p r (k + 1), List.any_cons, Bool.eq_false_iff.2 h, Bool.false_or]
end Go.Fw
namespace Go.Proofs.YtakpdbmdfnialaaGreat
open Go.Fw Go.Proofs Go.RowKit Go.Proofs.Tryz
def ReadsV {α : Type} (enc : α → List Value) (w0 : World) (f : FuncId) (cs : List Value) (l : List α) (p : α → Bool) : Prop := ∀ w', Wd w0 [] w' → ∀ x ∈ l, Calls Tryz.prog f ([Value.agg (enc x).toArray] ++ cs).toArray w' fun e w'' => e = .returned (.bool (p x)) ∧ Bel w'.heap.size w' w''
end Go.Proofs.YtakpdbmdfnialaaGreat
