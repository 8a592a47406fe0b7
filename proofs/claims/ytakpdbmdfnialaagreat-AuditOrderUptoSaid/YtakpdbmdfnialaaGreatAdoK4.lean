/- Contracts and laws that the statement Ado leans on, part 4. -/
import Derived.Test.YtakpdbmdfnialaaGreatAdoK3
set_option linter.unusedVariables false
set_option linter.unusedSimpArgs false
set_option maxRecDepth 100000
set_option maxHeartbeats 4000000
namespace Go.Fw
open Go.RowKit
theorem Sl.len_is {α : Type} {enc : α → List Value} {size B : Nat} {w : World} {A : Option Addr} {l : List α} {n cap : Nat} (h : Sl enc size w B (.slice A n cap) l) : n = l.length := by
  obtain ⟨_, _, e, _⟩ := h
  simp only [Value.slice.injEq] at e
  exact e.2.1
theorem seen_is (l : List SUpd) (x : Upd) : decide (0 ≤ idxW (fun y : SUpd => decide (y.1.item = x.item) && y.1.seen.ctx.covers x.dot) 0 l) = seenB (l.map (·.1)) x := by
  rw [idxW_any]
  unfold seenB
  rw [List.any_map]
  rfl
end Go.Fw
namespace Go.Proofs.YtakpdbmdfnialaaGreat
open Go.Fw Go.Proofs Go.RowKit Go.Proofs.Tryz
abbrev kv143 : Dot → Value := fun d => .agg #[.int .i64 d.node, .int .i64 d.life, .int .i64 d.count]
abbrev vv143 : Unit → Value := fun _ => .agg #[]
theorem run_eqDot (a b : Dot) (w : World) : (Op.equal 74 (kv143 a) (kv143 b)).run Tryz.prog w = .ok (decide (a = b)) w := by
  have h := eq74 (x0 := a.node) (y0 := b.node) (x1 := a.life) (y1 := b.life) (x2 := a.count) (y2 := b.count)
  have e : decide (a.node = b.node ∧ a.life = b.life ∧ a.count = b.count) = decide (a = b) := decide_eq_decide.2 (by cases a; cases b; simp)
  rw [e] at h
  exact (h w).2
theorem ask_dotD (k : Dot) (β : Type) (vv : β → Value) (w : World) : ∀ (l : List (Dot × β)) (i : Nat), (Instr.findAsking 74 (kv143 k) (mL kv143 vv i l) i).run Tryz.prog w = .ok ((afind k i l).map fun p => (p.1, vv p.2)) w
  | [], i => by simp [mL, Instr.findAsking, afind]
  | (x, v) :: r, i => by
    simp only [mL, Instr.findAsking, Sem.run_bind, run_eqDot, Result.andThen_ok, afind]
    by_cases e : k = x
    · subst e
      simp
    · rw [if_neg e, decide_eq_false e]
      simpa using ask_dotD k β vv w r (i + 1)
theorem keyDot : KeyL kv143 Tryz.prog 74 := by
  refine ⟨fun k β vv l w => ?_, fun b k w => ?_, fun k => ?_, fun k k' e => ?_⟩
  · have h := ask_dotD k β vv w l 0
    cases l with
    | nil => simp [Instr.findKey, run_underlying underlying74, mL, Instr.findNow, afind]
    | cons p r => simp [Instr.findKey, run_underlying underlying74, mL, Instr.findNow, Instr.sameNow] at h ⊢; exact h
  · have hI : ∀ (n : Nat) (i : Int), (Instr.checkKey b (n + 1) 3 (.int .i64 i)).run Tryz.prog w = .ok () w := fun n i => by
      simp only [Instr.checkKey, Sem.run_bind, run_underlying underlying3, Result.andThen_ok]
      rfl
    have hc : (Instr.checkKey b (9998 + 1 + 1) 74 (kv143 k)).run Tryz.prog w = .ok () w := by
      rw [Instr.checkKey]
      simp only [Sem.run_bind, run_underlying underlying74, Result.andThen_ok]
      simp [part, isAgg3, hI]
    exact hc
  · have : Instr.sameBits (9999 + 1) (kv143 k) (kv143 k) = true := by simp [Instr.sameBits]
    exact this
  · cases k; cases k'; simp at e; simp [e]
theorem mapT143 : MapT kv143 vv143 Tryz.prog 143 () := mapT_mk underlying143 keyDot zeroValue144
theorem bld144 : BuildT Tryz.prog 144 [] [] := ⟨⟨_, zeroValue144, rfl⟩, _, underlying144, fun w => by simp⟩
theorem c39 (w0 : World) (v : Value) (l : List SUpd) (h : Sl SUpd.enc 10 w0 w0.heap.size v l) (hr : UpdsRd w0 l) (hn : l.length ≤ 1048576) (hB : RoomU (l.map (·.1))) :
    Rets Tryz.prog 39 #[v] w0 fun u L => ∃ A1 r1 A2 r2 A3 r3, u = .tuple #[.agg #[.slice A1 (meantK (l.map (·.1))).1.ents.length r1, .slice A2 (meantK (l.map (·.1))).1.ctx.marks.length r2, .slice A3 (meantK (l.map (·.1))).1.ctx.cloud.length r3], .int .i64 (meantK (l.map (·.1))).2] ∧
      L = [rowOf 100 6 Ent.enc A1 r1 (meantK (l.map (·.1))).1.ents, rowOf 30 3 Dot.enc A2 r2 (meantK (l.map (·.1))).1.ctx.marks, rowOf 74 3 Dot.enc A3 r3 (meantK (l.map (·.1))).1.ctx.cloud] := by
  have hs := h
  obtain ⟨A, cap, rfl, hl, hcap, hA⟩ := h
  have hUl : (l.map (·.1)).length = l.length := List.length_map ..
  have hUg : ∀ (i : Nat) (x : SUpd), l[i]? = some x → (l.map (·.1))[i]? = some x.1 := fun i x hx => by rw [List.getElem?_map, hx]; rfl
  have hUm : ∀ x ∈ l, x.1 ∈ l.map (·.1) := fun x hx => List.mem_map.2 ⟨x, hx, rfl⟩
  have hmet := met_fewer (l.map (·.1))
  rw [hUl] at hmet
  have hmd : (l.map (·.1)).map (·.dot) = l.map (fun x => x.1.dot) := by rw [List.map_map]; rfl
  unfold Go.Fw.Rets
  refine enter1 func39 rfl ntmps39 rfl fun a S => wp_seq_k fun _ hK1 => wp_region_lit (st_m (op_alloc S zeroValue37 (cs := _) rfl rfl fun g1 a w S => run S (.ac rfl <| .z) fun a w S => st_nil (then_normal (hK1 _ _ (wp_seq_k fun _ hK1 => wp_region_lit (st_m (op_makeMap kv143 vv143 S rfl fun g2 a w S => run S (.as rfl <| .z) fun a w S => st_nil (then_normal (hK1 _ _ (wp_seq_k fun _ hK1 => sg S (.mv rfl <| .ln underlying72 rfl <| .mc rfl <| .z) fun a w S => wp_block ?_))))))))))
  refine st_lpM S [22] (X := Nat) (fun q => [(22, true, .int .i64 (q : Int))]) (fun q => [.blk g2 (mapK kv143 vv143 (metD [] ((l.map (fun x => x.1.dot)).take q))), .blk g1 (.cells #[.slice none 0 0, .slice none 0 0, .slice none 0 0] 37)])
    (fun q => q ≤ l.length ∧ ∀ x ∈ l.take q, ∀ y, l[0]? = some y → x.1.key = y.1.key) (fun q => l.length - q) 0 ⟨Nat.zero_le _, by simp⟩ ?_
  clear S
  intro q a w ⟨hq, hsame⟩ S
  by_cases hlt : q < l.length
  · obtain ⟨gq, oq, x, rfl, hx, hd, hc⟩ := row_at hA hlt
    obtain ⟨gq', oq', y, e0, hy, hd0, hc0⟩ := row_at hA (show 0 < l.length by omega)
    cases e0
    have hme : (l.map (fun x => x.1.dot))[q]? = some x.1.dot := by rw [List.getElem?_map, hx]; rfl
    have hst := metD_take (m := []) hme
    generalize metD [] ((l.map (fun x => x.1.dot)).take q) = M at *
    have hz : oq + 0 * 10 = oq := by omega
    by_cases he : x.1.key = y.1.key
    · have rw_e : decide (x.1.key ≠ y.1.key) = false := decide_eq_false (fun h => h he)
      refine sg S (.lt (by omega) rfl rfl <| .z) fun a w S => wp_seq_k fun _ hK2 => st_then S (.t rfl) (wp_skip (then_normal (hK2 _ _ (wp_seq_k fun _ hK2 => wp_block (wp_seq_k fun _ hK3 => wp_region_lit (run S (.ix underlying72 sizeOf77 (by omega) rfl rfl <| .yy (ys_ldOA ⟨isAgg77, sizeOf77⟩ (.t rfl) (vs := [_, _, _, _, _, _, _, _, _, _]) rfl (fun _ => hc)) rfl <| .z) fun a w S => st_m (op_alloc S zeroValue77 (cs := _) rfl rfl fun g3 a w S => st_m (op_stW S sizeOf77 (.t rfl) (.t rfl) (k := 0) rfl rfl rfl (by simp [Value.oneCell']) fun a w S => st_nil (then_normal (hK3 _ _ (wp_seq_k fun _ hK3 => wp_region_lit (run S (.mv rfl <| .fa underlying77 sizeOf74 1 rfl rfl rfl <| .la gt74 0 rfl rfl rfl <| .yy (ys_bld (ps := []) (us := []) bld144 .nil rfl) rfl <| .z) fun a w S => st_m (op_mapUpd (k := x.1.dot) (v := ()) S mapT143 (.t rfl) (.t rfl) (.t rfl) (j := 1) rfl ?_)))))))))))))
      clear S a w
      intro a w S
      refine st_nil (then_normal (hK3 _ _ (wp_seq_k fun _ hK3 => st_quiet S (by kernel_rfl) (by kernel_rfl) fun a S => qrun S (.fa underlying77 sizeOf9 0 rfl rfl rfl <| .ld gt9 0 rfl rfl rfl <| .mv rfl <| .yy (ys_ixS (j := 0) underlying72 sizeOf77 (.t rfl) Ev.c (fun _ => by omega)) rfl <| .yy (ys_field (FieldT.mk underlying77 rfl sizeOf9 rfl) (.t rfl)) rfl <| .yy (ys_ldO ⟨isAgg9, sizeOf9⟩ (.t rfl) (fun _ => hc0 _ _ rfl)) rfl <| .yy (ys_neqStr (.t rfl) (.t rfl)) rfl <| .z) fun a S => ?_)))
      rw [rw_e] at S
      (refine q_nil ?_; intro w W; replace S := St.mk S W; clear W)
      refine then_normal (hK3 _ _ (st_else S (.t rfl) (wp_skip (in_normal (then_normal (hK2 _ _ (wp_region_lit (run S (.ad (by unfold I64; omega) rfl <| .mv rfl <| .z) fun a w S => st_nil (then_normal ?_)))))))))
      refine ⟨q + 1, ⟨by omega, fun z hz y' hy' => ?_⟩, by omega, by rw [hst]; exact S.pk⟩
      rw [List.take_add_one, hx, Option.toList_some] at hz
      rcases List.mem_append.1 hz with hz | hz
      · exact hsame z hz y' hy'
      · rw [List.mem_singleton.1 hz, he, Option.some.inj (hy.symm.trans hy')]
    · have rw_e : decide (x.1.key ≠ y.1.key) = true := decide_eq_true he
      have hk := meant_keys (U := l.map (·.1)) (fun h => he (h _ (hUm x (List.mem_of_getElem? hx)) _ (hUm y (List.mem_of_getElem? hy))))
      rw [hk]
      refine sg S (.lt (by omega) rfl rfl <| .z) fun a w S => wp_seq_k fun _ hK2 => st_then S (.t rfl) (wp_skip (then_normal (hK2 _ _ (wp_seq_k fun _ hK2 => wp_block (wp_seq_k fun _ hK3 => wp_region_lit (run S (.ix underlying72 sizeOf77 (by omega) rfl rfl <| .yy (ys_ldOA ⟨isAgg77, sizeOf77⟩ (.t rfl) (vs := [_, _, _, _, _, _, _, _, _, _]) rfl (fun _ => hc)) rfl <| .z) fun a w S => st_m (op_alloc S zeroValue77 (cs := _) rfl rfl fun g3 a w S => st_m (op_stW S sizeOf77 (.t rfl) (.t rfl) (k := 0) rfl rfl rfl (by simp [Value.oneCell']) fun a w S => st_nil (then_normal (hK3 _ _ (wp_seq_k fun _ hK3 => wp_region_lit (run S (.mv rfl <| .fa underlying77 sizeOf74 1 rfl rfl rfl <| .la gt74 0 rfl rfl rfl <| .yy (ys_bld (ps := []) (us := []) bld144 .nil rfl) rfl <| .z) fun a w S => st_m (op_mapUpd (k := x.1.dot) (v := ()) S mapT143 (.t rfl) (.t rfl) (.t rfl) (j := 1) rfl ?_)))))))))))))
      clear S a w
      intro a w S
      refine st_nil (then_normal (hK3 _ _ (wp_seq_k fun _ hK3 => st_quiet S (by kernel_rfl) (by kernel_rfl) fun a S => qrun S (.fa underlying77 sizeOf9 0 rfl rfl rfl <| .ld gt9 0 rfl rfl rfl <| .mv rfl <| .yy (ys_ixS (j := 0) underlying72 sizeOf77 (.t rfl) Ev.c (fun _ => by omega)) rfl <| .yy (ys_field (FieldT.mk underlying77 rfl sizeOf9 rfl) (.t rfl)) rfl <| .yy (ys_ldO ⟨isAgg9, sizeOf9⟩ (.t rfl) (fun _ => hc0 _ _ rfl)) rfl <| .yy (ys_neqStr (.t rfl) (.t rfl)) rfl <| .z) fun a S => ?_)))
      rw [rw_e] at S
      (refine q_nil ?_; intro w W; replace S := St.mk S W; clear W)
      refine then_normal (hK3 _ _ (st_then S (.t rfl) (wp_seq_k fun _ hK3 => wp_region_lit (run S (.yy (ys_bld (ps := []) (us := [_, _, _]) bld37 .nil rfl) rfl <| .z) fun a w S => st_m (op_stW S sizeOf37 (.t rfl) (.t rfl) (k := 2) rfl rfl rfl (by simp [Value.oneCell']) fun a w S => run S (.ac rfl <| .z) fun a w S => st_nil (then_normal (hK3 _ _ (wp_ret (in_ret (then_ret (then_ret (in_ret (then_ret (st_ret S (results2 S results39 (Rv.cell (k := 2) ⟨isAgg37, sizeOf37⟩ rfl rfl rfl) (Rv.tmp rfl)) ?_))))))))))))))
      replace S := ((S.nil_ 74 3 Dot.enc none).nil_ 30 3 Dot.enc none).nil_ 100 6 Ent.enc none
      exact ⟨_, _, rfl, S.wd.pk, none, 0, none, 0, none, 0, rfl, rfl⟩
  obtain rfl : q = l.length := by omega
  have hkeys : ∀ u ∈ l.map (·.1), ∀ v ∈ l.map (·.1), u.key = v.key := fun u hu v hv => by
    obtain ⟨x, hx, rfl⟩ := List.mem_map.1 hu
    obtain ⟨y, hy, rfl⟩ := List.mem_map.1 hv
    rw [List.take_length] at hsame
    have h0 : 0 < l.length := List.length_pos_of_mem hx
    exact (hsame x hx _ (List.getElem?_eq_getElem h0)).trans (hsame y hy _ (List.getElem?_eq_getElem h0)).symm
  rw [List.take_of_length_le (by simp)] at S
  rw [hmd] at hmet
  by_cases hone : oneU (l.map (·.1))
  rotate_left
  · have rw_m : decide (((metD [] (l.map fun x => x.1.dot)).length : Int) < (l.length : Int)) = true := by
      rw [hmet, decide_eq_false (show ¬ (l.map fun x => x.1.dot).Nodup from fun e => hone (by unfold oneU; rw [hmd]; exact e))]; rfl
    have hk := meant_dots hone
    refine sg S (.ge (by omega) rfl rfl <| .z) fun a w S => wp_seq_k fun _ hK2 => st_else S (.t rfl) (wp_exit (then_exit (then_exit (in_here (then_normal (hK1 _ _ (wp_seq_k fun _ hK1 => wp_seq_k fun _ hK3 => wp_region_lit (run S (.mv rfl <| .yy (ys_lenMap underlying143 (.t rfl) (j := 0) rfl) rfl <| .mv rfl <| .ln underlying72 rfl <| .yy (ys_lss (.t rfl) (.t rfl)) rfl <| .z) fun a w S => ?_))))))))
    rw [rw_m] at S
    refine st_nil (then_normal (hK3 _ _ (st_then S (.t rfl) (wp_seq_k fun _ hK3 => wp_region_lit (run S (.yy (ys_bld (ps := []) (us := [_, _, _]) bld37 .nil rfl) rfl <| .z) fun a w S => st_m (op_stW S sizeOf37 (.t rfl) (.t rfl) (k := 1) rfl rfl rfl (by simp [Value.oneCell']) fun a w S => run S (.ac rfl <| .z) fun a w S => st_nil (then_normal (hK3 _ _ (wp_ret (then_ret (st_ret S (results2 S results39 (Rv.cell (k := 1) ⟨isAgg37, sizeOf37⟩ rfl rfl rfl) (Rv.tmp rfl)) ?_)))))))))))
    rw [hk]
    replace S := ((S.nil_ 74 3 Dot.enc none).nil_ 30 3 Dot.enc none).nil_ 100 6 Ent.enc none
    exact ⟨_, _, rfl, S.wd.pk, none, 0, none, 0, none, 0, rfl, rfl⟩
  have rw_m : decide (((metD [] (l.map fun x => x.1.dot)).length : Int) < (l.length : Int)) = false := by
    rw [hmet, decide_eq_true (show (l.map fun x => x.1.dot).Nodup from by unfold oneU at hone; rw [hmd] at hone; exact hone)]; rfl
  have hokU : okU (l.map (·.1)) := ⟨hone, hkeys⟩
  clear hsame hq
  refine sg S (.ge (by omega) rfl rfl <| .z) fun a w S => wp_seq_k fun _ hK2 => st_else S (.t rfl) (wp_exit (then_exit (then_exit (in_here (then_normal (hK1 _ _ (wp_seq_k fun _ hK1 => wp_seq_k fun _ hK3 => wp_region_lit (run S (.mv rfl <| .yy (ys_lenMap underlying143 (.t rfl) (j := 0) rfl) rfl <| .mv rfl <| .ln underlying72 rfl <| .yy (ys_lss (.t rfl) (.t rfl)) rfl <| .z) fun a w S => ?_))))))))
  rw [rw_m] at S
  refine st_nil (then_normal (hK3 _ _ (st_else S (.t rfl) (wp_skip (then_normal (hK1 _ _ (wp_seq_k fun _ hK1 => sg S (.mv rfl <| .ln underlying72 rfl <| .mc rfl <| .z) fun a w S => wp_block ?_)))))))
  clear rw_m
  refine st_lpM S [47] (X := Nat) (fun q => [(47, true, .int .i64 (q : Int))]) (fun q => [.blk g1 (.cells #[.slice none 0 0, .slice none 0 0, .slice none 0 0] 37)])
    (fun q => q ≤ l.length ∧ firstE ((l.map (·.1)).drop q) = firstE (l.map (·.1))) (fun q => l.length - q) 0 ⟨Nat.zero_le _, rfl⟩ ?_
  clear S
  intro q a w ⟨hq, hfe⟩ S
  by_cases hlt : q < l.length
  · obtain ⟨gq, oq, x, rfl, hx, hd, hc⟩ := row_at hA hlt
    have r1 := (hr x (List.mem_of_getElem? hx)).ents
    have r2 := (hr x (List.mem_of_getElem? hx)).ctx
    rw [firstE_at (hUg q x hx)] at hfe
    by_cases hm : mayE x.1 = 0
    · have rw_hm := hm
      rw [if_pos hm] at hfe
      refine sg S (.lt (by omega) rfl rfl <| .z) fun a w S => wp_seq_k fun _ hK3 => st_then S (.t rfl) (wp_skip (then_normal (hK3 _ _ (wp_seq_k fun _ hK3 => wp_block (wp_seq_k fun _ hK4 => wp_region_lit (run S (.ix underlying72 sizeOf77 (by omega) rfl rfl <| .yy (ys_ldOA ⟨isAgg77, sizeOf77⟩ (.t rfl) (vs := [_, _, _, _, _, _, _, _, _, _]) rfl (fun _ => hc)) rfl <| .z) fun a w S => st_m (op_alloc S zeroValue77 (cs := _) rfl rfl fun g3 a w S => st_m (op_stW S sizeOf77 (.t rfl) (.t rfl) (k := 0) rfl rfl rfl (by simp [Value.oneCell']) fun a w S => st_nil (then_normal (hK4 _ _ (wp_seq_k fun _ hK4 => wp_region_lit (run S (.la gt77 0 rfl rfl rfl <| .xx (ys_call call106 (.cons (.t rfl) .nil) (fun hp w W => c106 _ _ _ _ _ (by exact .old W (by assumption)) (by exact .old W (by assumption)))) rfl <| .z) fun a w S => ?_))))))))))))
      rw [rw_hm] at S
      refine run S (.as rfl <| .z) fun a w S => st_nil (then_normal (hK4 _ _ (sg S (.mv rfl <| .yy (ys_F (by omega) (ys_neq (.t rfl) Ev.c)) rfl <| .z) fun a w S => st_else S (.t rfl) (wp_skip (in_normal (then_normal (hK3 _ _ (wp_region_lit (run S (.ad (by unfold I64; omega) rfl <| .mv rfl <| .z) fun a w S => st_nil (then_normal ?_))))))))))
      exact ⟨q + 1, ⟨by omega, hfe⟩, by omega, S.pk⟩
    · have rw_hm : decide (mayE x.1 ≠ 0) = true := decide_eq_true hm
      rw [if_neg hm] at hfe
      have hk := meant_first hokU (by rw [← hfe]; exact hm)
      rw [← hfe] at hk
      refine sg S (.lt (by omega) rfl rfl <| .z) fun a w S => wp_seq_k fun _ hK3 => st_then S (.t rfl) (wp_skip (then_normal (hK3 _ _ (wp_seq_k fun _ hK3 => wp_block (wp_seq_k fun _ hK4 => wp_region_lit (run S (.ix underlying72 sizeOf77 (by omega) rfl rfl <| .yy (ys_ldOA ⟨isAgg77, sizeOf77⟩ (.t rfl) (vs := [_, _, _, _, _, _, _, _, _, _]) rfl (fun _ => hc)) rfl <| .z) fun a w S => st_m (op_alloc S zeroValue77 (cs := _) rfl rfl fun g3 a w S => st_m (op_stW S sizeOf77 (.t rfl) (.t rfl) (k := 0) rfl rfl rfl (by simp [Value.oneCell']) fun a w S => st_nil (then_normal (hK4 _ _ (sg S (.la gt77 0 rfl rfl rfl <| .xx (ys_call call106 (.cons (.t rfl) .nil) (fun hp w W => c106 _ _ _ _ _ (by exact .old W (by assumption)) (by exact .old W (by assumption)))) rfl <| .as rfl <| .z) fun a w S => sg S (.mv rfl <| .yy (ys_T (by omega) (ys_neq (.t rfl) Ev.c)) rfl <| .z) fun a w S => st_then S (.t rfl) (wp_seq_k fun _ hK4 => wp_region_lit (run S (.yy (ys_bld (ps := []) (us := [_, _, _]) bld37 .nil rfl) rfl <| .mv rfl <| .z) fun a w S => st_m (op_stW S sizeOf37 (.t rfl) (.t rfl) (k := 1) rfl rfl rfl (by simp [Value.oneCell']) fun a w S => run S (.as rfl <| .z) fun a w S => st_nil (then_normal (hK4 _ _ (wp_ret ?_)))))))))))))))))
      refine in_ret (then_ret (then_ret (in_ret (then_ret (st_ret S (results2 S results39 (Rv.cell (k := 1) ⟨isAgg37, sizeOf37⟩ rfl rfl rfl) (Rv.tmp rfl)) ?_)))))
      rw [hk]
      replace S := ((S.nil_ 74 3 Dot.enc none).nil_ 30 3 Dot.enc none).nil_ 100 6 Ent.enc none
      exact ⟨_, _, rfl, S.wd.pk, none, 0, none, 0, none, 0, rfl, rfl⟩
  obtain rfl : q = l.length := by omega
  rw [List.drop_of_length_le (by simp)] at hfe
  have hfe0 : firstE (l.map (·.1)) = 0 := hfe.symm
  have hmay := firstE_ok.1 hfe0
  obtain ⟨hB1, hB2⟩ := hB hmay
  clear hfe hq
  refine sg S (.ge (by omega) rfl rfl <| .z) fun a w S => wp_seq_k fun _ hK3 => st_else S (.t rfl) (wp_exit (then_exit (then_exit (in_here (then_normal (hK1 _ _ (wp_seq_k fun _ hK1 => wp_region_lit (st_m (op_alloc S zeroValue37 (cs := _) rfl rfl fun g3 a w S => st_nil (then_normal (hK1 _ _ (sg S (.ac rfl <| .z) fun a w S => sg S (.ac rfl <| .z) fun a w S => wp_seq_k fun _ hK1 => sg S (.mv rfl <| .ln underlying72 rfl <| .mc rfl <| .z) fun a w S => wp_block ?_))))))))))))
  replace S := ((S.nil_ 74 3 Dot.enc none).nil_ 30 3 Dot.enc none).nil_ 100 6 Ent.enc none
  replace S : St 128 w0 [(60, true, .int .i64 0), (59, true, .int .i64 (l.length : Int)), (58, true, .slice A l.length cap), (12, true, .slice none 0 0), (11, true, .slice none 0 0), (10, true, .pointer (some ⟨g3, 0, none⟩)), (3, true, .int .i64 0), (2, true, .pointer (some ⟨g1, 0, none⟩)), (0, true, .slice A l.length cap)]
    [rowOf 100 6 Ent.enc none 0 [], rowOf 30 3 Dot.enc none 0 [], rowOf 74 3 Dot.enc none 0 [], .blk g3 (.cells #[.slice none 0 0, .slice none 0 0, .slice none 0 0] 37), .blk g1 (.cells #[.slice none 0 0, .slice none 0 0, .slice none 0 0] 37)] _ _ := S.pk
  refine st_lpM S [11, 12, 60] (X := Nat × (Option Addr × Nat) × (Option Addr × Nat) × (Option Addr × Nat)) (fun q => [(11, true, .slice q.2.1.1 (marksU ((l.map (·.1)).take q.1)).length q.2.1.2), (12, true, .slice q.2.2.1.1 (dotsU ((l.map (·.1)).take q.1)).length q.2.2.1.2), (60, true, .int .i64 (q.1 : Int))])
    (fun q => [rowOf 100 6 Ent.enc q.2.2.2.1 q.2.2.2.2 (keptU (l.map (·.1)) ((l.map (·.1)).take q.1)), rowOf 30 3 Dot.enc q.2.1.1 q.2.1.2 (marksU ((l.map (·.1)).take q.1)), rowOf 74 3 Dot.enc q.2.2.1.1 q.2.2.1.2 (dotsU ((l.map (·.1)).take q.1)),
      .blk g3 (.cells #[.slice q.2.2.2.1 (keptU (l.map (·.1)) ((l.map (·.1)).take q.1)).length q.2.2.2.2, .slice none 0 0, .slice none 0 0] 37), .blk g1 (.cells #[.slice none 0 0, .slice none 0 0, .slice none 0 0] 37)])
    (fun q => q.1 ≤ l.length) (fun q => l.length - q.1) (0, (none, 0), (none, 0), (none, 0)) (Nat.zero_le _) ?_
  clear S
  rintro ⟨q, ⟨Am, cm⟩, ⟨Ad, cd⟩, ⟨Ae, ce⟩⟩ a w hq S
  dsimp only at hq S
  have hml := marks_le (l.map (·.1)) q
  have hdl := dots_le (l.map (·.1)) q
  have hel := kept_len (l.map (·.1)) ((l.map (·.1)).take q)
  rw [List.length_take, hUl] at hel
  by_cases hlt : q < l.length
  · obtain ⟨gq, oq, x, rfl, hx, hd, hc⟩ := row_at hA hlt
    have r1 := (hr x (List.mem_of_getElem? hx)).ents
    have r3 := (hr x (List.mem_of_getElem? hx)).marks
    have r4 := (hr x (List.mem_of_getElem? hx)).cloud
    have rw_n2 : x.2.n2 = x.1.seen.ctx.marks.length := Sl.len_is r3
    have rw_n3 : x.2.n3 = x.1.seen.ctx.cloud.length := Sl.len_is r4
    rw [rw_n2] at r3
    rw [rw_n3] at r4
    have hxo := mayE_ok (hmay _ (hUm x (List.mem_of_getElem? hx)))
    have hxl := can_len hxo.seen.ctx
    have hst1 := marks_take (hUg q x hx)
    have hst2 := dots_take (hUg q x hx)
    have hst3 := kept_take (U := l.map (·.1)) (hUg q x hx)
    have rw_sb := seen_is l x.1
    generalize marksU ((l.map (·.1)).take q) = M at *
    generalize dotsU ((l.map (·.1)).take q) = D at *
    generalize keptU (l.map (·.1)) ((l.map (·.1)).take q) = E at *
    have halt_d := trivial
    refine sg S (.lt (by omega) rfl rfl <| .z) fun a w S => wp_seq_k fun _ hK4 => st_then S (.t rfl) (wp_skip (then_normal (hK4 _ _ (wp_seq_k fun _ hK4 => wp_block (wp_seq_k fun _ hK5 => wp_region_lit (run S (.ix underlying72 sizeOf77 (by omega) rfl rfl <| .yy (ys_ldOA ⟨isAgg77, sizeOf77⟩ (.t rfl) (vs := [_, _, _, _, _, _, _, _, _, _]) rfl (fun _ => hc)) rfl <| .z) fun a w S => ?_))))))
    rw [rw_n2] at S
    rw [rw_n3] at S
    refine st_m (op_alloc S zeroValue77 (cs := _) rfl rfl fun g4 a w S => st_m (op_stW S sizeOf77 (.t rfl) (.t rfl) (k := 0) rfl rfl rfl (by simp [Value.oneCell']) fun a w S => st_nil (then_normal (hK5 _ _ (wp_seq_k fun _ hK5 => wp_region_lit (run S (.mv rfl <| .fa underlying77 sizeOf37 7 rfl rfl rfl <| .fa underlying37 sizeOf35 8 rfl rfl rfl <| .fa underlying35 sizeOf32 8 rfl rfl rfl <| .ld gt32 0 rfl rfl rfl <| .z) fun a w S => st_m (op_extend _ S underlying32 underlying32 (.inr ⟨_, rfl⟩) inf30 rfl (k := 2) rfl (.t rfl) (.t rfl) (Src.sl (Sl.old S.wd r3) (by decide) Go.Fw.Dot.enc_len Go.Fw.Dot.enc_one) (by first | omega | (simp only [List.length_append, List.length_cons, List.length_nil]; omega) | (simp; omega)) rfl rfl rfl fun A1 cap1 a w S => run S (.as rfl <| .z) fun a w S => st_nil (then_normal (hK5 _ _ (wp_seq_k fun _ hK5 => ?_))))))))))
    clear halt_d
    refine Code.wp_mono (Q := fun e a w => match e with
      | .normal => ∃ Bd bd, St 128 w0 [(12, true, .slice Bd ((D ++ x.1.seen.ctx.cloud) ++ [x.1.dot]).length bd), (11, true, .slice A1 (M ++ x.1.seen.ctx.marks).length cap1), (14, true, .pointer (some ⟨g4, 0, none⟩)), (60, true, .int .i64 (q : Int)), (59, true, .int .i64 (l.length : Int)), (58, true, .slice (some ⟨gq, oq, none⟩) l.length cap), (10, true, .pointer (some ⟨g3, 0, none⟩)), (3, true, .int .i64 0), (2, true, .pointer (some ⟨g1, 0, none⟩)), (0, true, .slice (some ⟨gq, oq, none⟩) l.length cap)]
          [rowOf 74 3 Dot.enc Bd bd ((D ++ x.1.seen.ctx.cloud) ++ [x.1.dot]), .blk g4 (.cells (Upd.enc x.1 (.slice x.2.a1 x.2.n1 x.2.c1) (.slice x.2.a2 x.1.seen.ctx.marks.length x.2.c2) (.slice x.2.a3 x.1.seen.ctx.cloud.length x.2.c3)).toArray 77), rowOf 100 6 Ent.enc Ae ce E, rowOf 30 3 Dot.enc A1 cap1 (M ++ x.1.seen.ctx.marks),
            .blk g3 (.cells #[.slice Ae E.length ce, .slice none 0 0, .slice none 0 0] 37), .blk g1 (.cells #[.slice none 0 0, .slice none 0 0, .slice none 0 0] 37)] a w
      | _ => False) (fun e a w qq => ?_) ?_
    rotate_left
    · have hold_r := trivial
      have lr_nil := trivial
      refine h_begin S (by kernel_rfl) [] fun a w S => hy 0 S rfl (ys_move (.t rfl)) rfl fun a w S => hy 1 S rfl (ys_fieldN (FieldT.mk underlying77 rfl sizeOf37 rfl) (.t rfl) (i' := 7) rfl) rfl fun a w S => hy 2 S rfl (ys_fieldN (FieldT.mk underlying37 rfl sizeOf35 rfl) (.t rfl) (i' := 8) rfl) rfl fun a w S => hy 3 S rfl (ys_fieldN (FieldT.mk underlying35 rfl sizeOf33 rfl) (.t rfl) (i' := 9) rfl) rfl fun a w S => ?_
      refine hy 6 S rfl (ys_fieldN (FieldT.mk underlying77 rfl sizeOf74 rfl) (.t rfl) (i' := 1) rfl) rfl fun a w S => ?_
      refine h_split (i := 4) (j := 7) (by kernel_rfl) rfl rfl ?_ ?_
      (refine op_y S (Yr.ys (ys_ld ⟨isAgg33, sizeOf33⟩ (.t rfl) (k := 0) rfl rfl)) rfl ?_; clear S a w; intro a w S; refine h_n1 S ?_)
      refine h_split (i := 5) (j := 7) (by kernel_rfl) rfl rfl ?_ ?_
      (refine op_extend _ S underlying33 underlying33 (.inr ⟨_, rfl⟩) inf74 rfl (k := 3) rfl (.t rfl) (.t rfl) (Src.sl (Sl.old S.wd r4) (by decide) Go.Fw.Dot.enc_len Go.Fw.Dot.enc_one) (by first | omega | (simp only [List.length_append, List.length_cons, List.length_nil]; omega) | (simp; omega)) rfl rfl rfl ?_; clear S a w; intro A2 cap2 a w S; refine h_n1 S ?_)
      refine h_q (i := 7) S (by repeat (first | exact List.Sublist.refl _ | exact List.nil_sublist _ | refine .cons_cons _ ?_ | refine .cons _ ?_)) rfl (by kernel_rfl) (Yr.ys (ys_ldA ⟨isAgg74, sizeOf74⟩ (.t rfl) (k := 0) rfl rfl)) rfl fun a w S => ?_
      (refine h_m (i := 8) rfl (by kernel_rfl) (op_bslice1 S underlying33 inf74 rfl rfl rfl (.t rfl) rfl rfl rfl ?_); clear S a w; intro g5 a w S; refine h_n1 S ?_)
      (refine h_m (i := 9) rfl (by kernel_rfl) (op_push S underlying33 inf74 rfl (k := 4) (j := 0) rfl (.t rfl) (.t rfl) rfl Go.Fw.Dot.mkEnc rfl rfl (by first | omega | (simp only [List.length_append, List.length_cons, List.length_nil]; omega)) rfl rfl rfl ?_); clear S a w; intro A3 cap3 a w S; refine h_n1 S ?_)
      refine hy 10 S rfl (ys_assign (.t rfl)) rfl fun a w S => h_done (by kernel_rfl) ?_
      rotate_left
      (refine op_y S (Yr.ys (ys_ldA ⟨isAgg74, sizeOf74⟩ (.t rfl) (k := 0) rfl rfl)) rfl ?_; clear S a w; intro a w S; refine h_n1 S ?_)
      refine h_split (i := 5) (j := 8) (by kernel_rfl) rfl rfl ?_ ?_
      (refine op_extend _ S underlying33 underlying33 (.inr ⟨_, rfl⟩) inf74 rfl (k := 3) rfl (.t rfl) (.t rfl) (Src.sl (Sl.old S.wd r4) (by decide) Go.Fw.Dot.enc_len Go.Fw.Dot.enc_one) (by first | omega | (simp only [List.length_append, List.length_cons, List.length_nil]; omega) | (simp; omega)) rfl rfl rfl ?_; clear S a w; intro A2 cap2 a w S; refine h_n1 S ?_)
      (refine h_m (i := 8) rfl (by kernel_rfl) (op_bslice1 S underlying33 inf74 rfl rfl rfl (.t rfl) rfl rfl rfl ?_); clear S a w; intro g5 a w S; refine h_n1 S ?_)
      (refine h_m (i := 9) rfl (by kernel_rfl) (op_push S underlying33 inf74 rfl (k := 4) (j := 0) rfl (.t rfl) (.t rfl) rfl Go.Fw.Dot.mkEnc rfl rfl (by first | omega | (simp only [List.length_append, List.length_cons, List.length_nil]; omega)) rfl rfl rfl ?_); clear S a w; intro A3 cap3 a w S; refine h_n1 S ?_)
      refine hy 10 S rfl (ys_assign (.t rfl)) rfl fun a w S => h_done (by kernel_rfl) ?_
      rotate_left
      (refine op_bslice1 S underlying33 inf74 rfl rfl rfl (.t rfl) rfl rfl rfl ?_; clear S a w; intro g5 a w S; refine h_n1 S ?_)
      (refine h_m (i := 5) rfl (by kernel_rfl) (op_extend _ S underlying33 underlying33 (.inr ⟨_, rfl⟩) inf74 rfl (k := 4) rfl (.t rfl) (.t rfl) (Src.sl (Sl.old S.wd r4) (by decide) Go.Fw.Dot.enc_len Go.Fw.Dot.enc_one) (by first | omega | (simp only [List.length_append, List.length_cons, List.length_nil]; omega) | (simp; omega)) rfl rfl rfl ?_); clear S a w; intro A2 cap2 a w S; refine h_n1 S ?_)
      (refine h_m (i := 9) rfl (by kernel_rfl) (op_push S underlying33 inf74 rfl (k := 4) (j := 0) rfl (.t rfl) (.t rfl) rfl Go.Fw.Dot.mkEnc rfl rfl (by first | omega | (simp only [List.length_append, List.length_cons, List.length_nil]; omega)) rfl rfl rfl ?_); clear S a w; intro A3 cap3 a w S; refine h_n1 S ?_)
      refine hy 10 S rfl (ys_assign (.t rfl)) rfl fun a w S => h_done (by kernel_rfl) ?_
      rotate_left
      (refine op_y S (Yr.ys (ys_ldA ⟨isAgg74, sizeOf74⟩ (.t rfl) (k := 0) rfl rfl)) rfl ?_; clear S a w; intro a w S; refine h_n1 S ?_)
      refine h_split (i := 4) (j := 8) (by kernel_rfl) rfl rfl ?_ ?_
      (refine op_y S (Yr.ys (ys_ld ⟨isAgg33, sizeOf33⟩ (.t rfl) (k := 0) rfl rfl)) rfl ?_; clear S a w; intro a w S; refine h_n1 S ?_)
      refine h_split (i := 5) (j := 8) (by kernel_rfl) rfl rfl ?_ ?_
      (refine op_extend _ S underlying33 underlying33 (.inr ⟨_, rfl⟩) inf74 rfl (k := 3) rfl (.t rfl) (.t rfl) (Src.sl (Sl.old S.wd r4) (by decide) Go.Fw.Dot.enc_len Go.Fw.Dot.enc_one) (by first | omega | (simp only [List.length_append, List.length_cons, List.length_nil]; omega) | (simp; omega)) rfl rfl rfl ?_; clear S a w; intro A2 cap2 a w S; refine h_n1 S ?_)
      (refine h_m (i := 8) rfl (by kernel_rfl) (op_bslice1 S underlying33 inf74 rfl rfl rfl (.t rfl) rfl rfl rfl ?_); clear S a w; intro g5 a w S; refine h_n1 S ?_)
      (refine h_m (i := 9) rfl (by kernel_rfl) (op_push S underlying33 inf74 rfl (k := 4) (j := 0) rfl (.t rfl) (.t rfl) rfl Go.Fw.Dot.mkEnc rfl rfl (by first | omega | (simp only [List.length_append, List.length_cons, List.length_nil]; omega)) rfl rfl rfl ?_); clear S a w; intro A3 cap3 a w S; refine h_n1 S ?_)
      refine hy 10 S rfl (ys_assign (.t rfl)) rfl fun a w S => h_done (by kernel_rfl) ?_
      rotate_left
      (refine op_bslice1 S underlying33 inf74 rfl rfl rfl (.t rfl) rfl rfl rfl ?_; clear S a w; intro g5 a w S; refine h_n1 S ?_)
      (refine h_m (i := 5) rfl (by kernel_rfl) (op_extend _ S underlying33 underlying33 (.inr ⟨_, rfl⟩) inf74 rfl (k := 4) rfl (.t rfl) (.t rfl) (Src.sl (Sl.old S.wd r4) (by decide) Go.Fw.Dot.enc_len Go.Fw.Dot.enc_one) (by first | omega | (simp only [List.length_append, List.length_cons, List.length_nil]; omega) | (simp; omega)) rfl rfl rfl ?_); clear S a w; intro A2 cap2 a w S; refine h_n1 S ?_)
      (refine h_m (i := 9) rfl (by kernel_rfl) (op_push S underlying33 inf74 rfl (k := 4) (j := 0) rfl (.t rfl) (.t rfl) rfl Go.Fw.Dot.mkEnc rfl rfl (by first | omega | (simp only [List.length_append, List.length_cons, List.length_nil]; omega)) rfl rfl rfl ?_); clear S a w; intro A3 cap3 a w S; refine h_n1 S ?_)
      refine hy 10 S rfl (ys_assign (.t rfl)) rfl fun a w S => h_done (by kernel_rfl) ?_
      rotate_left
      (refine op_bslice1 S underlying33 inf74 rfl rfl rfl (.t rfl) rfl rfl rfl ?_; clear S a w; intro g5 a w S; refine h_n1 S ?_)
      refine h_q (i := 4) S (by repeat (first | exact List.Sublist.refl _ | exact List.nil_sublist _ | refine .cons_cons _ ?_ | refine .cons _ ?_)) rfl (by kernel_rfl) (Yr.ys (ys_ld ⟨isAgg33, sizeOf33⟩ (.t rfl) (k := 1) rfl rfl)) rfl fun a w S => ?_
      (refine h_m (i := 5) rfl (by kernel_rfl) (op_extend _ S underlying33 underlying33 (.inr ⟨_, rfl⟩) inf74 rfl (k := 4) rfl (.t rfl) (.t rfl) (Src.sl (Sl.old S.wd r4) (by decide) Go.Fw.Dot.enc_len Go.Fw.Dot.enc_one) (by first | omega | (simp only [List.length_append, List.length_cons, List.length_nil]; omega) | (simp; omega)) rfl rfl rfl ?_); clear S a w; intro A2 cap2 a w S; refine h_n1 S ?_)
      (refine h_m (i := 9) rfl (by kernel_rfl) (op_push S underlying33 inf74 rfl (k := 4) (j := 0) rfl (.t rfl) (.t rfl) rfl Go.Fw.Dot.mkEnc rfl rfl (by first | omega | (simp only [List.length_append, List.length_cons, List.length_nil]; omega)) rfl rfl rfl ?_); clear S a w; intro A3 cap3 a w S; refine h_n1 S ?_)
      refine hy 10 S rfl (ys_assign (.t rfl)) rfl fun a w S => h_done (by kernel_rfl) ?_
      rotate_left
      all_goals exact ⟨_, _, S.pk⟩
    clear S
    rcases e with _ | _ | _ | _ | _ | _ | _
    any_goals exact qq.elim
    obtain ⟨Bd, bd, S⟩ := qq
    refine then_normal ?_
    first | refine hK9 _ _ ?_ | refine hK8 _ _ ?_ | refine hK7 _ _ ?_ | refine hK6 _ _ ?_ | refine hK5 _ _ ?_ | refine hK4 _ _ ?_ | refine hK3 _ _ ?_ | refine hK2 _ _ ?_ | refine hK1 _ _ ?_
    refine wp_seq_k fun _ hK6 => wp_region_lit (run S (.mv rfl <| .yy (ys_mkFunc (.cons (.t rfl) .nil)) rfl <| .z) fun a w S => ?_)
    refine st_y S (ys_call call107 (.cons (.t rfl) (.cons (.t rfl) .nil)) (fun _ w' W' => x107 w' _ l 108 [.pointer (some ⟨g4, 0, none⟩)] (fun y => decide (y.1.item = x.1.item) && y.1.seen.ctx.covers x.1.dot) call108
      (fun w'' W'' y hy => c108 w'' y.1 _ _ _ x g4 (((hr y hy).old W').old W'').ents (((hr y hy).old W').old W'').ctx (Wd.cellOld W'' (Wd.cell W' (k := 1) rfl rfl)) (Wd.cellOld W'' (Wd.cell W' (k := 1) rfl rfl)) (Wd.cellOld W'' (Wd.cell W' (k := 1) rfl rfl)) (Wd.cellOld W'' (Wd.cell W' (k := 1) rfl rfl))) (Sl.old W' hs))) rfl ?_
    clear S a w
    intro a w S
    by_cases hqt : 0 < x.1.qty
    · have rw_q := decide_eq_true hqt
      cases hsb : seenB (l.map (·.1)) x.1 with
      | true =>
        rw [hsb] at rw_sb
        rw [hsb, Bool.not_true, Bool.and_false, if_neg (by decide), List.append_nil] at hst3
        refine run S (.yy (ys_geq (.t rfl) Ev.c) rfl <| .z) fun a w S => ?_
        rw [rw_sb] at S
        refine run S (.as rfl <| .z) fun a w S => st_nil (then_normal (hK6 _ _ (sg S (.fa underlying77 sizeOf3 5 rfl rfl rfl <| .ld gt3 1 rfl rfl rfl <| .yy (ys_T (by omega) (ys_gtr (.t rfl) Ev.c)) rfl <| .mv rfl <| .gy rfl rfl (ys_move (.t rfl)) <| .gy rfl rfl (ys_not (.t rfl)) <| .yy (ys_pickT (.t rfl) (.t rfl)) rfl <| .z) fun a w S => st_else S (.t rfl) (wp_skip (in_normal (then_normal (hK4 _ _ (wp_region_lit (run S (.ad (by unfold I64; omega) rfl <| .mv rfl <| .z) fun a w S => st_nil (then_normal ?_))))))))))
        exact ⟨(q + 1, (A1, cap1), (Bd, bd), (Ae, ce)), by dsimp only; omega, by dsimp only; omega, by dsimp only; rw [hst1, hst2, hst3]; exact S.pk⟩
      | false =>
        rw [hsb] at rw_sb
        rw [hsb, rw_q, Bool.not_false, Bool.and_true, if_pos rfl] at hst3
        have rw_ent : #[Value.string (bs x.1.item), .int .i64 x.1.dot.node, .int .i64 x.1.dot.life, .int .i64 x.1.dot.count, .int .i64 x.1.qty, .int .u64 (x.1.price.toNat : Int)] = (Ent.enc x.1.ent).toArray := rfl
        refine run S (.yy (ys_geq (.t rfl) Ev.c) rfl <| .z) fun a w S => ?_
        rw [rw_sb] at S
        refine run S (.as rfl <| .z) fun a w S => st_nil (then_normal (hK6 _ _ (sg S (.fa underlying77 sizeOf3 5 rfl rfl rfl <| .ld gt3 1 rfl rfl rfl <| .yy (ys_T (by omega) (ys_gtr (.t rfl) Ev.c)) rfl <| .mv rfl <| .gy rfl rfl (ys_move (.t rfl)) <| .gy rfl rfl (ys_not (.t rfl)) <| .yy (ys_pickT (.t rfl) (.t rfl)) rfl <| .z) fun a w S => st_then S (.t rfl) (wp_region_lit (run S (.fa underlying37 sizeOf31 0 rfl rfl rfl <| .ld gt31 4 rfl rfl rfl <| .fa underlying77 sizeOf9 4 rfl rfl rfl <| .ld gt9 1 rfl rfl rfl <| .fa underlying77 sizeOf74 1 rfl rfl rfl <| .la gt74 1 rfl rfl rfl <| .fa underlying77 sizeOf3 5 rfl rfl rfl <| .ld gt3 1 rfl rfl rfl <| .fa underlying77 sizeOf75 6 rfl rfl rfl <| .ld gt75 1 rfl rfl rfl <| .yy (ys_bld (ps := [(0, Go.Operand.tmp 94), (1, Go.Operand.tmp 96), (2, Go.Operand.tmp 98), (3, Go.Operand.tmp 100)]) (us := [_, _, _, _, _, _]) bld100 (.cons (.t rfl) (.cons (.t rfl) (.cons (.t rfl) (.cons (.t rfl) .nil)))) rfl) rfl <| .z) fun a w S => ?_)))))
        rw [rw_ent] at S
        refine st_m (op_bslice1 S underlying31 inf100 rfl rfl rfl (.t rfl) rfl rfl rfl fun g5 a w S => ?_)
        rw [rw_ent] at S
        refine st_m (op_push S underlying31 inf100 rfl (k := 3) (j := 0) rfl (.t rfl) (.t rfl) rfl rfl rfl rfl (by first | omega | (simp only [List.length_append, List.length_cons, List.length_nil]; omega)) rfl rfl rfl fun A2 cap2 a w S => ?_)
        rw [rw_ent] at S
        refine run S (.fa underlying37 sizeOf31 0 rfl rfl rfl <| .z) fun a w S => ?_
        rw [rw_ent] at S
        refine st_m (op_st S sizeOf31 (.t rfl) (.t rfl) (k := 5) rfl rfl (by simp) fun a w S => ?_)
        rw [rw_ent] at S
        refine st_nil ?_
        rw [rw_ent] at S
        refine in_normal (then_normal (hK4 _ _ ?_))
        rw [rw_ent] at S
        refine wp_region_lit ?_
        rw [rw_ent] at S
        refine run S (.ad (by unfold I64; omega) rfl <| .z) fun a w S => ?_
        rw [rw_ent] at S
        refine run S (.mv rfl <| .z) fun a w S => ?_
        rw [rw_ent] at S
        refine st_nil ?_
        rw [rw_ent] at S
        refine then_normal ?_
        rw [rw_ent] at S
        exact ⟨(q + 1, (A1, cap1), (Bd, bd), (A2, cap2)), by dsimp only; omega, by dsimp only; omega, by dsimp only; rw [hst1, hst2, hst3]; exact S.pk⟩
    · have rw_q := decide_eq_false hqt
      rw [rw_q, Bool.false_and, if_neg (by decide), List.append_nil] at hst3
      refine run S (.yy (ys_geq (.t rfl) Ev.c) rfl <| .z) fun a w S => ?_
      rw [rw_sb] at S
      refine run S (.as rfl <| .z) fun a w S => st_nil (then_normal (hK6 _ _ (sg S (.fa underlying77 sizeOf3 5 rfl rfl rfl <| .ld gt3 1 rfl rfl rfl <| .yy (ys_F (by omega) (ys_gtr (.t rfl) Ev.c)) rfl <| .mv rfl <| .sk rfl rfl rfl <| .sk rfl rfl rfl <| .yy (ys_pickF (.t rfl) Ev.c) rfl <| .z) fun a w S => st_else S (.t rfl) (wp_skip (in_normal (then_normal (hK4 _ _ (wp_region_lit (run S (.ad (by unfold I64; omega) rfl <| .mv rfl <| .z) fun a w S => st_nil (then_normal ?_))))))))))
      exact ⟨(q + 1, (A1, cap1), (Bd, bd), (Ae, ce)), by dsimp only; omega, by dsimp only; omega, by dsimp only; rw [hst1, hst2, hst3]; exact S.pk⟩
  obtain rfl : q = l.length := by omega
  rw [List.take_of_length_le (by rw [hUl]; exact Nat.le_refl _)] at S
  have hes := kept_may (U := l.map (·.1)) hmay
  have hed := kept_dots (U := l.map (·.1)) hone
  have hel := kept_len (l.map (·.1)) (l.map (·.1))
  rw [hUl] at hel
  have hC : meantC (l.map (·.1)) = ⟨sortI (keptU (l.map (·.1)) (l.map (·.1))), (normalL (marksU (l.map (·.1))) (dotsU (l.map (·.1)))).1⟩ := rfl
  have hKn : knownU (l.map (·.1)) = normalL (marksU (l.map (·.1))) (dotsU (l.map (·.1))) := rfl
  have ho1 := meant_known hokU hfe0
  have ho2 := meant_can hokU hfe0
  have ho3 := meant_ok hokU hfe0
  rw [hKn] at ho1 ho2 ho3
  rw [hC] at ho2 ho3
  generalize meantK (l.map (·.1)) = R at *
  generalize marksU (l.map (·.1)) = M at *
  generalize dotsU (l.map (·.1)) = D at *
  generalize keptU (l.map (·.1)) (l.map (·.1)) = E at *
  have hsr := sortI_sorted hed
  have hsm : ∀ x, x ∈ sortI E ↔ x ∈ E := fun x => sortI_mem
  have hsl := sortI_len E
  have hEn : E.length ≤ 4194304 := by omega
  have hMn : M.length ≤ 2097152 := by omega
  have hDn : D.length ≤ 2097152 := by omega
  generalize sortI E = F at *
  by_cases hN : (normalL M D).2 = 0
  rotate_left
  · have rw_N : decide ((normalL M D).2 ≠ 0) = true := decide_eq_true hN
    have hk := ho1 hN
    refine sg S (.ge (by omega) rfl rfl <| .z) fun a w S => wp_seq_k fun _ hK4 => st_else S (.t rfl) (wp_exit (then_exit (then_exit (in_here (then_normal (hK1 _ _ (wp_seq_k fun _ hK1 => wp_region_lit (run S (.fa underlying37 sizeOf31 0 rfl rfl rfl <| .ld gt31 3 rfl rfl rfl <| .z) fun a w S => ?_))))))))
    (refine st_m (op_callO S call110 (.cons (.t rfl) (.cons Ev.f .nil)) (o110 S.wd (by first | assumption | omega | (dsimp only; omega) | exact Sl.nil_ | exact .old S.wd (by assumption) | exact Sl.of_own S.wd (k := 0) rfl (fun _ => rfl) | exact Sl.of_own S.wd (k := 1) rfl (fun _ => rfl) | exact Sl.of_own S.wd (k := 2) rfl (fun _ => rfl) | exact Sl.of_own S.wd (k := 3) rfl (fun _ => rfl) | exact Sl.of_own S.wd (k := 4) rfl (fun _ => rfl) | (intro _ W'; first | exact .old W' (by assumption) | exact Sl.of_own W' (k := 0) rfl (fun _ => rfl) | exact Sl.of_own W' (k := 1) rfl (fun _ => rfl) | exact Sl.of_own W' (k := 2) rfl (fun _ => rfl) | exact Sl.of_own W' (k := 3) rfl (fun _ => rfl) | exact Sl.of_own W' (k := 4) rfl (fun _ => rfl)) | (simp; done) | (simp at *; omega)) (by first | assumption | omega | (dsimp only; omega) | exact Sl.nil_ | exact .old S.wd (by assumption) | exact Sl.of_own S.wd (k := 0) rfl (fun _ => rfl) | exact Sl.of_own S.wd (k := 1) rfl (fun _ => rfl) | exact Sl.of_own S.wd (k := 2) rfl (fun _ => rfl) | exact Sl.of_own S.wd (k := 3) rfl (fun _ => rfl) | exact Sl.of_own S.wd (k := 4) rfl (fun _ => rfl) | (simp; done) | (simp at *; omega)) (by first | assumption | omega | (dsimp only; omega) | exact Sl.nil_ | exact .old S.wd (by assumption) | exact Sl.of_own S.wd (k := 0) rfl (fun _ => rfl) | exact Sl.of_own S.wd (k := 1) rfl (fun _ => rfl) | exact Sl.of_own S.wd (k := 2) rfl (fun _ => rfl) | exact Sl.of_own S.wd (k := 3) rfl (fun _ => rfl) | exact Sl.of_own S.wd (k := 4) rfl (fun _ => rfl) | (simp; done) | (simp at *; omega)) (by first | assumption | omega | (dsimp only; omega) | exact Sl.nil_ | exact .old S.wd (by assumption) | exact Sl.of_own S.wd (k := 0) rfl (fun _ => rfl) | exact Sl.of_own S.wd (k := 1) rfl (fun _ => rfl) | exact Sl.of_own S.wd (k := 2) rfl (fun _ => rfl) | exact Sl.of_own S.wd (k := 3) rfl (fun _ => rfl) | exact Sl.of_own S.wd (k := 4) rfl (fun _ => rfl) | (simp; done) | (simp at *; omega)) (by first | assumption | omega | (dsimp only; omega) | exact Sl.nil_ | exact .old S.wd (by assumption) | exact Sl.of_own S.wd (k := 0) rfl (fun _ => rfl) | exact Sl.of_own S.wd (k := 1) rfl (fun _ => rfl) | exact Sl.of_own S.wd (k := 2) rfl (fun _ => rfl) | exact Sl.of_own S.wd (k := 3) rfl (fun _ => rfl) | exact Sl.of_own S.wd (k := 4) rfl (fun _ => rfl) | (intro _ W'; first | exact .old W' (by assumption) | exact Sl.of_own W' (k := 0) rfl (fun _ => rfl) | exact Sl.of_own W' (k := 1) rfl (fun _ => rfl) | exact Sl.of_own W' (k := 2) rfl (fun _ => rfl) | exact Sl.of_own W' (k := 3) rfl (fun _ => rfl) | exact Sl.of_own W' (k := 4) rfl (fun _ => rfl)) | (simp; done) | (simp at *; omega))) rfl ?_) <;> clear S a w)
    rintro _ _ ⟨rfl, hr1, rfl⟩ a w S
    refine st_nil (then_normal (hK1 _ _ (wp_seq_k fun _ hK1 => wp_region_lit (run S (.mv rfl <| .mv rfl <| .z) fun a w S => ?_))))
    (refine st_m (op_calls S call112 (.cons (.t rfl) (.cons (.t rfl) .nil)) (c112 _ _ _ _ _ (by exact Sl.of_own S.wd (k := 1) rfl (fun _ => rfl)) (by exact Sl.of_own S.wd (k := 2) rfl (fun _ => rfl)) (by assumption) (by assumption)) rfl ?_); clear S a w; rintro _ _ ⟨A11, c11, A21, c21, rfl, rfl⟩ a w S)
    refine run S (.mv rfl <| .ex rfl rfl <| .ex rfl rfl <| .z) fun a w S => st_m (op_alloc S zeroValue35 (cs := _) rfl rfl fun g4 a w S => st_m (op_stW S sizeOf35 (.t rfl) (.t rfl) (k := 0) rfl rfl rfl (by simp [Value.oneCell']) fun a w S => run S (.as rfl <| .z) fun a w S => st_nil (then_normal (hK1 _ _ (wp_seq_k fun _ hK1 => sg S (.mv rfl <| .yy (ys_T (by omega) (ys_neq (.t rfl) Ev.c)) rfl <| .z) fun a w S => st_then S (.t rfl) (wp_seq_k fun _ hK5 => wp_region_lit (run S (.yy (ys_bld (ps := []) (us := [_, _, _]) bld37 .nil rfl) rfl <| .mv rfl <| .z) fun a w S => st_m (op_stW S sizeOf37 (.t rfl) (.t rfl) (k := 7) rfl rfl rfl (by simp [Value.oneCell']) fun a w S => run S (.as rfl <| .z) fun a w S => st_nil (then_normal (hK5 _ _ (wp_ret (then_ret (st_ret S (results2 S results39 (Rv.cell (k := 7) ⟨isAgg37, sizeOf37⟩ rfl rfl rfl) (Rv.tmp rfl)) ?_)))))))))))))
    rw [hk]
    replace S := ((S.nil_ 74 3 Dot.enc none).nil_ 30 3 Dot.enc none).nil_ 100 6 Ent.enc none
    exact ⟨_, _, rfl, S.wd.pk, none, 0, none, 0, none, 0, rfl, rfl⟩
  have rw_N := hN
  obtain ⟨C, rw_C⟩ : ∃ C, (normalL M D).1 = C := ⟨_, rfl⟩
  rw [rw_C] at ho2 ho3
  refine sg S (.ge (by omega) rfl rfl <| .z) fun a w S => wp_seq_k fun _ hK4 => st_else S (.t rfl) (wp_exit (then_exit (then_exit (in_here (then_normal (hK1 _ _ (wp_seq_k fun _ hK1 => wp_region_lit (run S (.fa underlying37 sizeOf31 0 rfl rfl rfl <| .ld gt31 3 rfl rfl rfl <| .z) fun a w S => ?_))))))))
  (refine st_m (op_callO S call110 (.cons (.t rfl) (.cons Ev.f .nil)) (o110 S.wd (by first | assumption | omega | (dsimp only; omega) | exact Sl.nil_ | exact .old S.wd (by assumption) | exact Sl.of_own S.wd (k := 0) rfl (fun _ => rfl) | exact Sl.of_own S.wd (k := 1) rfl (fun _ => rfl) | exact Sl.of_own S.wd (k := 2) rfl (fun _ => rfl) | exact Sl.of_own S.wd (k := 3) rfl (fun _ => rfl) | exact Sl.of_own S.wd (k := 4) rfl (fun _ => rfl) | (intro _ W'; first | exact .old W' (by assumption) | exact Sl.of_own W' (k := 0) rfl (fun _ => rfl) | exact Sl.of_own W' (k := 1) rfl (fun _ => rfl) | exact Sl.of_own W' (k := 2) rfl (fun _ => rfl) | exact Sl.of_own W' (k := 3) rfl (fun _ => rfl) | exact Sl.of_own W' (k := 4) rfl (fun _ => rfl)) | (simp; done) | (simp at *; omega)) (by first | assumption | omega | (dsimp only; omega) | exact Sl.nil_ | exact .old S.wd (by assumption) | exact Sl.of_own S.wd (k := 0) rfl (fun _ => rfl) | exact Sl.of_own S.wd (k := 1) rfl (fun _ => rfl) | exact Sl.of_own S.wd (k := 2) rfl (fun _ => rfl) | exact Sl.of_own S.wd (k := 3) rfl (fun _ => rfl) | exact Sl.of_own S.wd (k := 4) rfl (fun _ => rfl) | (simp; done) | (simp at *; omega)) (by first | assumption | omega | (dsimp only; omega) | exact Sl.nil_ | exact .old S.wd (by assumption) | exact Sl.of_own S.wd (k := 0) rfl (fun _ => rfl) | exact Sl.of_own S.wd (k := 1) rfl (fun _ => rfl) | exact Sl.of_own S.wd (k := 2) rfl (fun _ => rfl) | exact Sl.of_own S.wd (k := 3) rfl (fun _ => rfl) | exact Sl.of_own S.wd (k := 4) rfl (fun _ => rfl) | (simp; done) | (simp at *; omega)) (by first | assumption | omega | (dsimp only; omega) | exact Sl.nil_ | exact .old S.wd (by assumption) | exact Sl.of_own S.wd (k := 0) rfl (fun _ => rfl) | exact Sl.of_own S.wd (k := 1) rfl (fun _ => rfl) | exact Sl.of_own S.wd (k := 2) rfl (fun _ => rfl) | exact Sl.of_own S.wd (k := 3) rfl (fun _ => rfl) | exact Sl.of_own S.wd (k := 4) rfl (fun _ => rfl) | (simp; done) | (simp at *; omega)) (by first | assumption | omega | (dsimp only; omega) | exact Sl.nil_ | exact .old S.wd (by assumption) | exact Sl.of_own S.wd (k := 0) rfl (fun _ => rfl) | exact Sl.of_own S.wd (k := 1) rfl (fun _ => rfl) | exact Sl.of_own S.wd (k := 2) rfl (fun _ => rfl) | exact Sl.of_own S.wd (k := 3) rfl (fun _ => rfl) | exact Sl.of_own S.wd (k := 4) rfl (fun _ => rfl) | (intro _ W'; first | exact .old W' (by assumption) | exact Sl.of_own W' (k := 0) rfl (fun _ => rfl) | exact Sl.of_own W' (k := 1) rfl (fun _ => rfl) | exact Sl.of_own W' (k := 2) rfl (fun _ => rfl) | exact Sl.of_own W' (k := 3) rfl (fun _ => rfl) | exact Sl.of_own W' (k := 4) rfl (fun _ => rfl)) | (simp; done) | (simp at *; omega))) rfl ?_) <;> clear S a w)
  rintro _ _ ⟨rfl, hr1, rfl⟩ a w S
  refine st_nil (then_normal (hK1 _ _ (wp_seq_k fun _ hK1 => wp_region_lit (run S (.mv rfl <| .mv rfl <| .z) fun a w S => ?_))))
  (refine st_m (op_calls S call112 (.cons (.t rfl) (.cons (.t rfl) .nil)) (c112 _ _ _ _ _ (by exact Sl.of_own S.wd (k := 1) rfl (fun _ => rfl)) (by exact Sl.of_own S.wd (k := 2) rfl (fun _ => rfl)) (by assumption) (by assumption)) rfl ?_); clear S a w; rintro _ _ ⟨A11, c11, A21, c21, rfl, rfl⟩ a w S)
  rw [rw_N] at S
  rw [rw_C] at S
  refine run S (.mv rfl <| .ex rfl rfl <| .ex rfl rfl <| .z) fun a w S => st_m (op_alloc S zeroValue35 (cs := _) rfl rfl fun g4 a w S => st_m (op_stW S sizeOf35 (.t rfl) (.t rfl) (k := 0) rfl rfl rfl (by simp [Value.oneCell']) fun a w S => run S (.as rfl <| .z) fun a w S => st_nil (then_normal (hK1 _ _ (wp_seq_k fun _ hK1 => sg S (.mv rfl <| .yy (ys_F (by omega) (ys_neq (.t rfl) Ev.c)) rfl <| .z) fun a w S => st_else S (.t rfl) (wp_skip (then_normal (hK1 _ _ (wp_seq_k fun _ hK1 => wp_region_lit (run S (.la gt35 0 rfl rfl rfl <| .fa underlying37 sizeOf35 1 rfl rfl rfl <| .z) fun a w S => st_m (op_stA S sizeOf35 (.t rfl) (.t rfl) (k := 6) rfl rfl (by simp [Value.oneCell']) (by simp) fun a w S => st_nil (then_normal (hK1 _ _ (wp_seq_k fun _ hK1 => wp_seq_k fun _ hK5 => wp_region_lit (run S (.la gt37 6 rfl rfl rfl <| .z) fun a w S => ?_)))))))))))))))
  rw [← hsl] at S
  refine st_y S (ys_call call66 (.cons (.t rfl) .nil) (fun _ w' W' => c66 w' _ _ _ ⟨F, C⟩ (Sl.of_own W' (k := 3) rfl (fun _ => rfl)) ⟨Sl.of_own W' (k := 1) rfl (fun _ => rfl), Sl.of_own W' (k := 2) rfl (fun _ => rfl)⟩)) rfl ?_
  clear S a w
  intro a w S
  by_cases hE : canE ⟨F, C⟩ = 0
  · have rw_E := hE
    have hk := ho3 hN hE
    refine run S (.as rfl <| .z) fun a w S => ?_
    rw [rw_E] at S
    refine st_nil (then_normal (hK5 _ _ (sg S (.mv rfl <| .yy (ys_F (by omega) (ys_neq (.t rfl) Ev.c)) rfl <| .z) fun a w S => st_else S (.t rfl) (wp_skip (then_normal (hK1 _ _ (wp_seq_k fun _ hK1 => wp_region_lit (run S (.la gt37 6 rfl rfl rfl <| .z) fun a w S => st_m (op_stW S sizeOf37 (.t rfl) (.t rfl) (k := 7) rfl rfl rfl (by simp [Value.oneCell']) fun a w S => run S (.ac rfl <| .z) fun a w S => st_nil (then_normal (hK1 _ _ (wp_ret (st_ret S (results2 S results39 (Rv.cell (k := 7) ⟨isAgg37, sizeOf37⟩ rfl rfl rfl) (Rv.tmp rfl)) ?_)))))))))))))
    rw [hk]
    exact ⟨_, _, rfl, S.wd.pk, Ae, ce, A11, c11, A21, c21, rfl, rfl⟩
  · have rw_E : decide (canE ⟨F, C⟩ ≠ 0) = true := decide_eq_true hE
    have hk := ho2 hN hE
    refine run S (.as rfl <| .z) fun a w S => st_nil (then_normal (hK5 _ _ (sg S (.mv rfl <| .yy (ys_T (by omega) (ys_neq (.t rfl) Ev.c)) rfl <| .z) fun a w S => st_then S (.t rfl) (wp_seq_k fun _ hK5 => wp_region_lit (run S (.yy (ys_bld (ps := []) (us := [_, _, _]) bld37 .nil rfl) rfl <| .mv rfl <| .z) fun a w S => st_m (op_stW S sizeOf37 (.t rfl) (.t rfl) (k := 7) rfl rfl rfl (by simp [Value.oneCell']) fun a w S => run S (.as rfl <| .z) fun a w S => st_nil (then_normal (hK5 _ _ (wp_ret (then_ret (st_ret S (results2 S results39 (Rv.cell (k := 7) ⟨isAgg37, sizeOf37⟩ rfl rfl rfl) (Rv.tmp rfl)) ?_)))))))))))
    rw [hk]
    replace S := ((S.nil_ 74 3 Dot.enc none).nil_ 30 3 Dot.enc none).nil_ 100 6 Ent.enc none
    exact ⟨_, _, rfl, S.wd.pk, none, 0, none, 0, none, 0, rfl, rfl⟩
end Go.Proofs.YtakpdbmdfnialaaGreat
set_option linter.unusedVariables false
set_option linter.unusedSimpArgs false
set_option maxRecDepth 100000
set_option maxHeartbeats 4000000
namespace Go.Fw
open Go.RowKit
abbrev Nam := List UInt8 × Dot
def issuedB (met : List Nam) (u : Upd) : Bool := !decide ((u.key, u.dot) ∈ met) && decide (mayE u = 0)
def issuedF : Nat → List Nam → List SLog → Int × Int
  | _, _, [] => (0, 0)
  | i, met, x :: r => if x.kind = 1 then (if issuedB met x.u.1 = true then issuedF (i + 1) ((x.u.1.key, x.u.1.dot) :: met) r else ((i : Int), 260)) else issuedF (i + 1) met r
def issuedK (l : List SLog) : Int × Int := issuedF 0 [] l
theorem issuedF_at {l : List SLog} {x : SLog} {i : Nat} (h : l[i]? = some x) (met : List Nam) : issuedF i met (l.drop i) = if x.kind = 1 then (if issuedB met x.u.1 = true then issuedF (i + 1) ((x.u.1.key, x.u.1.dot) :: met) (l.drop (i + 1)) else ((i : Int), 260)) else issuedF (i + 1) met (l.drop (i + 1)) := by
  obtain ⟨h1, h2⟩ := List.getElem?_eq_some_iff.1 h
  rw [List.drop_eq_getElem_cons h1, h2, issuedF]
def MetN (m : List (Nam × Unit)) (met : List Nam) : Prop := ∀ k, k ∈ m.map (·.1) ↔ k ∈ met
theorem metN_put {m : List (Nam × Unit)} {met : List Nam} (h : MetN m met) (k : Nam) : MetN (aput m k ()) (k :: met) := fun x => by
  rw [aput_keys, List.mem_cons]
  split
  · rename_i hk
    rw [h x]
    exact ⟨.inr, fun h1 => h1.elim (fun e => by rw [e]; exact (h k).1 hk) id⟩
  · rw [List.mem_append, List.mem_singleton, h x]
    exact Or.comm
theorem metN_get {m : List (Nam × Unit)} {met : List Nam} (h : MetN m met) (k : Nam) : (aget m k).isSome = decide (k ∈ met) := by
  rw [Bool.eq_iff_iff, decide_eq_true_eq, ← h k]
  constructor
  · intro h1
    refine Decidable.byContradiction fun h2 => ?_
    rw [aget_none.2 h2] at h1
    cases h1
  · intro h1
    cases e : aget m k with
    | none => exact absurd h1 (aget_none.1 e)
    | some _ => rfl
end Go.Fw
namespace Go.Proofs.YtakpdbmdfnialaaGreat
open Go.Fw Go.Proofs Go.RowKit Go.Proofs.Tryz
abbrev kv171 : Nam → Value := fun p => .agg #[.string (bs p.1), .int .i64 p.2.node, .int .i64 p.2.life, .int .i64 p.2.count]
abbrev vv171 : Unit → Value := fun _ => .agg #[]
theorem run_eqNam (a b : Nam) (w : World) : (Op.equal 173 (kv171 a) (kv171 b)).run Tryz.prog w = .ok (decide (a = b)) w := by
  have h := eq173 (x0 := bs a.1) (y0 := bs b.1) (x1 := a.2.node) (y1 := b.2.node) (x2 := a.2.life) (y2 := b.2.life) (x3 := a.2.count) (y3 := b.2.count)
  have e : decide (bs a.1 = bs b.1 ∧ a.2.node = b.2.node ∧ a.2.life = b.2.life ∧ a.2.count = b.2.count) = decide (a = b) := decide_eq_decide.2 (by
    obtain ⟨k, d⟩ := a
    obtain ⟨k', d'⟩ := b
    cases d; cases d'
    simp [bs_inj])
  rw [e] at h
  exact (h w).2
theorem ask_nam (k : Nam) (β : Type) (vv : β → Value) (w : World) : ∀ (l : List (Nam × β)) (i : Nat), (Instr.findAsking 173 (kv171 k) (mL kv171 vv i l) i).run Tryz.prog w = .ok ((afind k i l).map fun p => (p.1, vv p.2)) w
  | [], i => by simp [mL, Instr.findAsking, afind]
  | (x, v) :: r, i => by
    simp only [mL, Instr.findAsking, Sem.run_bind, run_eqNam, Result.andThen_ok, afind]
    by_cases e : k = x
    · subst e
      simp
    · rw [if_neg e, decide_eq_false e]
      simpa using ask_nam k β vv w r (i + 1)
theorem keyNam : KeyL kv171 Tryz.prog 173 := by
  refine ⟨fun k β vv l w => ?_, fun b k w => ?_, fun k => ?_, fun k k' e => ?_⟩
  · have h := ask_nam k β vv w l 0
    cases l with
    | nil => simp [Instr.findKey, run_underlying underlying173, mL, Instr.findNow, afind]
    | cons p r => simp [Instr.findKey, run_underlying underlying173, mL, Instr.findNow, Instr.sameNow] at h ⊢; exact h
  · have hI : ∀ (n : Nat) (i : Int), (Instr.checkKey b (n + 1) 3 (.int .i64 i)).run Tryz.prog w = .ok () w := fun n i => by
      simp only [Instr.checkKey, Sem.run_bind, run_underlying underlying3, Result.andThen_ok]
      rfl
    have hS : ∀ (n : Nat) (s : ByteArray), (Instr.checkKey b (n + 1) 9 (.string s)).run Tryz.prog w = .ok () w := fun n s => by
      simp only [Instr.checkKey, Sem.run_bind, run_underlying underlying9, Result.andThen_ok]
      rfl
    have hD : ∀ (n : Nat) (x y z : Int), (Instr.checkKey b (n + 1 + 1) 74 (.agg #[.int .i64 x, .int .i64 y, .int .i64 z])).run Tryz.prog w = .ok () w := fun n x y z => by
      rw [Instr.checkKey]
      simp only [Sem.run_bind, run_underlying underlying74, Result.andThen_ok]
      simp [part, isAgg3, hI]
    have hc : (Instr.checkKey b (9997 + 1 + 1 + 1) 173 (kv171 k)).run Tryz.prog w = .ok () w := by
      rw [Instr.checkKey]
      simp only [Sem.run_bind, run_underlying underlying173, Result.andThen_ok]
      simp [part, isAgg9, isAgg74, sizeOf74, hS, hD]
    exact hc
  · have hb : (bs k.1 == bs k.1) = true := by
      show (k.1.toArray == k.1.toArray) = true
      simp
    have : Instr.sameBits (9999 + 1) (kv171 k) (kv171 k) = true := by simp [Instr.sameBits, hb]
    exact this
  · obtain ⟨k, d⟩ := k
    obtain ⟨k', d'⟩ := k'
    cases d; cases d'
    simp [bs_inj] at e
    simp [e]
theorem mapT171 : MapT kv171 vv171 Tryz.prog 171 () := mapT_mk underlying171 keyNam zeroValue144
theorem bld170 : BuildT Tryz.prog 170 [Value.int .i64 0, Value.nilFunc] [(0, 1), (1, 1)] := ⟨⟨_, zeroValue170, rfl⟩, _, underlying170, fun w => by simp [sizeOf3, sizeOf168]⟩
theorem o127 {w0 w : World} {L : List Chunk} {gm gc : Nat} {m : List (Nam × Unit)} {met : List Nam} {e : TypeId} (W : Wd w0 (.blk gm (mapK kv171 vv171 m) :: .blk gc (.cells #[.map (some gm)] e) :: L) w) (v : Value) (x : SLog) (hm : MetN m met) (h : LogRd w0 x) :
    RetsO Tryz.prog 127 #[v, .agg (SLog.enc x).toArray, .pointer (some ⟨gc, 0, none⟩)] w0 w fun u L' => u = .bool (issuedB met x.u.1) ∧ L' = .blk gm (mapK kv171 vv171 (aput m (x.u.1.key, x.u.1.dot) ())) :: .blk gc (.cells #[.map (some gm)] e) :: L := by
  have r1 := h.u.ents
  have r2 := h.u.ctx
  have rw_g := metN_get hm (x.u.1.key, x.u.1.dot)
  unfold Go.Fw.RetsO
  refine enterW3 W func127 rfl ntmps127 rfl fun a S => wp_seq_k fun _ hK1 => wp_region_lit (st_m (op_box S (.t rfl) rfl fun g1 a w S => run S (.ac rfl <| .z) fun a w S => st_nil (then_normal (hK1 _ _ (wp_seq_k fun _ hK1 => wp_region_lit (run S (.fa underlying96 sizeOf77 3 rfl rfl rfl <| .fa underlying77 sizeOf9 3 rfl rfl rfl <| .ld gt9 0 rfl rfl rfl <| .fa underlying96 sizeOf77 3 rfl rfl rfl <| .fa underlying77 sizeOf74 4 rfl rfl rfl <| .la gt74 0 rfl rfl rfl <| .yy (ys_bld (ps := [(0, Go.Operand.tmp 11), (1, Go.Operand.tmp 14)]) (us := [_, _, _, _]) bld173 (.cons (.t rfl) (.cons (.t rfl) .nil)) rfl) rfl <| .z) fun a w S => st_m (op_alloc S zeroValue173 (cs := _) rfl rfl fun g2 a w S => st_m (op_stW S sizeOf173 (.t rfl) (.t rfl) (k := 0) rfl rfl rfl (by simp [Value.oneCell']) fun a w S => st_nil (then_normal (hK1 _ _ (wp_seq_k fun _ hK1 => wp_region_lit (run S (.ld gt171 3 rfl rfl rfl <| .la gt173 0 rfl rfl rfl <| .z) fun a w S => st_y S (Yr.ys (ys_lookOk (k := (x.u.1.key, x.u.1.dot)) mapT171 (.t rfl) (.t rfl) (j := 2) rfl)) rfl ?_))))))))))))
  clear S a w
  intro a w S
  refine run S (.mv rfl <| .z) fun a w S => ?_
  rw [rw_g] at S
  refine run S (.ex rfl rfl <| .ex rfl rfl <| .z) fun a w S => st_m (op_alloc S zeroValue144 (cs := _) rfl rfl fun g3 a w S => st_m (op_stW S sizeOf144 (.t rfl) (.t rfl) (k := 0) rfl rfl rfl (by simp [Value.oneCell']) fun a w S => run S (.as rfl <| .z) fun a w S => st_nil (then_normal (hK1 _ _ (wp_seq_k fun _ hK1 => wp_region_lit (run S (.ld gt171 4 rfl rfl rfl <| .la gt173 1 rfl rfl rfl <| .yy (ys_bld (ps := []) (us := []) bld144 .nil rfl) rfl <| .z) fun a w S => st_m (op_mapUpd (k := (x.u.1.key, x.u.1.dot)) (v := ()) S mapT171 (.t rfl) (.t rfl) (.t rfl) (j := 3) rfl ?_)))))))
  clear S a w
  intro a w S
  by_cases hmt : (x.u.1.key, x.u.1.dot) ∈ met
  · have rw_t := decide_eq_true hmt
    refine st_nil ?_
    rw [rw_t] at S
    refine then_normal (hK1 _ _ (sg S (.mv rfl <| .nt rfl <| .mv rfl <| .sk rfl rfl rfl <| .sk rfl rfl rfl <| .sk rfl rfl rfl <| .sk rfl rfl rfl <| .yy (ys_pickF (.t rfl) Ev.c) rfl <| .as rfl <| .z) fun a w S => wp_ret (st_ret S (results1 S results127 (Rv.tmp rfl)) ?_)))
    exact ⟨_, _, rfl, S.wd.pk, by unfold issuedB; rw [rw_t]; rfl, rfl⟩
  · have rw_t := decide_eq_false hmt
    by_cases hmy : mayE x.u.1 = 0
    · have rw_m := decide_eq_true hmy
      refine st_nil ?_
      rw [rw_t] at S
      refine then_normal (hK1 _ _ (sg S (.mv rfl <| .nt rfl <| .mv rfl <| .gy rfl rfl (ys_fieldN (FieldT.mk underlying96 rfl sizeOf77 rfl) (.t rfl) (i' := 3) rfl) <| .gy rfl rfl (ys_ldA ⟨isAgg77, sizeOf77⟩ (.t rfl) (k := 2) rfl rfl) <| .gx rfl rfl (ys_call call106 (.cons (.t rfl) .nil) (fun hp w W => c106 _ _ _ _ _ (by exact .old W (by assumption)) (by exact .old W (by assumption)))) <| .gy rfl rfl (ys_T (by omega) (ys_eql (.t rfl) Ev.c)) <| .yy (ys_pickT (.t rfl) (.t rfl)) rfl <| .as rfl <| .z) fun a w S => wp_ret (st_ret S (results1 S results127 (Rv.tmp rfl)) ?_)))
      exact ⟨_, _, rfl, S.wd.pk, by unfold issuedB; rw [rw_t, rw_m]; rfl, rfl⟩
    · have rw_m := decide_eq_false hmy
      refine st_nil ?_
      rw [rw_t] at S
      refine then_normal (hK1 _ _ (sg S (.mv rfl <| .nt rfl <| .mv rfl <| .gy rfl rfl (ys_fieldN (FieldT.mk underlying96 rfl sizeOf77 rfl) (.t rfl) (i' := 3) rfl) <| .gy rfl rfl (ys_ldA ⟨isAgg77, sizeOf77⟩ (.t rfl) (k := 2) rfl rfl) <| .gx rfl rfl (ys_call call106 (.cons (.t rfl) .nil) (fun hp w W => c106 _ _ _ _ _ (by exact .old W (by assumption)) (by exact .old W (by assumption)))) <| .gy rfl rfl (ys_F (by omega) (ys_eql (.t rfl) Ev.c)) <| .yy (ys_pickT (.t rfl) (.t rfl)) rfl <| .as rfl <| .z) fun a w S => wp_ret (st_ret S (results1 S results127 (Rv.tmp rfl)) ?_)))
      exact ⟨_, _, rfl, S.wd.pk, by unfold issuedB; rw [rw_t, rw_m]; rfl, rfl⟩
theorem o126 {w0 w : World} {L : List Chunk} {gm gc : Nat} {e : TypeId} (W : Wd w0 (.blk gm (mapK kv171 vv171 []) :: .blk gc (.cells #[.map (some gm)] e) :: L) w) (v : Value) (l : List SLog) (h : Sl SLog.enc 22 w0 w0.heap.size v l) (hl : LogsRd w0 l) :
    RetsO Tryz.prog 126 #[.agg #[.int .i64 1, .func (.func 127) #[] #[.pointer (some ⟨gc, 0, none⟩)]], v] w0 w fun u L' => u = .tuple #[.int .i64 (issuedK l).1, .int .i64 (issuedK l).2] ∧ ∃ m, L' = .blk gm (mapK kv171 vv171 m) :: .blk gc (.cells #[.map (some gm)] e) :: L := by
  obtain ⟨A, cap, rfl, hl0, hcap, hA⟩ := h
  unfold Go.Fw.RetsO
  refine enterW2 W func126 rfl ntmps126 rfl fun a S => wp_seq_k fun _ hK1 => wp_region_lit (st_m (op_box S (.t rfl) rfl fun g1 a w S => run S (.ac rfl <| .ac rfl <| .z) fun a w S => st_nil (then_normal (hK1 _ _ (wp_seq_k fun _ hK1 => sg S (.mv rfl <| .ln underlying84 rfl <| .mc rfl <| .z) fun a w S => wp_block ?_)))))
  refine st_lpM S [10] (X := Nat × List (Nam × Unit) × List Nam) (fun q => [(10, true, .int .i64 (q.1 : Int))])
    (fun q => .blk g1 (.cells #[.int .i64 1, .func (.func 127) #[] #[.pointer (some ⟨gc, 0, none⟩)]] 170) :: .blk gm (mapK kv171 vv171 q.2.1) :: .blk gc (.cells #[.map (some gm)] e) :: L)
    (fun q => q.1 ≤ l.length ∧ MetN q.2.1 q.2.2 ∧ issuedF q.1 q.2.2 (l.drop q.1) = issuedK l) (fun q => l.length - q.1) (0, [], []) ⟨Nat.zero_le _, fun k => by simp, rfl⟩ ?_
  clear S
  rintro ⟨q, m, met⟩ a w ⟨hq, hm, hF⟩ S
  dsimp only at hq hm hF S
  by_cases hlt : q < l.length
  · obtain ⟨gq, oq, x, rfl, hx, hd, hc⟩ := row_at hA hlt
    have hxr := hl x (List.mem_of_getElem? hx)
    rw [issuedF_at hx] at hF
    by_cases hk : x.kind = 1
    · have rw_k := decide_eq_true hk
      rw [if_pos hk] at hF
      cases hB : issuedB met x.u.1 with
      | true =>
        have rw_B := hB
        rw [if_pos hB] at hF
        have halt_r := trivial
        refine sg S (.lt (by omega) rfl rfl <| .z) fun a w S => wp_seq_k fun _ hK2 => st_then S (.t rfl) (wp_skip (then_normal (hK2 _ _ (wp_seq_k fun _ hK2 => wp_block (wp_seq_k fun _ hK3 => wp_region_lit (run S (.mv rfl <| .ix underlying84 sizeOf96 (by omega) rfl rfl <| .yy (ys_ldOA ⟨isAgg96, sizeOf96⟩ (.t rfl) (vs := [_, _, _, _, _, _, _, _, _, _, _, _, _, _, _, _, _, _, _, _, _, _]) rfl (fun _ => hc)) rfl <| .z) fun a w S => st_m (op_alloc S zeroValue96 (cs := _) rfl rfl fun g2 a w S => run S (.as rfl <| .z) fun a w S => st_m (op_stW S sizeOf96 (.t rfl) (.t rfl) (k := 0) rfl rfl rfl (by simp [Value.oneCell']) fun a w S => st_nil (then_normal (hK3 _ _ (wp_seq_k fun _ hK3 => ?_)))))))))))
        clear halt_r
        refine h_begin S (by kernel_rfl) [.blk g2 (.cells (SLog.enc x).toArray 96), .blk g1 (.cells #[.int .i64 1, .func (.func 127) #[] #[.pointer (some ⟨gc, 0, none⟩)]] 170)] ?_
        clear S
        intro a w S
        have hold_r := trivial
        refine hy 0 S rfl (ys_fieldN (FieldT.mk underlying96 rfl sizeOf3 rfl) (.t rfl) (i' := 0) rfl) rfl fun a w S => hy 1 S rfl (ys_ld ⟨isAgg3, sizeOf3⟩ (.t rfl) (k := 0) rfl rfl) rfl fun a w S => hy 2 S rfl (ys_fieldN (FieldT.mk underlying170 rfl sizeOf3 rfl) (.t rfl) (i' := 0) rfl) rfl fun a w S => hy 3 S rfl (ys_ld ⟨isAgg3, sizeOf3⟩ (.t rfl) (k := 1) rfl rfl) rfl fun a w S => hy 4 S rfl (ys_T (by omega) (ys_eql (.t rfl) (.t rfl))) rfl fun a w S => ?_
        refine hy 5 S rfl (ys_move (.t rfl)) rfl fun a w S => hyt 6 S rfl rfl rfl (ys_fieldN (FieldT.mk underlying170 rfl sizeOf168 rfl) (.t rfl) (i' := 1) rfl) rfl fun a w S => hyt 7 S rfl rfl rfl (ys_ld ⟨isAgg168, sizeOf168⟩ (.t rfl) (k := 1) rfl rfl) rfl fun a w S => hyt 8 S rfl rfl rfl (ys_move (.t rfl)) rfl fun a w S => hyt 9 S rfl rfl rfl (ys_move (.t rfl)) rfl fun a w S => ?_
        refine hyt 10 S rfl rfl rfl (ys_slHi underlying84 sizeOf96 (.t rfl) (.t rfl) (fun _ => by first | omega | (simp; done) | (simp; omega))) rfl fun a w S => hyt 11 S rfl rfl rfl (ys_ldA ⟨isAgg96, sizeOf96⟩ (.t rfl) (k := 0) rfl rfl) rfl fun a w S => ?_
        (replace S := S.pull 3 rfl; try simp only [List.set_cons_zero, List.set_cons_succ, List.eraseIdx_cons_succ, List.eraseIdx_cons_zero] at S; replace S := S.pull 3 rfl; try simp only [List.set_cons_zero, List.set_cons_succ, List.eraseIdx_cons_succ, List.eraseIdx_cons_zero] at S; refine h_mg (i := 12) S rfl (by kernel_rfl) rfl rfl (op_callVO (cs := [_]) S (.t rfl) call127 (.cons (.t rfl) (.cons (.t rfl) .nil)) (o127 S.wd _ _ (by first | assumption | omega | (dsimp only; omega) | exact Sl.nil_ | exact .old S.wd (by assumption) | exact Sl.of_own S.wd (k := 0) rfl (fun _ => rfl) | exact Sl.of_own S.wd (k := 1) rfl (fun _ => rfl) | exact Sl.of_own S.wd (k := 2) rfl (fun _ => rfl) | exact Sl.of_own S.wd (k := 3) rfl (fun _ => rfl) | (simp; done) | (simp at *; omega)) (by first | assumption | omega | (dsimp only; omega) | exact Sl.nil_ | exact .old S.wd (by assumption) | exact Sl.of_own S.wd (k := 0) rfl (fun _ => rfl) | exact Sl.of_own S.wd (k := 1) rfl (fun _ => rfl) | exact Sl.of_own S.wd (k := 2) rfl (fun _ => rfl) | exact Sl.of_own S.wd (k := 3) rfl (fun _ => rfl) | (simp; done) | (simp at *; omega))) rfl ?_) <;> clear S a w)
        rintro _ _ ⟨rfl, rfl⟩ a w S
        rw [rw_B] at S
        refine h_n1 S ?_
        refine hyt 13 S rfl rfl rfl (ys_not (.t rfl)) rfl fun a w S => hy 14 S rfl (ys_pickT (.t rfl) (.t rfl)) rfl fun a w S => h_done (by kernel_rfl) (then_normal (hK3 _ _ (st_else S (.t rfl) (wp_skip (in_normal (then_normal (hK2 _ _ (wp_region_lit (run S (.ad (by unfold I64; omega) rfl <| .mv rfl <| .z) fun a w S => st_nil (then_normal ?_))))))))))
        exact ⟨(q + 1, aput m (x.u.1.key, x.u.1.dot) (), (x.u.1.key, x.u.1.dot) :: met), ⟨by dsimp only; omega, metN_put hm _, hF⟩, by dsimp only; omega, S.pk⟩
      | false =>
        have rw_B := hB
        rw [if_neg (by rw [hB]; decide)] at hF
        have halt_r := trivial
        refine sg S (.lt (by omega) rfl rfl <| .z) fun a w S => wp_seq_k fun _ hK2 => st_then S (.t rfl) (wp_skip (then_normal (hK2 _ _ (wp_seq_k fun _ hK2 => wp_block (wp_seq_k fun _ hK3 => wp_region_lit (run S (.mv rfl <| .ix underlying84 sizeOf96 (by omega) rfl rfl <| .yy (ys_ldOA ⟨isAgg96, sizeOf96⟩ (.t rfl) (vs := [_, _, _, _, _, _, _, _, _, _, _, _, _, _, _, _, _, _, _, _, _, _]) rfl (fun _ => hc)) rfl <| .z) fun a w S => st_m (op_alloc S zeroValue96 (cs := _) rfl rfl fun g2 a w S => run S (.as rfl <| .z) fun a w S => st_m (op_stW S sizeOf96 (.t rfl) (.t rfl) (k := 0) rfl rfl rfl (by simp [Value.oneCell']) fun a w S => st_nil (then_normal (hK3 _ _ (wp_seq_k fun _ hK3 => ?_)))))))))))
        clear halt_r
        refine h_begin S (by kernel_rfl) [.blk g2 (.cells (SLog.enc x).toArray 96), .blk g1 (.cells #[.int .i64 1, .func (.func 127) #[] #[.pointer (some ⟨gc, 0, none⟩)]] 170)] ?_
        clear S
        intro a w S
        have hold_r := trivial
        refine hy 0 S rfl (ys_fieldN (FieldT.mk underlying96 rfl sizeOf3 rfl) (.t rfl) (i' := 0) rfl) rfl fun a w S => hy 1 S rfl (ys_ld ⟨isAgg3, sizeOf3⟩ (.t rfl) (k := 0) rfl rfl) rfl fun a w S => hy 2 S rfl (ys_fieldN (FieldT.mk underlying170 rfl sizeOf3 rfl) (.t rfl) (i' := 0) rfl) rfl fun a w S => hy 3 S rfl (ys_ld ⟨isAgg3, sizeOf3⟩ (.t rfl) (k := 1) rfl rfl) rfl fun a w S => hy 4 S rfl (ys_T (by omega) (ys_eql (.t rfl) (.t rfl))) rfl fun a w S => ?_
        refine hy 5 S rfl (ys_move (.t rfl)) rfl fun a w S => hyt 6 S rfl rfl rfl (ys_fieldN (FieldT.mk underlying170 rfl sizeOf168 rfl) (.t rfl) (i' := 1) rfl) rfl fun a w S => hyt 7 S rfl rfl rfl (ys_ld ⟨isAgg168, sizeOf168⟩ (.t rfl) (k := 1) rfl rfl) rfl fun a w S => hyt 8 S rfl rfl rfl (ys_move (.t rfl)) rfl fun a w S => hyt 9 S rfl rfl rfl (ys_move (.t rfl)) rfl fun a w S => ?_
        refine hyt 10 S rfl rfl rfl (ys_slHi underlying84 sizeOf96 (.t rfl) (.t rfl) (fun _ => by first | omega | (simp; done) | (simp; omega))) rfl fun a w S => hyt 11 S rfl rfl rfl (ys_ldA ⟨isAgg96, sizeOf96⟩ (.t rfl) (k := 0) rfl rfl) rfl fun a w S => ?_
        (replace S := S.pull 3 rfl; try simp only [List.set_cons_zero, List.set_cons_succ, List.eraseIdx_cons_succ, List.eraseIdx_cons_zero] at S; replace S := S.pull 3 rfl; try simp only [List.set_cons_zero, List.set_cons_succ, List.eraseIdx_cons_succ, List.eraseIdx_cons_zero] at S; refine h_mg (i := 12) S rfl (by kernel_rfl) rfl rfl (op_callVO (cs := [_]) S (.t rfl) call127 (.cons (.t rfl) (.cons (.t rfl) .nil)) (o127 S.wd _ _ (by first | assumption | omega | (dsimp only; omega) | exact Sl.nil_ | exact .old S.wd (by assumption) | exact Sl.of_own S.wd (k := 0) rfl (fun _ => rfl) | exact Sl.of_own S.wd (k := 1) rfl (fun _ => rfl) | exact Sl.of_own S.wd (k := 2) rfl (fun _ => rfl) | exact Sl.of_own S.wd (k := 3) rfl (fun _ => rfl) | (simp; done) | (simp at *; omega)) (by first | assumption | omega | (dsimp only; omega) | exact Sl.nil_ | exact .old S.wd (by assumption) | exact Sl.of_own S.wd (k := 0) rfl (fun _ => rfl) | exact Sl.of_own S.wd (k := 1) rfl (fun _ => rfl) | exact Sl.of_own S.wd (k := 2) rfl (fun _ => rfl) | exact Sl.of_own S.wd (k := 3) rfl (fun _ => rfl) | (simp; done) | (simp at *; omega))) rfl ?_) <;> clear S a w)
        rintro _ _ ⟨rfl, rfl⟩ a w S
        rw [rw_B] at S
        refine h_n1 S ?_
        refine hyt 13 S rfl rfl rfl (ys_not (.t rfl)) rfl fun a w S => hy 14 S rfl (ys_pickT (.t rfl) (.t rfl)) rfl fun a w S => h_done (by kernel_rfl) (then_normal (hK3 _ _ (st_then S (.t rfl) (sg S (.mv rfl <| .as rfl <| .ac rfl <| .z) fun a w S => wp_ret (in_ret (then_ret (then_ret (in_ret (then_ret (st_ret S (results2 S results126 (Rv.tmp rfl) (Rv.tmp rfl)) ?_))))))))))
        rw [← hF]
        exact ⟨_, _, rfl, S.wd.pk, rfl, aput m (x.u.1.key, x.u.1.dot) (), rfl⟩
    · have rw_k := decide_eq_false hk
      rw [if_neg hk] at hF
      refine sg S (.lt (by omega) rfl rfl <| .z) fun a w S => wp_seq_k fun _ hK2 => st_then S (.t rfl) (wp_skip (then_normal (hK2 _ _ (wp_seq_k fun _ hK2 => wp_block (wp_seq_k fun _ hK3 => wp_region_lit (run S (.mv rfl <| .ix underlying84 sizeOf96 (by omega) rfl rfl <| .yy (ys_ldOA ⟨isAgg96, sizeOf96⟩ (.t rfl) (vs := [_, _, _, _, _, _, _, _, _, _, _, _, _, _, _, _, _, _, _, _, _, _]) rfl (fun _ => hc)) rfl <| .z) fun a w S => st_m (op_alloc S zeroValue96 (cs := _) rfl rfl fun g2 a w S => run S (.as rfl <| .z) fun a w S => st_m (op_stW S sizeOf96 (.t rfl) (.t rfl) (k := 0) rfl rfl rfl (by simp [Value.oneCell']) fun a w S => st_nil (then_normal (hK3 _ _ (wp_seq_k fun _ hK3 => st_quiet S (by kernel_rfl) (by kernel_rfl) fun a S => qrun S (.fa underlying96 sizeOf3 0 rfl rfl rfl <| .ld gt3 0 rfl rfl rfl <| .fa underlying170 sizeOf3 0 rfl rfl rfl <| .ld gt3 1 rfl rfl rfl <| .yy (ys_F (by omega) (ys_eql (.t rfl) (.t rfl))) rfl <| .mv rfl <| .sk rfl rfl rfl <| .sk rfl rfl rfl <| .sk rfl rfl rfl <| .sk rfl rfl rfl <| .sk rfl rfl rfl <| .sk rfl rfl rfl <| .sk rfl rfl rfl <| .sk rfl rfl rfl <| .yy (ys_pickF (.t rfl) Ev.c) rfl <| .z) fun a S => ?_)))))))))))
      (refine q_nil ?_; intro w W; replace S := St.mk S W; clear W)
      refine then_normal (hK3 _ _ (st_else S (.t rfl) (wp_skip (in_normal (then_normal (hK2 _ _ (wp_region_lit (run S (.ad (by unfold I64; omega) rfl <| .mv rfl <| .z) fun a w S => st_nil (then_normal ?_)))))))))
      exact ⟨(q + 1, m, met), ⟨by dsimp only; omega, hm, hF⟩, by dsimp only; omega, S.pk⟩
  obtain rfl : q = l.length := by omega
  rw [List.drop_length] at hF
  refine sg S (.ge (by omega) rfl rfl <| .z) fun a w S => wp_seq_k fun _ hK2 => st_else S (.t rfl) (wp_exit (then_exit (then_exit (in_here (then_normal (hK1 _ _ (sg S (.ac rfl <| .ac rfl <| .z) fun a w S => wp_ret (st_ret S (results2 S results126 (Rv.tmp rfl) (Rv.tmp rfl)) ?_))))))))
  rw [← hF]
  exact ⟨_, _, rfl, S.wd.pk, rfl, m, rfl⟩
theorem c52 (w0 : World) (v : Value) (l : List SLog) (h : Sl SLog.enc 22 w0 w0.heap.size v l) (hl : LogsRd w0 l) :
    Calls Tryz.prog 52 #[v] w0 fun e w' => e = .returned (.tuple #[.int .i64 (issuedK l).1, .int .i64 (issuedK l).2]) ∧ Bel w0.heap.size w0 w' := by
  refine enter1 func52 rfl ntmps52 rfl fun a S => sg S (.ac rfl <| .ac rfl <| .z) fun a w S => wp_seq_k fun _ hK1 => wp_region_lit (st_m (op_makeMap kv171 vv171 S rfl fun g1 a w S => st_m (op_alloc S zeroValue171 (cs := _) rfl rfl fun g2 a w S => st_m (op_st S sizeOf171 (.t rfl) (.t rfl) (k := 0) rfl rfl (by simp) fun a w S => st_nil (then_normal (hK1 _ _ (wp_seq_k fun _ hK1 => wp_region_lit (run S (.yy (ys_mkFunc (.cons (.t rfl) .nil)) rfl <| .yy (ys_bld (ps := [(0, _), (1, Go.Operand.tmp 6)]) (us := [_, _]) bld170 (.cons Ev.c (.cons (.t rfl) .nil)) rfl) rfl <| .mv rfl <| .z) fun a w S => ?_))))))))
  (replace S := S.pull 0 rfl; try simp only [List.set_cons_zero, List.set_cons_succ, List.eraseIdx_cons_succ, List.eraseIdx_cons_zero] at S; replace S := S.pull 1 rfl; try simp only [List.set_cons_zero, List.set_cons_succ, List.eraseIdx_cons_succ, List.eraseIdx_cons_zero] at S; refine st_m (op_callO S call126 (.cons (.t rfl) (.cons (.t rfl) .nil)) (o126 S.wd _ _ (by first | assumption | omega | (dsimp only; omega) | exact Sl.nil_ | exact .old S.wd (by assumption) | exact Sl.of_own S.wd (k := 0) rfl (fun _ => rfl) | exact Sl.of_own S.wd (k := 1) rfl (fun _ => rfl) | (simp; done) | (simp at *; omega)) (by first | assumption | omega | (dsimp only; omega) | exact Sl.nil_ | exact .old S.wd (by assumption) | exact Sl.of_own S.wd (k := 0) rfl (fun _ => rfl) | exact Sl.of_own S.wd (k := 1) rfl (fun _ => rfl) | (simp; done) | (simp at *; omega))) rfl ?_) <;> clear S a w)
  rintro _ _ ⟨rfl, hr1⟩ a w S
  refine run S (.ex rfl rfl <| .ex rfl rfl <| .as rfl <| .as rfl <| .z) fun a w S => st_nil (then_normal (hK1 _ _ (wp_ret (st_ret S (results2 S results52 (Rv.tmp rfl) (Rv.tmp rfl)) ?_))))
  exact ⟨rfl, S.wd.below⟩
theorem c156 (w0 : World) (v1 v2 v3 : Value) (X : Cart) (d : Dot) (g : Nat) (hr : RdCtx w0 w0.heap.size v2 v3 X.ctx) (h1 : w0.cell? ⟨g, 1, none⟩ = some (.int .i64 d.node)) (h2 : w0.cell? ⟨g, 2, none⟩ = some (.int .i64 d.life)) (h3 : w0.cell? ⟨g, 3, none⟩ = some (.int .i64 d.count)) :
    Calls Tryz.prog 156 #[.agg #[v1, v2, v3], .pointer (some ⟨g, 0, none⟩)] w0 fun e w' => e = .returned (.bool (X.ctx.covers d)) ∧ Bel w0.heap.size w0 w' := by
  have hdc := dot_cells (d := d) h1 h2 h3
  refine enter2 func156 rfl ntmps156 rfl fun a S => wp_seq_k fun _ hK1 => wp_region_lit (st_m (op_box S (.t rfl) rfl fun g1 a w S => run S (.ac rfl <| .z) fun a w S => st_nil (then_normal (hK1 _ _ (sg S (.fa underlying37 sizeOf35 1 rfl rfl rfl <| .la gt35 0 rfl rfl rfl <| .fa underlying77 sizeOf74 1 rfl rfl rfl <| .yy (ys_ldOA ⟨isAgg74, sizeOf74⟩ (.t rfl) (vs := [_, _, _]) rfl (fun _ => hdc)) rfl <| .xx (ys_call call109 (.cons (.t rfl) (.cons (.t rfl) .nil)) (fun hp w W => c109 _ _ _ _ _ _ _ (by exact .old W (by assumption)))) rfl <| .as rfl <| .z) fun a w S => wp_ret (st_ret S (results1 S results156 (Rv.tmp rfl)) ?_))))))
  exact ⟨rfl, S.wd.below⟩
theorem c105 (w0 : World) (u : Upd) (v1 v2 v3 v : Value) (l : List SCart) (h : Sl SCart.enc 3 w0 w0.heap.size v l) (hc : CartsRd w0 l) :
    Calls Tryz.prog 105 #[.agg (Upd.enc u v1 v2 v3).toArray, v] w0 fun e w' => e = .returned (.bool (l.any fun c => c.1.ctx.covers u.dot)) ∧ Bel w0.heap.size w0 w' := by
  have hs := h
  have rw_i := idxW_any (fun c : SCart => c.1.ctx.covers u.dot) l 0
  refine enter2 func105 rfl ntmps105 rfl fun a S => wp_seq_k fun _ hK1 => wp_region_lit (st_m (op_box S (.t rfl) rfl fun g1 a w S => run S (.ac rfl <| .z) fun a w S => st_nil (then_normal (hK1 _ _ (wp_seq_k fun _ hK1 => wp_region_lit (run S (.mv rfl <| .yy (ys_mkFunc (.cons (.t rfl) .nil)) rfl <| .z) fun a w S => ?_))))))
  refine st_y S (ys_call call155 (.cons (.t rfl) (.cons (.t rfl) .nil)) (fun _ w' W' => x155 w' _ l 156 [.pointer (some ⟨g1, 0, none⟩)] (fun c => c.1.ctx.covers u.dot) call156
    (fun w'' W'' y hy => c156 w'' _ _ _ y.1 u.dot g1 (((hc y hy).old W').old W'').ctx (Wd.cellOld W'' (Wd.cell W' (k := 0) rfl rfl)) (Wd.cellOld W'' (Wd.cell W' (k := 0) rfl rfl)) (Wd.cellOld W'' (Wd.cell W' (k := 0) rfl rfl))) (Sl.old W' hs))) rfl ?_
  clear S a w
  intro a w S
  refine run S (.yy (ys_geq (.t rfl) Ev.c) rfl <| .z) fun a w S => ?_
  rw [rw_i] at S
  refine run S (.as rfl <| .z) fun a w S => st_nil (then_normal (hK1 _ _ (wp_ret (st_ret S (results1 S results105 (Rv.tmp rfl)) ?_))))
  exact ⟨rfl, S.wd.below⟩
end Go.Proofs.YtakpdbmdfnialaaGreat
set_option linter.unusedVariables false
set_option linter.unusedSimpArgs false
namespace Go.Fw
open Go.RowKit
def Wants (ops : Array Oper) (K : KL) : Option (Nat × Bool) → Prop
  | none => True
  | some (j, p) => ∃ t, (ops[j]?).bind (·.dst) = some t ∧ look K t = some (true, .bool p)
section
variable {P : Program} {Q : Exit → Act → World → Prop} {n : Nat} {w0 : World} {K : KL} {L Lr : List Chunk} {a : Act} {w : World} {ops : Array Oper} {fuel : Nat} {listed : Array Bool} {md : Region.Mode}
theorem h_pick {i : Nat} {d : Option Tmp} {op : Op} {ty : TypeId} {pos : String} {aft : Array Edge} {g : Option (Nat × Bool)} (S : St n w0 K L a w) (hi : ops[i]? = some ⟨d, op, ty, pos, aft, g⟩) (hw : Wants ops K g)
    (h : Oper.wp P ⟨d, op, ty, pos, aft, g⟩ a w (fun a' w' => Wd w0 Lr w' ∧ wpAnyH P md ops Q (Wd w0 Lr) fuel (listed.setIfInBounds i true) a' w') Q) : wpOp P ops Q i (fun a' w' => Wd w0 Lr w' ∧ wpAnyH P md ops Q (Wd w0 Lr) fuel (listed.setIfInBounds i true) a' w') a w := by
  cases g with
  | none =>
    unfold wpOp
    simp only [hi, Region.wanted, if_true]
    exact .inl h
  | some g =>
    obtain ⟨j, p⟩ := g
    obtain ⟨t, hj, hl⟩ := hw
    have hyd := yielded_of S.kn hj hl
    unfold wpOp
    simp only [hi, Region.wanted, hyd, cond_true]
    simpa using Or.inl h
theorem h_splitw {i j : Nat} {di dj : Option Tmp} {opi opj : Op} {tyi tyj : TypeId} {posi posj : String} {ai aj : Array Edge} {gi gj : Option (Nat × Bool)} (S : St n w0 K L a w) (hr : Region.ready md ops listed = [i, j]) (hi : ops[i]? = some ⟨di, opi, tyi, posi, ai, gi⟩) (hj : ops[j]? = some ⟨dj, opj, tyj, posj, aj, gj⟩)
    (wi : Wants ops K gi) (wj : Wants ops K gj)
    (h1 : Oper.wp P ⟨di, opi, tyi, posi, ai, gi⟩ a w (fun a' w' => Wd w0 Lr w' ∧ wpAnyH P md ops Q (Wd w0 Lr) fuel (listed.setIfInBounds i true) a' w') Q)
    (h2 : Oper.wp P ⟨dj, opj, tyj, posj, aj, gj⟩ a w (fun a' w' => Wd w0 Lr w' ∧ wpAnyH P md ops Q (Wd w0 Lr) fuel (listed.setIfInBounds j true) a' w') Q) : wpAnyH P md ops Q (Wd w0 Lr) (fuel + 1) listed a w :=
  wpAnyH_all hr (by simp) fun k hk => by
    simp only [List.mem_cons, List.not_mem_nil, or_false] at hk
    rcases hk with rfl | rfl
    · exact h_pick S hi wi h1
    · exact h_pick S hj wj h2
end
end Go.Fw
set_option linter.unusedVariables false
set_option linter.unusedSimpArgs false
set_option maxRecDepth 100000
set_option maxHeartbeats 4000000
namespace Go.Fw
open Go.RowKit
abbrev U1 : Upd := ⟨[107], ⟨0, 1, 1⟩, [109, 105, 108, 107], 1, 0, Cart.zero⟩
abbrev S0 : Sls3 := ⟨none, 0, 0, none, 0, 0, none, 0, 0⟩
def C1 : Cart := ⟨[U1.ent], ⟨[⟨0, 1, 1⟩], []⟩⟩
theorem meant_one : meantK [U1] = (C1, 0) := by decide +kernel
theorem room_one : RoomU [U1] := room_few (by decide)
abbrev L1 : SLog := ⟨1, 0, 0, (U1, S0), 0, 0, [107], (Cart.zero, S0), (Cart.zero, S0)⟩
theorem issued_two : issuedK [L1, L1] = (1, 260) := by decide +kernel
end Go.Fw
namespace Go.Proofs.YtakpdbmdfnialaaGreat
open Go.Fw Go.Proofs Go.RowKit Go.Proofs.Tryz
theorem c104 (w0 : World) : Calls Tryz.prog 104 #[] w0 fun e w' => e = .returned (.agg (Upd.enc U1 (.slice none 0 0) (.slice none 0 0) (.slice none 0 0)).toArray) ∧ Bel w0.heap.size w0 w' := by
  refine enter0 func104 rfl ntmps104 rfl fun a S => wp_seq_k fun _ hK1 => wp_region_lit (st_m (op_alloc S zeroValue77 (cs := _) rfl rfl fun g1 a w S => st_nil (then_normal (hK1 _ _ (wp_seq_k fun _ hK1 => wp_region_lit (run S (.yy (ys_bld (ps := [(0, _), (1, _), (2, _)]) (us := [_, _, _]) bld74 (.cons Ev.c (.cons Ev.c (.cons Ev.c .nil))) rfl) rfl <| .yy (ys_bld (ps := [(0, _), (1, Go.Operand.tmp 1), (2, _), (3, _)]) (us := [_, _, _, _, _, _, _, _, _, _]) bld77 (.cons Ev.c (.cons (.t rfl) (.cons Ev.c (.cons Ev.c .nil)))) rfl) rfl <| .z) fun a w S => st_m (op_stW S sizeOf77 (.t rfl) (.t rfl) (k := 0) rfl rfl rfl (by simp [Value.oneCell']) fun a w S => st_nil (then_normal (hK1 _ _ (wp_ret (st_ret S (results1 S results104 (Rv.cell (k := 0) ⟨isAgg77, sizeOf77⟩ rfl rfl rfl)) ?_)))))))))))
  exact ⟨rfl, S.wd.below⟩
theorem c38 (w0 : World) : Calls Tryz.prog 38 #[] w0 fun e w' => e = .returned (.bool true) ∧ Bel w0.heap.size w0 w' := by
  have hu : ∀ w, UpdsRd w [(U1, S0)] := fun w x hx => by
    rw [List.mem_singleton.1 hx]
    exact ⟨Sl.nil_, Sl.nil_, Sl.nil_⟩
  have hl : ∀ w, LogsRd w [L1, L1] := fun w x hx => by
    have e : x = L1 := by simpa using hx
    rw [e]
    exact ⟨⟨Sl.nil_, Sl.nil_, Sl.nil_⟩, ⟨Sl.nil_, Sl.nil_, Sl.nil_⟩, ⟨Sl.nil_, Sl.nil_, Sl.nil_⟩⟩
  have hm : meantK (List.map (fun x : SUpd => x.1) [(U1, S0)]) = (C1, 0) := meant_one
  refine enter0 func38 rfl ntmps38 rfl fun a S => sg S (.ac rfl <| .z) fun a w S => wp_seq_k fun _ hK1 => wp_region_lit (run S (.xx (ys_call call104 .nil (fun hp w W => c104 _)) rfl <| .z) fun a w S => st_m (op_bslice1 S underlying72 inf77 rfl rfl rfl (.t rfl) rfl rfl rfl fun g1 a w S => st_m (op_calls S call39 (.cons (.t rfl) .nil) (c39 _ _ [(U1, S0)] (Sl.of_blk (enc := SUpd.enc) (cap := 1) [(U1, S0)] S.wd (k := 0) rfl rfl SUpd.enc_len (Nat.le_refl 1) (by decide)) (hu _) (by decide) room_one) rfl ?_)))
  clear S a w
  rintro _ _ ⟨A1, r1, A2, r2, A3, r3, rfl, rfl⟩ a w S
  simp only [hm] at S
  refine run S (.mv rfl <| .ex rfl rfl <| .ex rfl rfl <| .z) fun a w S => st_m (op_alloc S zeroValue37 (cs := _) rfl rfl fun g2 a w S => st_m (op_stW S sizeOf37 (.t rfl) (.t rfl) (k := 0) rfl rfl rfl (by simp [Value.oneCell']) fun a w S => run S (.as rfl <| .z) fun a w S => st_nil (then_normal (hK1 _ _ (wp_seq_k fun _ hK1 => wp_region_lit (run S (.xx (ys_call call104 .nil (fun hp w W => c104 _)) rfl <| .yy (ys_bld (ps := [(0, _), (3, Go.Operand.tmp 12), (5, _)]) (us := [_, _, _, _, _, _, _, _, _, _, _, _, _, _, _, _, _, _, _, _, _, _]) bld96 (.cons Ev.c (.cons (.t rfl) (.cons Ev.c .nil))) rfl) rfl <| .xx (ys_call call104 .nil (fun hp w W => c104 _)) rfl <| .yy (ys_bld (ps := [(0, _), (3, Go.Operand.tmp 14), (5, _)]) (us := [_, _, _, _, _, _, _, _, _, _, _, _, _, _, _, _, _, _, _, _, _, _]) bld96 (.cons Ev.c (.cons (.t rfl) (.cons Ev.c .nil))) rfl) rfl <| .z) fun a w S => st_m (op_bsliceZ (ps := [(0, Go.Operand.tmp 13), (1, Go.Operand.tmp 15)]) (us := [_, _, _, _, _, _, _, _, _, _, _, _, _, _, _, _, _, _, _, _, _, _, _, _, _, _, _, _, _, _, _, _, _, _, _, _, _, _, _, _, _, _, _, _]) S underlying84 sizeOf96 zeroValue96 rfl rfl (.cons (.t rfl) (.cons (.t rfl) .nil)) rfl rfl fun g3 a w S => run S (.as rfl <| .z) fun a w S => st_nil (then_normal (hK1 _ _ (wp_seq_k fun _ hK1 => wp_region_lit (run S (.mv rfl <| .z) fun a w S => ?_)))))))))))
  refine st_y S (ys_call call52 (.cons (.t rfl) .nil) (fun _ w' W' => c52 w' _ [L1, L1] (Sl.of_blk (enc := SLog.enc) (cap := 2) [L1, L1] W' (k := 0) rfl rfl SLog.enc_len (Nat.le_refl 2) (by decide)) (hl _))) rfl ?_
  clear S a w
  intro a w S
  simp only [issued_two] at S
  have rw_c1 : ((C1.ents.length : Nat) : Int) = 1 := rfl
  have rw_kp : ∀ s : Sls3, (List.any [(C1, s)] fun c : SCart => c.1.ctx.covers U1.dot) = true := fun s => by
    rw [List.any_cons, List.any_nil, Bool.or_false]
    exact (by decide +kernel : C1.ctx.covers U1.dot = true)
  refine run S (.mv rfl <| .ex rfl rfl <| .ex rfl rfl <| .as rfl <| .as rfl <| .z) fun a w S => st_nil (then_normal (hK1 _ _ (wp_seq_k fun _ hK1 => h_begin0 S (by kernel_rfl) fun a w S => hy 0 S rfl (ys_move (.t rfl)) rfl fun a w S => hy 1 S rfl (ys_T (by omega) (ys_eql (.t rfl) Ev.c)) rfl fun a w S => hy 2 S rfl (ys_move (.t rfl)) rfl fun a w S => hyt 3 S rfl rfl rfl (ys_fieldN (FieldT.mk underlying37 rfl sizeOf31 rfl) (.t rfl) (i' := 0) rfl) rfl fun a w S => ?_)))
  refine hyt 4 S rfl rfl rfl (ys_ld ⟨isAgg31, sizeOf31⟩ (.t rfl) (k := 1) rfl rfl) rfl fun a w S => hyt 5 S rfl rfl rfl (ys_lenS underlying31 (.t rfl)) rfl fun a w S => ?_
  rw [rw_c1] at S
  refine hyt 6 S rfl rfl rfl (ys_T (by omega) (ys_eql (.t rfl) Ev.c)) rfl fun a w S => hy 7 S rfl (ys_pickT (.t rfl) (.t rfl)) rfl fun a w S => hy 8 S rfl (ys_move (.t rfl)) rfl fun a w S => hyt 9 S rfl rfl rfl (ys_move (.t rfl)) rfl fun a w S => hyt 10 S rfl rfl rfl (ys_T (by omega) (ys_eql (.t rfl) Ev.c)) rfl fun a w S => ?_
  refine hy 11 S rfl (ys_pickT (.t rfl) (.t rfl)) rfl fun a w S => hy 12 S rfl (ys_move (.t rfl)) rfl fun a w S => hyt 13 S rfl rfl rfl (ys_move (.t rfl)) rfl fun a w S => hyt 14 S rfl rfl rfl (ys_T (by omega) (ys_eql (.t rfl) Ev.c)) rfl fun a w S => hy 15 S rfl (ys_pickT (.t rfl) (.t rfl)) rfl fun a w S => ?_
  refine hy 16 S rfl (ys_move (.t rfl)) rfl fun a w S => hyt 18 S rfl rfl rfl (ys_ldA ⟨isAgg37, sizeOf37⟩ (.t rfl) (k := 1) rfl rfl) rfl fun a w S => ?_
  refine h_splitw S (i := 17) (j := 19) (by kernel_rfl) rfl rfl ⟨_, rfl, rfl⟩ ⟨_, rfl, rfl⟩ ?_ ?_
  (refine op_y S (ys_call call104 .nil (fun hp w W => c104 _)) rfl ?_; clear S a w; intro a w S; refine h_n1 S ?_)
  (refine h_mg (i := 19) S rfl (by kernel_rfl) rfl rfl (op_bslice1 S underlying64 inf37 rfl rfl rfl (.t rfl) rfl rfl rfl ?_); clear S a w; intro g4 a w S; refine h_n2 S ?_)
  rotate_left
  (refine op_bslice1 S underlying64 inf37 rfl rfl rfl (.t rfl) rfl rfl rfl ?_; clear S a w; intro g4 a w S; refine h_n1 S ?_)
  refine h_qg (i := 17) S (by repeat (first | exact List.Sublist.refl _ | exact List.nil_sublist _ | refine .cons_cons _ ?_ | refine .cons _ ?_)) rfl (by kernel_rfl) rfl rfl (ys_call call104 .nil (fun hp w W => c104 _)) rfl fun a w S => ?_
  rotate_left
  · refine h_qg (i := 20) S (by repeat (first | exact List.Sublist.refl _ | exact List.nil_sublist _ | refine .cons_cons _ ?_ | refine .cons _ ?_)) rfl (by kernel_rfl) rfl rfl (ys_call call105 (.cons (.t rfl) (.cons (.t rfl) .nil)) (fun hp w W => c105 w _ _ _ _ _ [(C1, ⟨A1, C1.ents.length, r1, A2, C1.ctx.marks.length, r2, A3, C1.ctx.cloud.length, r3⟩)]
      (Sl.of_blk (enc := SCart.enc) (cap := 1) [(C1, ⟨A1, C1.ents.length, r1, A2, C1.ctx.marks.length, r2, A3, C1.ctx.cloud.length, r3⟩)] W (k := 0) rfl rfl SCart.enc_len (Nat.le_refl 1) (by decide))
      (fun x hx => by rw [List.mem_singleton.1 hx]; exact ⟨Sl.of_own W (k := 3) rfl (fun _ => rfl), Sl.of_own W (k := 4) rfl (fun _ => rfl), Sl.of_own W (k := 5) rfl (fun _ => rfl)⟩))) rfl ?_
    clear S
    intro a w S
    refine hy 21 S rfl (ys_pickT (.t rfl) (.t rfl)) rfl fun a w S => ?_
    rw [rw_kp] at S
    refine hy 22 S rfl (ys_assign (.t rfl)) rfl fun a w S => h_done (by kernel_rfl) (then_normal (hK1 _ _ (wp_ret (st_ret S (results1 S results38 (Rv.tmp rfl)) ?_))))
    exact ⟨rfl, S.wd.below⟩
  · refine h_qg (i := 20) S (by repeat (first | exact List.Sublist.refl _ | exact List.nil_sublist _ | refine .cons_cons _ ?_ | refine .cons _ ?_)) rfl (by kernel_rfl) rfl rfl (ys_call call105 (.cons (.t rfl) (.cons (.t rfl) .nil)) (fun hp w W => c105 w _ _ _ _ _ [(C1, ⟨A1, C1.ents.length, r1, A2, C1.ctx.marks.length, r2, A3, C1.ctx.cloud.length, r3⟩)]
      (Sl.of_blk (enc := SCart.enc) (cap := 1) [(C1, ⟨A1, C1.ents.length, r1, A2, C1.ctx.marks.length, r2, A3, C1.ctx.cloud.length, r3⟩)] W (k := 0) rfl rfl SCart.enc_len (Nat.le_refl 1) (by decide))
      (fun x hx => by rw [List.mem_singleton.1 hx]; exact ⟨Sl.of_own W (k := 3) rfl (fun _ => rfl), Sl.of_own W (k := 4) rfl (fun _ => rfl), Sl.of_own W (k := 5) rfl (fun _ => rfl)⟩))) rfl ?_
    clear S
    intro a w S
    refine hy 21 S rfl (ys_pickT (.t rfl) (.t rfl)) rfl fun a w S => ?_
    rw [rw_kp] at S
    refine hy 22 S rfl (ys_assign (.t rfl)) rfl fun a w S => h_done (by kernel_rfl) (then_normal (hK1 _ _ (wp_ret (st_ret S (results1 S results38 (Rv.tmp rfl)) ?_))))
    exact ⟨rfl, S.wd.below⟩
end Go.Proofs.YtakpdbmdfnialaaGreat
set_option linter.unusedVariables false
set_option linter.unusedSimpArgs false
set_option maxRecDepth 100000
set_option maxHeartbeats 4000000
namespace Go.Fw
def encU (x : UInt64) : List Value := [.int .u64 (x.toNat : Int)]
theorem encU_len (x : UInt64) : (encU x).length = 1 := rfl
end Go.Fw
namespace Go.Proofs.YtakpdbmdfnialaaGreat
open Go.Fw Go.Proofs Go.RowKit Go.Proofs.Tryz
end Go.Proofs.YtakpdbmdfnialaaGreat
set_option linter.unusedVariables false
set_option linter.unusedSimpArgs false
set_option maxRecDepth 100000
set_option maxHeartbeats 4000000
namespace Go.Fw
open Go.RowKit
def SmallU (l : List SUpd) : Prop := ∀ x ∈ l, x.1.seen.ents.length ≤ 1048576 ∧ x.1.seen.ctx.marks.length ≤ 1048576 ∧ x.1.seen.ctx.cloud.length ≤ 1048576
theorem map_take_snocU {s l : List SUpd} {i : Nat} {x : SUpd} {t : Sls3} (h : s.map (·.1) = (l.map (·.1)).take i) (hx : l[i]? = some x) : (s ++ [(x.1, t)]).map (·.1) = (l.map (·.1)).take (i + 1) := by
  rw [List.map_append, h, List.take_add_one, List.getElem?_map, hx]
  rfl
theorem swap_perm {α : Type} {l : List α} {i j : Nat} {x y : α} (hi : l[i]? = some x) (hj : l[j]? = some y) : ((l.set i y).set j x).Perm l := by
  obtain ⟨h1, rfl⟩ := List.getElem?_eq_some_iff.1 hi
  obtain ⟨h2, rfl⟩ := List.getElem?_eq_some_iff.1 hj
  have h := Array.swap_perm (xs := l.toArray) (i := i) (j := j) (by simpa using h1) (by simpa using h2)
  rw [Array.perm_iff_toList_perm] at h
  simpa [Array.swap_def] using h
end Go.Fw
namespace Go.Proofs.YtakpdbmdfnialaaGreat
open Go.Fw Go.Proofs Go.RowKit Go.Proofs.Tryz
theorem c37 (w0 : World) (v : Value) (l : List SUpd) (h : Sl SUpd.enc 10 w0 w0.heap.size v l) (hc : UpdsRd w0 l) (hb : SmallU l) (hn : l.length ≤ 1048576) :
    Rets Tryz.prog 37 #[v] w0 fun u L => ∃ A r s w1 bs, u = .slice A s.length r ∧ L = [rowOf 77 10 SUpd.enc A r s, .ice w1 bs] ∧ s.map (·.1) = l.map (·.1) ∧ ∀ p ∈ s, CartIn w1 bs p.1.seen p.2 := by
  obtain ⟨A, cap, rfl, hl, hcap, hA⟩ := h
  unfold Go.Fw.Rets
  refine enter1 func37 rfl ntmps37 rfl fun a S => sg S (.ac rfl <| .z) fun a w S => sg S (.ac rfl <| .z) fun a w S => wp_seq_k fun _ hK1 => sg S (.mv rfl <| .ln underlying72 rfl <| .mc rfl <| .z) fun a w S => wp_block ?_
  replace S := S.nil_ 77 10 SUpd.enc none
  replace S : St _ _ _ (.ice w0 [] :: _) _ _ := ⟨S.kn, S.wd.bare (fun b hb => by cases hb) (fun b hb => by cases hb)⟩
  refine st_lpM S [3, 8] (X := Nat × Option Addr × Nat × List SUpd × World × List Nat) (fun q => [(3, true, .slice q.2.1 q.2.2.2.1.length q.2.2.1), (8, true, .int .i64 (q.1 : Int))])
    (fun q => [rowOf 77 10 SUpd.enc q.2.1 q.2.2.1 q.2.2.2.1, .ice q.2.2.2.2.1 q.2.2.2.2.2]) (fun q => q.1 ≤ l.length ∧ q.2.2.2.1.map (·.1) = (l.map (·.1)).take q.1 ∧ ∀ p ∈ q.2.2.2.1, CartIn q.2.2.2.2.1 q.2.2.2.2.2 p.1.seen p.2) (fun q => l.length - q.1) (0, none, 0, [], w0, []) ⟨Nat.zero_le _, by simp, by simp⟩ ?_
  clear S
  rintro ⟨i, B, cB, s, w1, bs⟩ a w ⟨hi, hsm, hsi⟩ S
  dsimp only at hi hsm hsi S
  have hsl : s.length = i := by
    have := congrArg List.length hsm
    rw [List.length_map, List.length_take, List.length_map] at this
    omega
  by_cases hlt : i < l.length
  · obtain ⟨gq, oq, x, rfl, hx, hd, hcx⟩ := row_at hA hlt
    have hxc := hc x (List.mem_of_getElem? hx)
    have r1 := hxc.ents
    have r2 := hxc.ctx
    obtain ⟨z1, z2, z3⟩ := hb x (List.mem_of_getElem? hx)
    refine sg S (.lt (by omega) rfl rfl <| .z) fun a w S => wp_seq_k fun _ hK2 => st_then S (.t rfl) (wp_skip (then_normal (hK2 _ _ (wp_seq_k fun _ hK2 => wp_block (wp_seq_k fun _ hK3 => wp_region_lit (run S (.ix underlying72 sizeOf77 (by omega) rfl rfl <| .yy (ys_ldOA ⟨isAgg77, sizeOf77⟩ (.t rfl) (vs := [_, _, _, _, _, _, _, _, _, _]) rfl (fun _ => hcx)) rfl <| .z) fun a w S => st_m (op_alloc S zeroValue77 (cs := _) rfl rfl fun g1 a w S => st_m (op_stW S sizeOf77 (.t rfl) (.t rfl) (k := 0) rfl rfl rfl (by simp [Value.oneCell']) fun a w S => st_nil (then_normal (hK3 _ _ (wp_region_lit (run S (.mv rfl <| .la gt77 0 rfl rfl rfl <| .z) fun a w S => ?_))))))))))))
    (refine st_m (op_calls S call103 (.cons (.t rfl) .nil) (c103 _ _ _ _ _ (by exact .old S.wd (by assumption)) (by exact .old S.wd (by assumption)) (by assumption) (by assumption) (by assumption)) rfl ?_); clear S a w; rintro _ _ ⟨A11, r11, A21, r21, A31, r31, rfl, rfl⟩ a w S)
    refine st_m (op_bslice1 S underlying72 inf77 rfl rfl rfl (.t rfl) rfl rfl rfl fun g2 a w S => ?_)
    have e3 : Upd.enc x.1 (.slice A11 x.1.seen.ents.length r11) (.slice A21 x.1.seen.ctx.marks.length r21) (.slice A31 x.1.seen.ctx.cloud.length r31) = SUpd.enc (x.1, (⟨A11, x.1.seen.ents.length, r11, A21, x.1.seen.ctx.marks.length, r21, A31, x.1.seen.ctx.cloud.length, r31⟩ : Sls3)) := rfl
    rw [e3] at S
    refine st_m (op_push S underlying72 inf77 rfl (k := 5) (j := 0) rfl (.t rfl) (.t rfl) rfl rfl rfl rfl (by first | omega | (simp only [List.length_append, List.length_cons, List.length_nil]; omega)) rfl rfl rfl fun A1 cap1 a w S => run S (.as rfl <| .z) fun a w S => st_nil (in_normal (then_normal (hK2 _ _ (wp_region_lit (run S (.ad (by unfold I64; omega) rfl <| .mv rfl <| .z) fun a w S => st_nil (then_normal ?_)))))))
    obtain ⟨bs', W1, n1, hold⟩ := freeze_cart (X := x.1.seen) (S.wd.picks (L' := [rowOf 100 6 Ent.enc A11 r11 x.1.seen.ents, rowOf 30 3 Dot.enc A21 r21 x.1.seen.ctx.marks, rowOf 74 3 Dot.enc A31 r31 x.1.seen.ctx.cloud, .ice w1 bs, rowOf 77 10 SUpd.enc A1 cap1 (s ++ [(x.1, (⟨A11, x.1.seen.ents.length, r11, A21, x.1.seen.ctx.marks.length, r21, A31, x.1.seen.ctx.cloud.length, r31⟩ : Sls3))])]) (by repeat (first | exact Picks.nil | (refine Picks.rest ?_; (repeat (first | exact List.Sublist.refl _ | refine List.Sublist.cons_cons _ ?_ | refine List.Sublist.cons _ ?_)); done) | refine Picks.take 0 rfl ?_ | refine Picks.take 1 rfl ?_ | refine Picks.take 2 rfl ?_ | refine Picks.take 3 rfl ?_ | refine Picks.take 4 rfl ?_ | refine Picks.take 5 rfl ?_ | refine Picks.take 6 rfl ?_ | refine Picks.take 7 rfl ?_ | refine Picks.take 8 rfl ?_ | refine Picks.take 9 rfl ?_ | refine Picks.take 10 rfl ?_ | refine Picks.take 11 rfl ?_)))
    replace S := St.mk S.kn W1
    refine ⟨(i + 1, A1, cap1, s ++ [(x.1, (⟨A11, x.1.seen.ents.length, r11, A21, x.1.seen.ctx.marks.length, r21, A31, x.1.seen.ctx.cloud.length, r31⟩ : Sls3))], _, bs'), ⟨by dsimp only; omega, map_take_snocU hsm hx, fun p hp => ?_⟩, by dsimp only; omega, S.pk⟩
    rcases List.mem_append.1 hp with hp | hp
    · exact hold _ _ (hsi p hp)
    · rw [List.mem_singleton.1 hp]; exact n1
  obtain rfl : i = l.length := by omega
  rw [List.take_of_length_le (by simp)] at hsm
  refine sg S (.ge (by omega) rfl rfl <| .z) fun a w S => wp_seq_k fun _ hK2 => st_else S (.t rfl) (wp_exit (then_exit (then_exit (in_here (then_normal (hK1 _ _ (sg S (.mv rfl <| .as rfl <| .z) fun a w S => wp_ret (st_ret S (results1 S results37 (Rv.tmp rfl)) ?_))))))))
  exact ⟨_, _, rfl, S.wd.pk, _, _, s, _, _, rfl, rfl, hsm, hsi⟩
theorem c7 (w0 : World) (v1 v2 : Value) (l : List SUpd) (o : List UInt64) (h : Sl SUpd.enc 10 w0 w0.heap.size v1 l) (hc : UpdsRd w0 l) (hb : SmallU l) (hn : l.length ≤ 1048576) (h2 : Sl encU 1 w0 w0.heap.size v2 o) :
    Calls Tryz.prog 7 #[v1, v2] w0 fun e w' => e = .returned (.bool true) ∧ Bel w0.heap.size w0 w' := by
  have hs := h
  have hs2 := h2
  obtain ⟨A, cap, rfl, hl, hcap, hA⟩ := h
  obtain ⟨A', cap', rfl, hl', hcap', hA'⟩ := h2
  refine enter2 func7 rfl ntmps7 rfl fun a S => sg S (.ac rfl <| .z) fun a w S => wp_seq_k fun _ hK1 => wp_region_lit (run S (.mv rfl <| .z) fun a w S => ?_)
  (refine st_m (op_calls S call37 (.cons (.t rfl) .nil) (c37 _ _ _ (by exact .old S.wd (by assumption)) (by exact .old S.wd (by assumption)) (by assumption) (by assumption)) rfl ?_); clear S a w; rintro _ _ ⟨A1, r1, s1, w11, bs1, rfl, rfl, hr11, hr21⟩ a w S)
  refine run S (.as rfl <| .z) fun a w S => st_nil (then_normal (hK1 _ _ (wp_seq_k fun _ hK1 => sg S (.mv rfl <| .ln underlying72 rfl <| .yy (ys_gtr (.t rfl) Ev.c) rfl <| .z) fun a w S => ?_)))
  refine st_if S (.t rfl) (fun h1 => ?_) (fun h1 => ?_)
  refine sg S (.xx (ys_call call38 .nil (fun hp w W => c38 _)) rfl <| .as rfl <| .z) fun a w S => wp_ret (then_ret (st_ret S (results1 S results7 (Rv.tmp rfl)) ?_))
  rotate_left
  refine wp_skip (then_normal (hK1 _ _ (wp_seq_k fun _ hK1 => sg S (.mv rfl <| .ln underlying72 rfl <| .mc rfl <| .z) fun a w S => wp_block ?_)))
  rotate_left
  · exact ⟨rfl, S.wd.below⟩
  have hs1 : s1.length ≤ 60 := by omega
  refine st_lpM S [20] (X := Nat × List SUpd) (fun q => [(20, true, .int .i64 (q.1 : Int))]) (fun q => [rowOf 77 10 SUpd.enc A1 r1 q.2, .ice w11 bs1]) (fun q => q.1 ≤ s1.length ∧ q.2.Perm s1) (fun q => s1.length - q.1) (0, s1) ⟨Nat.zero_le _, .refl _⟩ ?_
  clear S
  rintro ⟨i, s⟩ a w ⟨hi, hp⟩ S
  dsimp only at hi hp S
  have hsl := hp.length_eq
  by_cases hlt : i < s1.length
  · have rw_i : (i : Int) + 1 = ((i + 1 : Nat) : Int) := rfl
    obtain ⟨gS, rfl⟩ := S.wd.row_at (k := 0) rfl (by have := (S.wd.room (k := 0) rfl).1; omega)
    obtain ⟨x, hx⟩ : ∃ x, s[i]? = some x := ⟨_, List.getElem?_eq_getElem (by omega)⟩
    by_cases ho : i < o.length
    · obtain ⟨gq, oq, p, rfl, hpx, hd, hcx⟩ := row_at hA' ho
      have hj := Nat.mod_lt p.toNat (show 0 < s1.length - i by omega)
      have rw_r : (p.toNat : Int) % ((s1.length : Int) - (i : Int)) = ((p.toNat % (s1.length - i) : Nat) : Int) := by
        rw [Int.natCast_emod, Int.ofNat_sub (by omega)]
      generalize p.toNat % (s1.length - i) = t at *
      have rw_w : IntKind.i64.wrap (t : Int) = (t : Int) := by rw [IntKind.wrap_i64]; omega
      have rw_w2 : IntKind.i64.wrap ((i : Int) + (t : Int)) = ((i + t : Nat) : Int) := by rw [IntKind.wrap_i64]; omega
      have rw_s : (i : Int) + (t : Int) = ((i + t : Nat) : Int) := rfl
      obtain ⟨z, hz⟩ : ∃ z, s[i + t]? = some z := ⟨_, List.getElem?_eq_getElem (by omega)⟩
      obtain ⟨z2, hz2⟩ : ∃ z2, (s.set i z)[i + t]? = some z2 := ⟨_, List.getElem?_eq_getElem (by rw [List.length_set]; omega)⟩
      refine sg S (.lt (by omega) rfl rfl <| .z) fun a w S => wp_seq_k fun _ hK2 => st_then S (.t rfl) (wp_skip (then_normal (hK2 _ _ (wp_seq_k fun _ hK2 => wp_block (sg S (.mv rfl <| .as rfl <| .z) fun a w S => sg S (.mv rfl <| .as rfl <| .z) fun a w S => wp_seq_k fun _ hK3 => sg S (.mv rfl <| .mv rfl <| .ln underlying58 rfl <| .lt (by omega) rfl rfl <| .z) fun a w S => st_then S (.t rfl) (wp_region_lit (run S (.mv rfl <| .mv rfl <| .mv rfl <| .ix underlying58 sizeOf61 (by omega) rfl rfl <| .yy (ys_ldO ⟨isAgg61, sizeOf61⟩ (.t rfl) (fun _ => hcx 0 _ rfl)) rfl <| .mv rfl <| .ln underlying72 rfl <| .mv rfl <| .yy (ys_subI (.t rfl) (.t rfl) (fun _ => by unfold I64; omega)) rfl <| .yy (ys_cvU underlying3 underlying61 (.t rfl) (fun _ => by omega)) rfl <| .yy (ys_remE (.t rfl) (.t rfl) (fun _ => by omega)) rfl <| .z) fun a w S => ?_)))))))
      rw [rw_r] at S
      refine run S (.yy (ys_cvI underlying61 underlying3 (.t rfl) (fun _ => by unfold I64; omega)) rfl <| .yy (ys_addI (.t rfl) (.t rfl) (fun _ => by unfold I64; omega)) rfl <| .z) fun a w S => ?_
      rw [rw_s] at S
      refine run S (.as rfl <| .z) fun a w S => st_nil (then_normal (hK3 _ _ (h_beginE S (by kernel_rfl) 0 fun a w S => hy 0 S rfl (ys_move (.t rfl)) rfl fun a w S => hy 1 S rfl (ys_move (.t rfl)) rfl fun a w S => hy 2 S rfl (ys_move (.t rfl)) rfl fun a w S => hy 3 S rfl (ys_move (.t rfl)) rfl fun a w S => hy 4 S rfl (ys_move (.t rfl)) rfl fun a w S => ?_)))
      refine hy 5 S rfl (ys_move (.t rfl)) rfl fun a w S => hy 6 S rfl (ys_ixS underlying72 sizeOf77 (.t rfl) (.t rfl) (fun _ => by omega)) rfl fun a w S => hy 8 S rfl (ys_move (.t rfl)) rfl fun a w S => hy 9 S rfl (ys_move (.t rfl)) rfl fun a w S => hy 10 S rfl (ys_ixS underlying72 sizeOf77 (.t rfl) (.t rfl) (fun _ => by omega)) rfl fun a w S => ?_
      refine h_split (i := 7) (j := 11) (by kernel_rfl) rfl rfl ?_ ?_
      (refine op_y S (Yr.ys (ys_ldWA ⟨isAgg77, sizeOf77⟩ (.t rfl) (k := 0) rfl hz (fun _ => rfl))) rfl ?_; clear S a w; intro a w S; refine h_n1 S ?_)
      refine h_q (i := 11) S (by repeat (first | exact List.Sublist.refl _ | exact List.nil_sublist _ | refine .cons_cons _ ?_ | refine .cons _ ?_)) rfl (by kernel_rfl) (Yr.ys (ys_ldWA ⟨isAgg77, sizeOf77⟩ (.t rfl) (k := 0) rfl hx (fun _ => rfl))) rfl fun a w S => hy 12 S rfl (ys_ixS underlying72 sizeOf77 (.t rfl) (.t rfl) (fun _ => by omega)) rfl fun a w S => ?_
      rotate_left
      (refine op_y S (Yr.ys (ys_ldWA ⟨isAgg77, sizeOf77⟩ (.t rfl) (k := 0) rfl hx (fun _ => rfl))) rfl ?_; clear S a w; intro a w S; refine h_n1 S ?_)
      refine h_q (i := 7) S (by repeat (first | exact List.Sublist.refl _ | exact List.nil_sublist _ | refine .cons_cons _ ?_ | refine .cons _ ?_)) rfl (by kernel_rfl) (Yr.ys (ys_ldWA ⟨isAgg77, sizeOf77⟩ (.t rfl) (k := 0) rfl hz (fun _ => rfl))) rfl fun a w S => hy 12 S rfl (ys_ixS underlying72 sizeOf77 (.t rfl) (.t rfl) (fun _ => by omega)) rfl fun a w S => ?_
      rotate_left
      · refine h_m0 (i := 13) rfl (by kernel_rfl) (op_stRow (enc := SUpd.enc) (size := 10) (i := i) (l := s) (yn := z) S (fun _ => rfl) rfl sizeOf77 (.t rfl) (.t rfl) rfl (SUpd.enc_one _) (k := 0) rfl hx (Nat.zero_add _) ?_)
        clear S
        intro a w S
        refine h_n1 S ?_
        refine hy 14 S rfl (ys_ixS underlying72 sizeOf77 (.t rfl) (.t rfl) (fun _ => by omega)) rfl fun a w S => h_m0 (i := 15) rfl (by kernel_rfl) (op_stRow (enc := SUpd.enc) (size := 10) (i := i + t) (l := s.set i z) (yn := x) S (fun _ => rfl) rfl sizeOf77 (.t rfl) (.t rfl) rfl (SUpd.enc_one _) (k := 0) rfl hz2 (Nat.zero_add _) ?_)
        clear S
        intro a w S
        refine h_n1 S ?_
        refine h_done (by kernel_rfl) (in_normal (then_normal (hK2 _ _ (wp_region_lit (run S (.ad (by unfold I64; omega) rfl <| .z) fun a w S => ?_)))))
        rw [rw_i] at S
        refine run S (.mv rfl <| .z) fun a w S => st_nil (then_normal ?_)
        exact ⟨(i + 1, (s.set i z).set (i + t) x), ⟨by dsimp only; omega, (swap_perm hx hz).trans hp⟩, by dsimp only; omega, S.pk⟩
      · refine h_m0 (i := 13) rfl (by kernel_rfl) (op_stRow (enc := SUpd.enc) (size := 10) (i := i) (l := s) (yn := z) S (fun _ => rfl) rfl sizeOf77 (.t rfl) (.t rfl) rfl (SUpd.enc_one _) (k := 0) rfl hx (Nat.zero_add _) ?_)
        clear S
        intro a w S
        refine h_n1 S ?_
        refine hy 14 S rfl (ys_ixS underlying72 sizeOf77 (.t rfl) (.t rfl) (fun _ => by omega)) rfl fun a w S => h_m0 (i := 15) rfl (by kernel_rfl) (op_stRow (enc := SUpd.enc) (size := 10) (i := i + t) (l := s.set i z) (yn := x) S (fun _ => rfl) rfl sizeOf77 (.t rfl) (.t rfl) rfl (SUpd.enc_one _) (k := 0) rfl hz2 (Nat.zero_add _) ?_)
        clear S
        intro a w S
        refine h_n1 S ?_
        refine h_done (by kernel_rfl) (in_normal (then_normal (hK2 _ _ (wp_region_lit (run S (.ad (by unfold I64; omega) rfl <| .z) fun a w S => ?_)))))
        rw [rw_i] at S
        refine run S (.mv rfl <| .z) fun a w S => st_nil (then_normal ?_)
        exact ⟨(i + 1, (s.set i z).set (i + t) x), ⟨by dsimp only; omega, (swap_perm hx hz).trans hp⟩, by dsimp only; omega, S.pk⟩
    · skip
      obtain ⟨z2, hz2⟩ : ∃ z2, (s.set i x)[i]? = some z2 := ⟨_, List.getElem?_eq_getElem (by rw [List.length_set]; omega)⟩
      refine sg S (.lt (by omega) rfl rfl <| .z) fun a w S => wp_seq_k fun _ hK2 => st_then S (.t rfl) (wp_skip (then_normal (hK2 _ _ (wp_seq_k fun _ hK2 => wp_block (sg S (.mv rfl <| .as rfl <| .z) fun a w S => sg S (.mv rfl <| .as rfl <| .z) fun a w S => wp_seq_k fun _ hK3 => sg S (.mv rfl <| .mv rfl <| .ln underlying58 rfl <| .ge (by omega) rfl rfl <| .z) fun a w S => st_else S (.t rfl) (wp_skip (then_normal (hK3 _ _ (h_beginE S (by kernel_rfl) 0 fun a w S => hy 0 S rfl (ys_move (.t rfl)) rfl fun a w S => hy 1 S rfl (ys_move (.t rfl)) rfl fun a w S => ?_)))))))))
      refine hy 2 S rfl (ys_move (.t rfl)) rfl fun a w S => hy 3 S rfl (ys_move (.t rfl)) rfl fun a w S => hy 4 S rfl (ys_move (.t rfl)) rfl fun a w S => hy 5 S rfl (ys_move (.t rfl)) rfl fun a w S => hy 6 S rfl (ys_ixS underlying72 sizeOf77 (.t rfl) (.t rfl) (fun _ => by omega)) rfl fun a w S => ?_
      refine hy 8 S rfl (ys_move (.t rfl)) rfl fun a w S => hy 9 S rfl (ys_move (.t rfl)) rfl fun a w S => hy 10 S rfl (ys_ixS underlying72 sizeOf77 (.t rfl) (.t rfl) (fun _ => by omega)) rfl fun a w S => ?_
      refine h_split (i := 7) (j := 11) (by kernel_rfl) rfl rfl ?_ ?_
      (refine op_y S (Yr.ys (ys_ldWA ⟨isAgg77, sizeOf77⟩ (.t rfl) (k := 0) rfl hx (fun _ => rfl))) rfl ?_; clear S a w; intro a w S; refine h_n1 S ?_)
      refine h_q (i := 11) S (by repeat (first | exact List.Sublist.refl _ | exact List.nil_sublist _ | refine .cons_cons _ ?_ | refine .cons _ ?_)) rfl (by kernel_rfl) (Yr.ys (ys_ldWA ⟨isAgg77, sizeOf77⟩ (.t rfl) (k := 0) rfl hx (fun _ => rfl))) rfl fun a w S => hy 12 S rfl (ys_ixS underlying72 sizeOf77 (.t rfl) (.t rfl) (fun _ => by omega)) rfl fun a w S => ?_
      rotate_left
      (refine op_y S (Yr.ys (ys_ldWA ⟨isAgg77, sizeOf77⟩ (.t rfl) (k := 0) rfl hx (fun _ => rfl))) rfl ?_; clear S a w; intro a w S; refine h_n1 S ?_)
      refine h_q (i := 7) S (by repeat (first | exact List.Sublist.refl _ | exact List.nil_sublist _ | refine .cons_cons _ ?_ | refine .cons _ ?_)) rfl (by kernel_rfl) (Yr.ys (ys_ldWA ⟨isAgg77, sizeOf77⟩ (.t rfl) (k := 0) rfl hx (fun _ => rfl))) rfl fun a w S => hy 12 S rfl (ys_ixS underlying72 sizeOf77 (.t rfl) (.t rfl) (fun _ => by omega)) rfl fun a w S => ?_
      rotate_left
      · refine h_m0 (i := 13) rfl (by kernel_rfl) (op_stRow (enc := SUpd.enc) (size := 10) (i := i) (l := s) (yn := x) S (fun _ => rfl) rfl sizeOf77 (.t rfl) (.t rfl) rfl (SUpd.enc_one _) (k := 0) rfl hx (Nat.zero_add _) ?_)
        clear S
        intro a w S
        refine h_n1 S ?_
        refine hy 14 S rfl (ys_ixS underlying72 sizeOf77 (.t rfl) (.t rfl) (fun _ => by omega)) rfl fun a w S => h_m0 (i := 15) rfl (by kernel_rfl) (op_stRow (enc := SUpd.enc) (size := 10) (i := i) (l := s.set i x) (yn := x) S (fun _ => rfl) rfl sizeOf77 (.t rfl) (.t rfl) rfl (SUpd.enc_one _) (k := 0) rfl hz2 (Nat.zero_add _) ?_)
        clear S
        intro a w S
        refine h_n1 S ?_
        refine h_done (by kernel_rfl) (in_normal (then_normal (hK2 _ _ (wp_region_lit (run S (.ad (by unfold I64; omega) rfl <| .z) fun a w S => ?_)))))
        rw [rw_i] at S
        refine run S (.mv rfl <| .z) fun a w S => st_nil (then_normal ?_)
        exact ⟨(i + 1, (s.set i x).set (i) x), ⟨by dsimp only; omega, (swap_perm hx hx).trans hp⟩, by dsimp only; omega, S.pk⟩
      · refine h_m0 (i := 13) rfl (by kernel_rfl) (op_stRow (enc := SUpd.enc) (size := 10) (i := i) (l := s) (yn := x) S (fun _ => rfl) rfl sizeOf77 (.t rfl) (.t rfl) rfl (SUpd.enc_one _) (k := 0) rfl hx (Nat.zero_add _) ?_)
        clear S
        intro a w S
        refine h_n1 S ?_
        refine hy 14 S rfl (ys_ixS underlying72 sizeOf77 (.t rfl) (.t rfl) (fun _ => by omega)) rfl fun a w S => h_m0 (i := 15) rfl (by kernel_rfl) (op_stRow (enc := SUpd.enc) (size := 10) (i := i) (l := s.set i x) (yn := x) S (fun _ => rfl) rfl sizeOf77 (.t rfl) (.t rfl) rfl (SUpd.enc_one _) (k := 0) rfl hz2 (Nat.zero_add _) ?_)
        clear S
        intro a w S
        refine h_n1 S ?_
        refine h_done (by kernel_rfl) (in_normal (then_normal (hK2 _ _ (wp_region_lit (run S (.ad (by unfold I64; omega) rfl <| .z) fun a w S => ?_)))))
        rw [rw_i] at S
        refine run S (.mv rfl <| .z) fun a w S => st_nil (then_normal ?_)
        exact ⟨(i + 1, (s.set i x).set (i) x), ⟨by dsimp only; omega, (swap_perm hx hx).trans hp⟩, by dsimp only; omega, S.pk⟩
  obtain rfl : i = s1.length := by omega
  have hsi : ∀ p ∈ s, CartIn w11 bs1 p.1.seen p.2 := fun p hx => hr21 p (hp.mem_iff.1 hx)
  have hpu := (hp.map (·.1)).trans (by rw [hr11] : List.Perm (s1.map (·.1)) (l.map (·.1)))
  have hpp := meant_perm hpu.symm
  refine sg S (.ge (by omega) rfl rfl <| .z) fun a w S => wp_seq_k fun _ hK2 => st_else S (.t rfl) (wp_exit (then_exit (then_exit (in_here (then_normal (hK1 _ _ (wp_seq_k fun _ hK1 => wp_region_lit (run S (.mv rfl <| .z) fun a w S => ?_))))))))
  (refine st_m (op_calls S call37 (.cons (.t rfl) .nil) (c37 _ _ _ (by exact .old S.wd (by assumption)) (by exact .old S.wd (by assumption)) (by assumption) (by assumption)) rfl ?_); clear S a w; rintro _ _ ⟨A2, r2, s2, w12, bs2, rfl, rfl, hr12, hr22⟩ a w S)
  have hm2 : s2.map (·.1) = l.map (·.1) := by assumption
  have hi2 : ∀ p ∈ s2, CartIn w12 bs2 p.1.seen p.2 := by assumption
  have hl2 : s2.length = l.length := by have := congrArg List.length hm2; simpa using this
  have hl1 : s1.length = l.length := by have := congrArg List.length hr11; simpa using this
  refine st_m (op_calls S call39 (.cons (.t rfl) .nil) (c39 _ _ s2 (Sl.of_own S.wd (k := 0) rfl (fun _ => rfl)) (fun x hx => (hi2 x hx).rd S.wd (k := 1) rfl) (by omega) (room_few (by rw [List.length_map]; omega))) rfl ?_)
  clear S a w
  rintro _ _ ⟨B1, b1, B2, b2, B3, b3, rfl, rfl⟩ a w S
  rw [hm2] at S
  obtain ⟨X, hX⟩ : ∃ X, (meantK (l.map (·.1))).1 = X := ⟨_, rfl⟩
  rw [hX] at hpp
  have rw_x := hX
  have rw_y : (meantK (s.map (·.1))).1 = X := hpp.2.symm
  have rw_b : ∀ b : Bool, (b == b) = true := fun b => by simp
  have rw_d : ∀ c : Cart, decide (c = c) = true := fun c => decide_eq_true rfl
  refine run S (.mv rfl <| .z) fun a w S => ?_
  rw [rw_x] at S
  refine run S (.ex rfl rfl <| .ex rfl rfl <| .z) fun a w S => st_m (op_alloc S zeroValue37 (cs := _) rfl rfl fun g1 a w S => st_m (op_stW S sizeOf37 (.t rfl) (.t rfl) (k := 0) rfl rfl rfl (by simp [Value.oneCell']) fun a w S => run S (.as rfl <| .z) fun a w S => st_nil (then_normal (hK1 _ _ (wp_seq_k fun _ hK1 => wp_region_lit (run S (.mv rfl <| .z) fun a w S => ?_))))))
  rw [← hsl] at S
  refine st_m (op_calls S call39 (.cons (.t rfl) .nil) (c39 _ _ s (Sl.of_own S.wd (k := 6) rfl (fun _ => rfl)) (fun x hx => (hsi x hx).rd S.wd (k := 7) rfl) (by omega) (room_few (by rw [List.length_map]; omega))) rfl ?_)
  clear S a w
  rintro _ _ ⟨D1, d1, D2, d2, D3, d3, rfl, rfl⟩ a w S
  simp only [rw_y] at S
  by_cases he : (meantK (l.map (·.1))).2 = 0
  · have rw_e := he
    have rw_f := hpp.1.1 he
    refine run S (.mv rfl <| .z) fun a w S => ?_
    rw [rw_e] at S
    rw [rw_f] at S
    refine run S (.ex rfl rfl <| .ex rfl rfl <| .z) fun a w S => st_m (op_alloc S zeroValue37 (cs := _) rfl rfl fun g2 a w S => st_m (op_stW S sizeOf37 (.t rfl) (.t rfl) (k := 0) rfl rfl rfl (by simp [Value.oneCell']) fun a w S => run S (.as rfl <| .z) fun a w S => st_nil (then_normal (hK1 _ _ (wp_seq_k fun _ hK1 => wp_region_lit (run S (.mv rfl <| .yy (ys_T (by omega) (ys_eql (.t rfl) Ev.c)) rfl <| .mv rfl <| .yy (ys_T (by omega) (ys_eql (.t rfl) Ev.c)) rfl <| .yy (ys_eqlB underlying4 (.t rfl) (.t rfl)) rfl <| .z) fun a w S => ?_))))))
    rw [rw_b] at S
    refine run S (.mv rfl <| .gy rfl rfl (ys_ldA ⟨isAgg37, sizeOf37⟩ (.t rfl) (k := 4) rfl rfl) <| .gy rfl rfl (ys_ldA ⟨isAgg37, sizeOf37⟩ (.t rfl) (k := 0) rfl rfl) <| .gx rfl rfl (ys_call call19 (.cons (.t rfl) (.cons (.t rfl) .nil)) (fun hp w W => c19 _ _ _ _ _ _ _ _ _ (by exact Sl.of_own W (k := 5) rfl (fun _ => rfl)) (by exact ⟨(by exact Sl.of_own W (k := 6) rfl (fun _ => rfl)), (by exact Sl.of_own W (k := 7) rfl (fun _ => rfl))⟩) (by exact Sl.of_own W (k := 1) rfl (fun _ => rfl)) (by exact ⟨(by exact Sl.of_own W (k := 2) rfl (fun _ => rfl)), (by exact Sl.of_own W (k := 3) rfl (fun _ => rfl))⟩))) <| .z) fun a w S => ?_
    simp only [List.nil_append] at S
    refine run S (.yy (ys_pickT (.t rfl) (.t rfl)) rfl <| .mv rfl <| .gx rfl rfl (ys_call call38 .nil (fun hp w W => c38 _)) <| .yy (ys_pickT (.t rfl) (.t rfl)) rfl <| .as rfl <| .z) fun a w S => st_nil (then_normal (hK1 _ _ (wp_ret (st_ret S (results1 S results7 (Rv.tmp rfl)) ?_))))
    exact ⟨rfl, S.wd.below⟩
  · have rw_e := decide_eq_false he
    have rw_f := decide_eq_false (fun e => he (hpp.1.2 e))
    refine run S (.mv rfl <| .ex rfl rfl <| .ex rfl rfl <| .z) fun a w S => st_m (op_alloc S zeroValue37 (cs := _) rfl rfl fun g2 a w S => st_m (op_stW S sizeOf37 (.t rfl) (.t rfl) (k := 0) rfl rfl rfl (by simp [Value.oneCell']) fun a w S => run S (.as rfl <| .z) fun a w S => st_nil (then_normal (hK1 _ _ (wp_seq_k fun _ hK1 => wp_region_lit (run S (.mv rfl <| .yy (ys_F (by omega) (ys_eql (.t rfl) Ev.c)) rfl <| .mv rfl <| .yy (ys_F (by omega) (ys_eql (.t rfl) Ev.c)) rfl <| .yy (ys_eqlB underlying4 (.t rfl) (.t rfl)) rfl <| .z) fun a w S => ?_))))))
    rw [rw_b] at S
    refine run S (.mv rfl <| .gy rfl rfl (ys_ldA ⟨isAgg37, sizeOf37⟩ (.t rfl) (k := 4) rfl rfl) <| .gy rfl rfl (ys_ldA ⟨isAgg37, sizeOf37⟩ (.t rfl) (k := 0) rfl rfl) <| .gx rfl rfl (ys_call call19 (.cons (.t rfl) (.cons (.t rfl) .nil)) (fun hp w W => c19 _ _ _ _ _ _ _ _ _ (by exact Sl.of_own W (k := 5) rfl (fun _ => rfl)) (by exact ⟨(by exact Sl.of_own W (k := 6) rfl (fun _ => rfl)), (by exact Sl.of_own W (k := 7) rfl (fun _ => rfl))⟩) (by exact Sl.of_own W (k := 1) rfl (fun _ => rfl)) (by exact ⟨(by exact Sl.of_own W (k := 2) rfl (fun _ => rfl)), (by exact Sl.of_own W (k := 3) rfl (fun _ => rfl))⟩))) <| .z) fun a w S => ?_
    simp only [List.nil_append] at S
    refine run S (.yy (ys_pickT (.t rfl) (.t rfl)) rfl <| .mv rfl <| .gx rfl rfl (ys_call call38 .nil (fun hp w W => c38 _)) <| .yy (ys_pickT (.t rfl) (.t rfl)) rfl <| .as rfl <| .z) fun a w S => st_nil (then_normal (hK1 _ _ (wp_ret (st_ret S (results1 S results7 (Rv.tmp rfl)) ?_))))
    exact ⟨rfl, S.wd.below⟩
end Go.Proofs.YtakpdbmdfnialaaGreat
set_option linter.unusedVariables false
set_option linter.unusedSimpArgs false
set_option maxRecDepth 100000
namespace Go.Proofs.YtakpdbmdfnialaaGreat
open Go.Fw Go.Proofs Go.RowKit Go.ChangeShapes Go.WideShapes Go.ChangeAt Go.Deep Go.Joins Go.Proofs.Tryz
section
variable {H : Type} {enc : TypeId × Value → H} {w : World}
def lensC (X : Cart) (b : Nat) : Prop := X.ents.length ≤ b ∧ X.ctx.marks.length ≤ b ∧ X.ctx.cloud.length ≤ b
def SuRd (w : World) (s : SUpd) (b : Nat) : Prop := CartRd w s.1.seen s.2 ∧ lensC s.1.seen b ∧ s.1.key.length ≤ b
theorem rdSU : Rdr enc Tryz.prog w 77 fun cs b => ∃ s : SUpd, cs = SUpd.enc s ∧ SuRd w s b := rdUpd.mono fun cs b ⟨u, v1, v2, v3, e, hX, hk, _⟩ => by
  obtain ⟨h1, ⟨h2, h3⟩, l1, l2, l3, _⟩ := hX
  have k1 := h1
  have k2 := h2
  have k3 := h3
  obtain ⟨A1, c1, rfl, _⟩ := h1
  obtain ⟨A2, c2, rfl, _⟩ := h2
  obtain ⟨A3, c3, rfl, _⟩ := h3
  exact ⟨(u, ⟨A1, _, c1, A2, _, c2, A3, _, c3⟩), e, ⟨k1, k2, k3⟩, ⟨by dsimp only; omega, by dsimp only; omega, by dsimp only; omega⟩, hk⟩
theorem read_upds {v : Value} {d : DataW H} {p : List MemPlace} (hv : ∃ A len cap, v = .slice A len cap) (h : DataW.Trod enc Tryz.prog w 0 (fun _ => true) true 72 v d p) (hb : Rows.uptoBulk d ≤ 1048576) :
    ∃ l, Sl SUpd.enc 10 w w.heap.size v l ∧ l.length + 1 ≤ Rows.uptoBulk d ∧ UpdsRd w l ∧ SmallU l := by
  obtain ⟨v', l, hc, hs, hl, hf⟩ := Rdr.top (Rdr.slice (k := 10) underlying72 (by kernel_rfl) rfl SUpd.enc_len rdSU) h
  obtain ⟨A, n, c, rfl⟩ := hv
  simp only [Value.cells, List.cons.injEq, and_true] at hc
  subst hc
  refine ⟨l, hs, hl, fun x hx => ?_, fun x hx => ?_⟩
  · obtain ⟨b', h1, h2, _⟩ := hf x hx
    exact h2
  · obtain ⟨b', h1, h2, ⟨h3, h4, h5⟩, h6⟩ := hf x hx
    omega
end
end Go.Proofs.YtakpdbmdfnialaaGreat
set_option linter.unusedVariables false
set_option linter.unusedSimpArgs false
set_option maxRecDepth 100000
namespace Go.Proofs.YtakpdbmdfnialaaGreat
open Go.Fw Go.Proofs Go.RowKit Go.ChangeShapes Go.WideShapes Go.ChangeAt Go.Deep Go.Joins Go.Proofs.Tryz
section
variable {H : Type} {enc : TypeId × Value → H} {w : World}
theorem rdUint : Rdr enc Tryz.prog w 61 fun cs _ => ∃ x : UInt64, cs = encU x ∧ True := (Rdr.int underlying61).mono fun cs b ⟨n, e, h⟩ => by
  obtain ⟨p, rfl⟩ := u64_wf h
  exact ⟨p, e, trivial⟩
theorem read_uints {v : Value} {d : DataW H} {p : List MemPlace} (hv : ∃ A len cap, v = .slice A len cap) (h : DataW.Trod enc Tryz.prog w 0 (fun _ => true) true 58 v d p) :
    ∃ l, Sl encU 1 w w.heap.size v l ∧ l.length + 1 ≤ Rows.uptoBulk d := by
  obtain ⟨v', l, hc, hs, hl, hf⟩ := Rdr.top (Rdr.slice (k := 1) underlying58 (by kernel_rfl) rfl encU_len rdUint) h
  obtain ⟨A, n, c, rfl⟩ := hv
  simp only [Value.cells, List.cons.injEq, and_true] at hc
  subst hc
  exact ⟨l, hs, hl⟩
end
end Go.Proofs.YtakpdbmdfnialaaGreat
