/- Contracts and laws that the statement Rsa leans on, part 4. -/
import Derived.Test.YtakpdbmdfnialaaRsaK3
set_option linter.unusedVariables false
set_option linter.unusedSimpArgs false
set_option maxRecDepth 100000
set_option maxHeartbeats 4000000
namespace Go.Fw
open Go.RowKit
theorem freeze_cart {w0 w w1 : World} {L : List Chunk} {bs : List Nat} {e1 e2 e3 : TypeId} {A1 A2 A3 : Option Addr} {c1 c2 c3 : Nat} {X : Cart}
    (W : Wd w0 (rowOf e1 6 Ent.enc A1 c1 X.ents :: rowOf e2 3 Dot.enc A2 c2 X.ctx.marks :: rowOf e3 3 Dot.enc A3 c3 X.ctx.cloud :: .ice w1 bs :: L) w) :
    ∃ bs', Wd w0 (.ice w bs' :: L) w ∧ CartIn w bs' X ⟨A1, X.ents.length, c1, A2, X.ctx.marks.length, c2, A3, X.ctx.cloud.length, c3⟩ ∧ ∀ Y t, CartIn w1 bs Y t → CartIn w bs' Y t := by
  have W1 := Wd.freeze (cs := [rowOf e1 6 Ent.enc A1 c1 X.ents, rowOf e2 3 Dot.enc A2 c2 X.ctx.marks, rowOf e3 3 Dot.enc A3 c3 X.ctx.cloud, .ice w1 bs]) W
  generalize hcs0 : [rowOf e1 6 Ent.enc A1 c1 X.ents, rowOf e2 3 Dot.enc A2 c2 X.ctx.marks, rowOf e3 3 Dot.enc A3 c3 X.ctx.cloud, .ice w1 bs] = cs0 at W1
  have hblk : ∀ (k : Nat) (c : Chunk), cs0[k]? = some c → ∀ b ∈ c.blocks, b ∈ cs0.flatMap Chunk.blocks := fun k c hk b hb => List.mem_flatMap.2 ⟨c, List.mem_of_getElem? hk, hb⟩
  refine ⟨_, W1, ⟨SlIn.row W (k := 0) rfl (fun _ => rfl) (hblk 0 _ (by rw [← hcs0]; rfl)), SlIn.row W (k := 1) rfl (fun _ => rfl) (hblk 1 _ (by rw [← hcs0]; rfl)), SlIn.row W (k := 2) rfl (fun _ => rfl) (hblk 2 _ (by rw [← hcs0]; rfl))⟩, fun Y t h => h.anew W (k := 3) rfl (hblk 3 (.ice w1 bs) (by rw [← hcs0]; rfl))⟩
def SmallC (l : List SCart) : Prop := ∀ x ∈ l, x.1.ents.length ≤ 1048576 ∧ x.1.ctx.marks.length ≤ 1048576 ∧ x.1.ctx.cloud.length ≤ 1048576
theorem map_take_snoc {s l : List SCart} {i : Nat} {x : SCart} {t : Sls3} (h : s.map (·.1) = (l.map (·.1)).take i) (hx : l[i]? = some x) : (s ++ [(x.1, t)]).map (·.1) = (l.map (·.1)).take (i + 1) := by
  rw [List.map_append, h, List.take_add_one, List.getElem?_map, hx]
  rfl
def C013 : Cart := ⟨[], ⟨[⟨0, 1, 3⟩], []⟩⟩
end Go.Fw
namespace Go.Proofs.Ytakpdbmdfnialaa
open Go.Fw Go.Proofs Go.RowKit Go.Proofs.Try
theorem c19 (w0 : World) (v : Value) (l : List SCart) (h : Sl SCart.enc 3 w0 w0.heap.size v l) (hc : CartsRd w0 l) (hb : SmallC l) (hn : l.length ≤ 1048576) :
    Rets Try.prog 19 #[v] w0 fun u L => ∃ A r s w1 bs, u = .slice A s.length r ∧ L = [rowOf 30 3 SCart.enc A r s, .ice w1 bs] ∧ s.map (·.1) = l.map (·.1) ∧ ∀ p ∈ s, CartIn w1 bs p.1 p.2 := by
  obtain ⟨A, cap, rfl, hl, hcap, hA⟩ := h
  unfold Go.Fw.Rets
  refine enter1 func19 rfl ntmps19 rfl fun a S => sg S (.ac rfl <| .z) fun a w S => sg S (.ac rfl <| .z) fun a w S => wp_seq_k fun _ hK1 => sg S (.mv rfl <| .ln underlying56 rfl <| .mc rfl <| .z) fun a w S => wp_block ?_
  replace S := S.nil_ 30 3 SCart.enc none
  replace S : St _ _ _ (.ice w0 [] :: _) _ _ := ⟨S.kn, S.wd.bare (fun b hb => by cases hb) (fun b hb => by cases hb)⟩
  refine st_lpM S [3, 8] (X := Nat × Option Addr × Nat × List SCart × World × List Nat) (fun q => [(3, true, .slice q.2.1 q.2.2.2.1.length q.2.2.1), (8, true, .int .i64 (q.1 : Int))])
    (fun q => [rowOf 30 3 SCart.enc q.2.1 q.2.2.1 q.2.2.2.1, .ice q.2.2.2.2.1 q.2.2.2.2.2]) (fun q => q.1 ≤ l.length ∧ q.2.2.2.1.map (·.1) = (l.map (·.1)).take q.1 ∧ ∀ p ∈ q.2.2.2.1, CartIn q.2.2.2.2.1 q.2.2.2.2.2 p.1 p.2) (fun q => l.length - q.1) (0, none, 0, [], w0, []) ⟨Nat.zero_le _, by simp, by simp⟩ ?_
  clear S
  rintro ⟨i, B, cB, s, w1, bs⟩ a w ⟨hi, hsm, hsi⟩ S
  dsimp only at hi hsm hsi S
  have hsl : s.length = i := by
    have := congrArg List.length hsm
    rw [List.length_map, List.length_take, List.length_map] at this
    omega
  by_cases hlt : i < l.length
  · obtain ⟨gq, oq, x, rfl, hx, hd, hcx⟩ := row_at hA hlt
    have hxc := hc x (List.mem_of_getElem? hx)
    have r1 := hxc.ents
    have r2 := hxc.ctx
    obtain ⟨z1, z2, z3⟩ := hb x (List.mem_of_getElem? hx)
    refine sg S (.lt (by omega) rfl rfl <| .z) fun a w S => wp_seq_k fun _ hK2 => st_then S (.t rfl) (wp_skip (then_normal (hK2 _ _ (wp_seq_k fun _ hK2 => wp_block (wp_seq_k fun _ hK3 => wp_region_lit (run S (.ix underlying56 sizeOf30 (by omega) rfl rfl <| .yy (ys_ldOA ⟨isAgg30, sizeOf30⟩ (.t rfl) (vs := [_, _, _]) rfl (fun _ => hcx)) rfl <| .z) fun a w S => st_m (op_alloc S zeroValue30 (cs := _) rfl rfl fun g1 a w S => st_m (op_stW S sizeOf30 (.t rfl) (.t rfl) (k := 0) rfl rfl rfl (by simp [Value.oneCell']) fun a w S => st_nil (then_normal (hK3 _ _ (wp_region_lit (run S (.mv rfl <| .la gt30 0 rfl rfl rfl <| .z) fun a w S => ?_))))))))))))
    (refine st_m (op_calls S call14 (.cons (.t rfl) .nil) (c14 _ _ _ _ _ (by exact .old S.wd (by assumption)) (by exact .old S.wd (by assumption)) (by assumption) (by assumption) (by assumption)) rfl ?_); clear S a w; rintro _ _ ⟨A11, r11, A21, r21, A31, r31, rfl, rfl⟩ a w S)
    have e3 : #[Value.slice A11 x.1.ents.length r11, .slice A21 x.1.ctx.marks.length r21, .slice A31 x.1.ctx.cloud.length r31] = (SCart.enc (x.1, ⟨A11, x.1.ents.length, r11, A21, x.1.ctx.marks.length, r21, A31, x.1.ctx.cloud.length, r31⟩)).toArray := rfl
    rw [e3] at S
    refine st_m (op_bslice1 S underlying56 inf30 rfl rfl rfl (.t rfl) rfl rfl rfl fun g2 a w S => st_m (op_push S underlying56 inf30 rfl (k := 5) (j := 0) rfl (.t rfl) (.t rfl) rfl rfl rfl rfl (by first | omega | (simp only [List.length_append, List.length_cons, List.length_nil]; omega)) rfl rfl rfl fun A1 cap1 a w S => run S (.as rfl <| .z) fun a w S => st_nil (in_normal (then_normal (hK2 _ _ (wp_region_lit (run S (.ad (by unfold I64; omega) rfl <| .mv rfl <| .z) fun a w S => st_nil (then_normal ?_))))))))
    obtain ⟨bs', W1, n1, hold⟩ := freeze_cart (S.wd.picks (L' := [rowOf 69 6 Ent.enc A11 r11 x.1.ents, rowOf 23 3 Dot.enc A21 r21 x.1.ctx.marks, rowOf 67 3 Dot.enc A31 r31 x.1.ctx.cloud, .ice w1 bs, rowOf 30 3 SCart.enc A1 cap1 (s ++ [(x.1, (⟨A11, x.1.ents.length, r11, A21, x.1.ctx.marks.length, r21, A31, x.1.ctx.cloud.length, r31⟩ : Sls3))])]) (by repeat (first | exact Picks.nil | (refine Picks.rest ?_; (repeat (first | exact List.Sublist.refl _ | refine List.Sublist.cons_cons _ ?_ | refine List.Sublist.cons _ ?_)); done) | refine Picks.take 0 rfl ?_ | refine Picks.take 1 rfl ?_ | refine Picks.take 2 rfl ?_ | refine Picks.take 3 rfl ?_ | refine Picks.take 4 rfl ?_ | refine Picks.take 5 rfl ?_ | refine Picks.take 6 rfl ?_ | refine Picks.take 7 rfl ?_ | refine Picks.take 8 rfl ?_ | refine Picks.take 9 rfl ?_ | refine Picks.take 10 rfl ?_ | refine Picks.take 11 rfl ?_)))
    replace S := St.mk S.kn W1
    refine ⟨(i + 1, A1, cap1, s ++ [(x.1, (⟨A11, x.1.ents.length, r11, A21, x.1.ctx.marks.length, r21, A31, x.1.ctx.cloud.length, r31⟩ : Sls3))], _, bs'), ⟨by dsimp only; omega, map_take_snoc hsm hx, fun p hp => ?_⟩, by dsimp only; omega, S.pk⟩
    rcases List.mem_append.1 hp with hp | hp
    · exact hold _ _ (hsi p hp)
    · rw [List.mem_singleton.1 hp]; exact n1
  obtain rfl : i = l.length := by omega
  rw [List.take_of_length_le (by simp)] at hsm
  refine sg S (.ge (by omega) rfl rfl <| .z) fun a w S => wp_seq_k fun _ hK2 => st_else S (.t rfl) (wp_exit (then_exit (then_exit (in_here (then_normal (hK1 _ _ (sg S (.mv rfl <| .as rfl <| .z) fun a w S => wp_ret (st_ret S (results1 S results19 (Rv.tmp rfl)) ?_))))))))
  exact ⟨_, _, rfl, S.wd.pk, _, _, s, _, _, rfl, rfl, hsm, hsi⟩
theorem c13 (w0 : World) (v : Value) (k : List UInt8) (l : List Dot) (h : Sl Dot.enc 3 w0 w0.heap.size v l) (hk : k.length ≤ 1048576) (hn : l.length ≤ 1048576) :
    Rets Try.prog 13 #[.string (bs k), v] w0 fun u L => ∃ g A r, u = .pointer (some ⟨g, 0, none⟩) ∧ L = tabP g A r (putsG k [] (l.take 40)) [] := by
  obtain ⟨A, cap, rfl, hl, hcap, hA⟩ := h
  unfold Go.Fw.Rets
  refine enter2 func13 rfl ntmps13 rfl fun a S => sg S (.ac rfl <| .z) fun a w S => wp_seq_k fun _ hK1 => wp_region_lit ?_
  (refine st_m (op_calls S call34 .nil (c34 _) rfl ?_); clear S a w; rintro _ _ ⟨g1, rfl, rfl⟩ a w S)
  refine run S (.as rfl <| .z) fun a w S => st_nil (then_normal (hK1 _ _ (wp_seq_k fun _ hK1 => sg S (.mv rfl <| .ln underlying25 rfl <| .mc rfl <| .z) fun a w S => wp_block ?_)))
  replace S := S.nil_ 74 4 Gon.enc none
  refine st_lpM S [6, 11] (X := Nat × Option Addr × Nat) (fun q => [(11, true, .int .i64 (q.1 : Int))]) (fun q => tabP g1 q.2.1 q.2.2 (putsG k [] ((l.take 40).take q.1)) []) (fun q => q.1 ≤ l.length) (fun q => l.length - q.1) (0, none, 0) (Nat.zero_le _) ?_
  clear S
  rintro ⟨i, B, cB⟩ a w hi S
  dsimp only at hi S
  have hT : TabOk (putsG k [] ((l.take 40).take i)) := puts_ok _ tab_nil
  have hTl := puts_len (k := k) ((l.take 40).take i) []
  simp only [List.length_take, List.length_nil] at hTl
  by_cases hlt : i < l.length
  · obtain ⟨gq, oq, x, rfl, hx, hd, hcx⟩ := row_at hA hlt
    by_cases h40 : i < 40
    · have hst : putsG k [] ((l.take 40).take (i + 1)) = (putG (putsG k [] ((l.take 40).take i)) k x).1 := by
        rw [List.take_add_one, List.getElem?_take_of_lt h40, hx, Option.toList_some]
        unfold putsG
        rw [List.foldl_append]
        rfl
      generalize putsG k [] ((l.take 40).take i) = T at *
      refine sg S (.lt (by omega) rfl rfl <| .z) fun a w S => wp_seq_k fun _ hK2 => st_then S (.t rfl) (wp_skip (then_normal (hK2 _ _ (wp_seq_k fun _ hK2 => wp_block (wp_seq_k fun _ hK3 => wp_region_lit (run S (.mv rfl <| .ix underlying25 sizeOf23 (by omega) rfl rfl <| .yy (ys_ldOA ⟨isAgg23, sizeOf23⟩ (.t rfl) (vs := [_, _, _]) rfl (fun _ => hcx)) rfl <| .z) fun a w S => st_m (op_alloc S zeroValue23 (cs := _) rfl rfl fun g2 a w S => run S (.as rfl <| .z) fun a w S => st_m (op_stW S sizeOf23 (.t rfl) (.t rfl) (k := 0) rfl rfl rfl (by simp [Value.oneCell']) fun a w S => st_nil (then_normal (hK3 _ _ (sg S (.mv rfl <| .yy (ys_T (by omega) (ys_lss (.t rfl) Ev.c)) rfl <| .z) fun a w S => st_then S (.t rfl) (wp_region_lit (run S (.mv rfl <| .mv rfl <| .la gt23 0 rfl rfl rfl <| .z) fun a w S => ?_)))))))))))))
      (replace S := S.pull 2 rfl; try simp only [List.set_cons_zero, List.set_cons_succ, List.eraseIdx_cons_succ, List.eraseIdx_cons_zero] at S; replace S := S.pull 2 rfl; try simp only [List.set_cons_zero, List.set_cons_succ, List.eraseIdx_cons_succ, List.eraseIdx_cons_zero] at S; refine st_m (op_callO S call9 (.cons (.t rfl) (.cons (.t rfl) (.cons (.t rfl) .nil))) (c9 S.wd (by first | assumption | omega | (dsimp only; omega) | exact Sl.nil_ | exact .old S.wd (by assumption) | exact Sl.of_own S.wd (k := 0) rfl (fun _ => rfl) | exact Sl.of_own S.wd (k := 1) rfl (fun _ => rfl) | exact Sl.of_own S.wd (k := 2) rfl (fun _ => rfl) | (simp; done) | (simp at *; omega)) (by first | assumption | omega | (dsimp only; omega) | exact Sl.nil_ | exact .old S.wd (by assumption) | exact Sl.of_own S.wd (k := 0) rfl (fun _ => rfl) | exact Sl.of_own S.wd (k := 1) rfl (fun _ => rfl) | exact Sl.of_own S.wd (k := 2) rfl (fun _ => rfl) | (simp; done) | (simp at *; omega)) (by first | assumption | omega | (dsimp only; omega) | exact Sl.nil_ | exact .old S.wd (by assumption) | exact Sl.of_own S.wd (k := 0) rfl (fun _ => rfl) | exact Sl.of_own S.wd (k := 1) rfl (fun _ => rfl) | exact Sl.of_own S.wd (k := 2) rfl (fun _ => rfl) | (simp; done) | (simp at *; omega))) rfl ?_) <;> clear S a w)
      rintro _ _ ⟨A21, e21, rfl, rfl⟩ a w S
      refine st_nil (in_normal (then_normal (hK2 _ _ (wp_region_lit (run S (.ad (by unfold I64; omega) rfl <| .mv rfl <| .z) fun a w S => st_nil (then_normal ?_))))))
      exact ⟨(i + 1, A21, e21), by dsimp only; omega, by dsimp only; omega, by dsimp only; rw [hst]; exact S.pk⟩
    · have hst : (l.take 40).take (i + 1) = (l.take 40).take i := by
        have e40 : ∀ j, 40 ≤ j → (l.take 40).take j = l.take 40 := fun j hj => List.take_of_length_le (by rw [List.length_take]; omega)
        rw [e40 _ (by omega), e40 _ (by omega)]
      refine sg S (.lt (by omega) rfl rfl <| .z) fun a w S => wp_seq_k fun _ hK2 => st_then S (.t rfl) (wp_skip (then_normal (hK2 _ _ (wp_seq_k fun _ hK2 => wp_block (wp_seq_k fun _ hK3 => wp_region_lit (run S (.mv rfl <| .ix underlying25 sizeOf23 (by omega) rfl rfl <| .yy (ys_ldOA ⟨isAgg23, sizeOf23⟩ (.t rfl) (vs := [_, _, _]) rfl (fun _ => hcx)) rfl <| .z) fun a w S => st_m (op_alloc S zeroValue23 (cs := _) rfl rfl fun g2 a w S => run S (.as rfl <| .z) fun a w S => st_m (op_stW S sizeOf23 (.t rfl) (.t rfl) (k := 0) rfl rfl rfl (by simp [Value.oneCell']) fun a w S => st_nil (then_normal (hK3 _ _ (sg S (.mv rfl <| .yy (ys_F (by omega) (ys_lss (.t rfl) Ev.c)) rfl <| .z) fun a w S => st_else S (.t rfl) (wp_skip (in_normal (then_normal (hK2 _ _ (wp_region_lit (run S (.ad (by unfold I64; omega) rfl <| .mv rfl <| .z) fun a w S => st_nil (then_normal ?_))))))))))))))))))
      exact ⟨(i + 1, B, cB), by dsimp only; omega, by dsimp only; omega, by dsimp only; rw [hst]; exact S.pk⟩
  obtain rfl : i = l.length := by omega
  rw [List.take_of_length_le (show (l.take 40).length ≤ l.length by rw [List.length_take]; omega)] at S
  refine sg S (.ge (by omega) rfl rfl <| .z) fun a w S => wp_seq_k fun _ hK2 => st_else S (.t rfl) (wp_exit (then_exit (then_exit (in_here (then_normal (hK1 _ _ (sg S (.mv rfl <| .as rfl <| .z) fun a w S => wp_ret (st_ret S (results1 S results13 (Rv.tmp rfl)) ?_))))))))
  exact ⟨_, _, rfl, S.wd.pk, _, _, _, rfl, rfl⟩
theorem c33 (w0 : World) : Rets Try.prog 33 #[] w0 fun u L => ∃ g, u = .agg #[.slice none 0 0, .slice (some ⟨g, 0, none⟩) 1 1, .slice none 0 0] ∧ L = [.blk g (.cells #[.int .i64 0, .int .i64 1, .int .i64 3] 23)] := by
  unfold Go.Fw.Rets
  refine enter0 func33 rfl ntmps33 rfl fun a S => wp_seq_k fun _ hK1 => wp_region_lit (st_m (op_alloc S zeroValue30 (cs := _) rfl rfl fun g1 a w S => st_nil (then_normal (hK1 _ _ (wp_seq_k fun _ hK1 => wp_region_lit (run S (.yy (ys_bld (ps := [(0, _), (1, _), (2, _)]) (us := [_, _, _]) bld23 (.cons Ev.c (.cons Ev.c (.cons Ev.c .nil))) rfl) rfl <| .z) fun a w S => st_m (op_bslice1 S underlying25 inf23 rfl rfl rfl (.t rfl) rfl rfl rfl fun g2 a w S => run S (.yy (ys_bld (ps := [(0, Go.Operand.tmp 2)]) (us := [_, _]) bld28 (.cons (.t rfl) .nil) rfl) rfl <| .yy (ys_bld (ps := [(1, Go.Operand.tmp 3)]) (us := [_, _, _]) bld30 (.cons (.t rfl) .nil) rfl) rfl <| .z) fun a w S => st_m (op_stW S sizeOf30 (.t rfl) (.t rfl) (k := 1) rfl rfl rfl (by simp [Value.oneCell']) fun a w S => st_nil (then_normal (hK1 _ _ (wp_ret (st_ret S (results1 S results33 (Rv.cell (k := 1) ⟨isAgg30, sizeOf30⟩ rfl rfl rfl)) ?_))))))))))))
  exact ⟨_, _, rfl, S.wd.pk, _, rfl, rfl⟩
end Go.Proofs.Ytakpdbmdfnialaa
set_option linter.unusedVariables false
set_option linter.unusedSimpArgs false
set_option maxRecDepth 100000
set_option maxHeartbeats 4000000
namespace Go.Fw
theorem ready_013 : readyG [C013] 0 1 = (⟨0, 1, 3⟩, 0) := by decide +kernel
theorem put_013 : putG [] [107] ⟨0, 1, 3⟩ = ([⟨[107], ⟨0, 1, 3⟩⟩], 0) := by decide +kernel
theorem clean_013 : cleanG (marksG [⟨[107], ⟨0, 1, 3⟩⟩] [107]) C013 = (Cart.zero, 0) := by decide +kernel
theorem marks_013 : marksG [⟨[107], ⟨0, 1, 3⟩⟩] [107] = [⟨0, 1, 3⟩] := by decide +kernel
end Go.Fw
namespace Go.Proofs.Ytakpdbmdfnialaa
open Go.Fw Go.Proofs Go.RowKit Go.Proofs.Try
theorem c12 (w0 : World) : Calls Try.prog 12 #[] w0 fun e w' => e = .returned (.bool true) ∧ Bel w0.heap.size w0 w' := by
  refine enter0 func12 rfl ntmps12 rfl fun a S => sg S (.ac rfl <| .z) fun a w S => wp_seq_k fun _ hK1 => wp_region_lit ?_
  (refine st_m (op_calls S call33 .nil (c33 _) rfl ?_); clear S a w; rintro _ _ ⟨g1, rfl, rfl⟩ a w S)
  refine st_m (op_bslice1 S underlying56 inf30 rfl rfl rfl (.t rfl) rfl rfl rfl fun g2 a w S => run S (.yy (ys_bld (ps := [(0, _), (1, _)]) (us := [_, _]) bld58 (.cons Ev.c (.cons Ev.c .nil)) rfl) rfl <| .z) fun a w S => st_y S (ys_call call18 (.cons (.t rfl) (.cons (.t rfl) .nil)) (fun _ w' W' => c18 w' _ [(C013, (⟨none, 0, 0, some ⟨g1, 0, none⟩, 1, 1, none, 0, 0⟩ : Sls3))] 0 1 (Sl.of_blk (cap := 1) [(C013, (⟨none, 0, 0, some ⟨g1, 0, none⟩, 1, 1, none, 0, 0⟩ : Sls3))] W' (k := 0) rfl rfl SCart.enc_len (by simp) (by simp)) (fun p hp => by rw [List.mem_singleton.1 hp]; exact ⟨Sl.nil_, sl_y1 W' (k := 1) rfl, Sl.nil_⟩))) rfl ?_)
  clear S a w
  intro a w S
  rw [show List.map (fun x : SCart => x.1) [(C013, (⟨none, 0, 0, some ⟨g1, 0, none⟩, 1, 1, none, 0, 0⟩ : Sls3))] = [C013] from rfl, ready_013] at S
  dsimp only [Dot.enc] at S
  have rw_1 : decide ((0 : Int) = 0 ∧ (1 : Int) = 1 ∧ (3 : Int) = 3) = true := by decide
  refine run S (.mv rfl <| .ex rfl rfl <| .ex rfl rfl <| .z) fun a w S => st_m (op_alloc S zeroValue23 (cs := _) rfl rfl fun g3 a w S => st_m (op_stW S sizeOf23 (.t rfl) (.t rfl) (k := 0) rfl rfl rfl (by simp [Value.oneCell']) fun a w S => run S (.as rfl <| .z) fun a w S => st_nil (then_normal (hK1 _ _ (wp_seq_k fun _ hK1 => wp_region_lit ?_)))))
  (refine st_m (op_calls S call34 .nil (c34 _) rfl ?_); clear S a w; rintro _ _ ⟨g4, rfl, rfl⟩ a w S)
  refine run S (.as rfl <| .z) fun a w S => st_nil (then_normal (hK1 _ _ (wp_seq_k fun _ hK1 => wp_seq_k fun _ hK2 => wp_region_lit (run S (.mv rfl <| .yy (ys_F (by omega) (ys_neq (.t rfl) Ev.c)) rfl <| .mv rfl <| .gy rfl rfl (ys_ldA ⟨isAgg23, sizeOf23⟩ (.t rfl) (k := 1) rfl rfl) <| .gy rfl rfl (ys_bld (ps := [(0, _), (1, _), (2, _)]) (us := [_, _, _]) bld23 (.cons Ev.c (.cons Ev.c (.cons Ev.c .nil))) rfl) <| .gy rfl rfl (ys_neA (.t rfl) (.t rfl) eq23) <| .z) fun a w S => ?_))))
  rw [rw_1] at S
  refine run S (.yy (ys_pickF (.t rfl) (.t rfl)) rfl <| .mv rfl <| .gy rfl rfl (ys_move (.t rfl)) <| .gy rfl rfl (ys_ldA ⟨isAgg23, sizeOf23⟩ (.t rfl) (k := 1) rfl rfl) <| .z) fun a w S => ?_
  replace S := S.nil_ 74 4 Gon.enc none
  (replace S := S.pull 1 rfl; try simp only [List.set_cons_zero, List.set_cons_succ, List.eraseIdx_cons_succ, List.eraseIdx_cons_zero] at S)
  change St _ _ _ (tabP g4 none 0 [] _) _ _ at S
  have tab0 := tab_nil
  (refine st_mg S rfl rfl (op_callO S call9 (.cons (.t rfl) (.cons Ev.c (.cons (.t rfl) .nil))) (c9 S.wd (by first | assumption | omega | (dsimp only; omega) | exact Sl.nil_ | exact .old S.wd (by assumption) | exact Sl.of_own S.wd (k := 0) rfl (fun _ => rfl) | exact Sl.of_own S.wd (k := 1) rfl (fun _ => rfl) | exact Sl.of_own S.wd (k := 2) rfl (fun _ => rfl) | exact Sl.of_own S.wd (k := 3) rfl (fun _ => rfl) | exact Sl.of_own S.wd (k := 4) rfl (fun _ => rfl) | (simp; done) | (simp at *; omega)) (by first | assumption | omega | (dsimp only; omega) | exact Sl.nil_ | exact .old S.wd (by assumption) | exact Sl.of_own S.wd (k := 0) rfl (fun _ => rfl) | exact Sl.of_own S.wd (k := 1) rfl (fun _ => rfl) | exact Sl.of_own S.wd (k := 2) rfl (fun _ => rfl) | exact Sl.of_own S.wd (k := 3) rfl (fun _ => rfl) | exact Sl.of_own S.wd (k := 4) rfl (fun _ => rfl) | (simp; done) | (simp at *; omega)) (by first | assumption | omega | (dsimp only; omega) | exact Sl.nil_ | exact .old S.wd (by assumption) | exact Sl.of_own S.wd (k := 0) rfl (fun _ => rfl) | exact Sl.of_own S.wd (k := 1) rfl (fun _ => rfl) | exact Sl.of_own S.wd (k := 2) rfl (fun _ => rfl) | exact Sl.of_own S.wd (k := 3) rfl (fun _ => rfl) | exact Sl.of_own S.wd (k := 4) rfl (fun _ => rfl) | (simp; done) | (simp at *; omega))) rfl ?_) <;> clear S a w)
  rintro _ _ ⟨A21, e21, rfl, rfl⟩ a w S
  refine run S (.gy rfl rfl (ys_neq (.t rfl) Ev.c) <| .yy (ys_pickF (.t rfl) (.t rfl)) rfl <| .z) fun a w S => st_nil (then_normal (hK2 _ _ (st_else S (.t rfl) (wp_skip (then_normal (hK1 _ _ (wp_seq_k fun _ hK1 => wp_region_lit (run S (.mv rfl <| .z) fun a w S => ?_))))))))
  (refine st_m (op_calls S call33 .nil (c33 _) rfl ?_); clear S a w; rintro _ _ ⟨g5, rfl, rfl⟩ a w S)
  simp only [put_013] at S
  refine st_m (op_calls S call7 (.cons (.t rfl) (.cons Ev.c (.cons (.t rfl) .nil))) (c7 _ g4 _ [⟨[107], ⟨0, 1, 3⟩⟩] [107] _ _ _ C013 (Wd.cell S.wd (k := 1) rfl rfl) (Wd.cell S.wd (k := 1) rfl rfl) (Sl.of_own S.wd (k := 2) rfl (fun _ => rfl)) (by simp) Sl.nil_ ⟨sl_y1 S.wd (k := 0) rfl, Sl.nil_⟩) rfl ?_)
  clear S a w
  rintro _ _ ⟨F1, f1, F2, f2, F3, f3, rfl, rfl⟩ a w S
  simp only [clean_013] at S
  dsimp only [Cart.zero, List.length_nil] at S
  refine run S (.mv rfl <| .ex rfl rfl <| .ex rfl rfl <| .z) fun a w S => st_m (op_alloc S zeroValue30 (cs := _) rfl rfl fun g6 a w S => st_m (op_stW S sizeOf30 (.t rfl) (.t rfl) (k := 0) rfl rfl rfl (by simp [Value.oneCell']) fun a w S => run S (.as rfl <| .z) fun a w S => st_nil (then_normal (hK1 _ _ (wp_seq_k fun _ hK1 => h_begin0 S (by kernel_rfl) fun a w S => hy 0 S rfl (ys_move (.t rfl)) rfl fun a w S => hy 1 S rfl (ys_T (by omega) (ys_eql (.t rfl) Ev.c)) rfl fun a w S => hy 2 S rfl (ys_move (.t rfl)) rfl fun a w S => hyt 3 S rfl rfl rfl (ys_fieldN (FieldT.mk underlying30 rfl sizeOf28 rfl) (.t rfl) (i' := 1) rfl) rfl fun a w S => ?_)))))
  refine hyt 4 S rfl rfl rfl (ys_fieldN (FieldT.mk underlying28 rfl sizeOf25 rfl) (.t rfl) (i' := 1) rfl) rfl fun a w S => hyt 5 S rfl rfl rfl (ys_ld ⟨isAgg25, sizeOf25⟩ (.t rfl) (k := 0) rfl rfl) rfl fun a w S => hyt 6 S rfl rfl rfl (ys_lenS underlying25 (.t rfl)) rfl fun a w S => hyt 7 S rfl rfl rfl (ys_T (by omega) (ys_eql (.t rfl) Ev.c)) rfl fun a w S => hy 8 S rfl (ys_pickT (.t rfl) (.t rfl)) rfl fun a w S => ?_
  refine hy 9 S rfl (ys_move (.t rfl)) rfl fun a w S => hyt 10 S rfl rfl rfl (ys_move (.t rfl)) rfl fun a w S => hyt 12 S rfl rfl rfl (ys_ldA ⟨isAgg23, sizeOf23⟩ (.t rfl) (k := 7) rfl rfl) rfl fun a w S => ?_
  refine h_splitw S (i := 11) (j := 13) (by kernel_rfl) rfl rfl ⟨_, rfl, rfl⟩ ⟨_, rfl, rfl⟩ ?_ ?_
  (refine op_calls S call10 (.cons (.t rfl) (.cons Ev.c .nil)) (c10 _ _ _ _ _ (by exact Wd.cell S.wd (k := 5) rfl rfl) (by exact Wd.cell S.wd (k := 5) rfl rfl) (by exact Sl.of_own S.wd (k := 6) rfl (fun _ => rfl)) (by (simp; done))) rfl ?_; clear S a w; rintro _ _ ⟨A1, c1, rfl, rfl⟩ a w S; refine h_n1 S ?_)
  (refine h_mg (i := 13) S rfl (by kernel_rfl) rfl rfl (op_bslice1 S underlying25 inf23 rfl rfl rfl (.t rfl) rfl rfl rfl ?_); clear S a w; intro g7 a w S; refine h_n2 S ?_)
  refine h_qg (i := 14) S (by repeat (first | exact List.Sublist.refl _ | exact List.nil_sublist _ | refine .cons_cons _ ?_ | refine .cons _ ?_)) rfl (by kernel_rfl) rfl rfl (ys_call call35 (.cons (.t rfl) (.cons (.t rfl) .nil)) (fun hp w W => c35 _ _ _ _ _ (by exact Sl.of_own W (k := 1) rfl (fun _ => rfl)) (by exact sl_y1 W (k := 0) rfl))) rfl fun a w S => hy 15 S rfl (ys_pickT (.t rfl) (.t rfl)) rfl fun a w S => hy 16 S rfl (ys_assign (.t rfl)) rfl fun a w S => h_done (by kernel_rfl) (then_normal (hK1 _ _ (wp_ret (st_ret S (results1 S results12 (Rv.tmp rfl)) ?_))))
  rotate_left
  (refine op_bslice1 S underlying25 inf23 rfl rfl rfl (.t rfl) rfl rfl rfl ?_; clear S a w; intro g7 a w S; refine h_n1 S ?_)
  (refine h_mg (i := 11) S rfl (by kernel_rfl) rfl rfl (op_calls S call10 (.cons (.t rfl) (.cons Ev.c .nil)) (c10 _ _ _ _ _ (by exact Wd.cell S.wd (k := 6) rfl rfl) (by exact Wd.cell S.wd (k := 6) rfl rfl) (by exact Sl.of_own S.wd (k := 7) rfl (fun _ => rfl)) (by (simp; done))) rfl ?_); clear S a w; rintro _ _ ⟨A1, c1, rfl, rfl⟩ a w S; refine h_n2 S ?_)
  refine h_qg (i := 14) S (by repeat (first | exact List.Sublist.refl _ | exact List.nil_sublist _ | refine .cons_cons _ ?_ | refine .cons _ ?_)) rfl (by kernel_rfl) rfl rfl (ys_call call35 (.cons (.t rfl) (.cons (.t rfl) .nil)) (fun hp w W => c35 _ _ _ _ _ (by exact Sl.of_own W (k := 0) rfl (fun _ => rfl)) (by exact sl_y1 W (k := 1) rfl))) rfl fun a w S => hy 15 S rfl (ys_pickT (.t rfl) (.t rfl)) rfl fun a w S => hy 16 S rfl (ys_assign (.t rfl)) rfl fun a w S => h_done (by kernel_rfl) (then_normal (hK1 _ _ (wp_ret (st_ret S (results1 S results12 (Rv.tmp rfl)) ?_))))
  rotate_left
  all_goals exact ⟨by rw [marks_013, decide_eq_true rfl], S.wd.below⟩
end Go.Proofs.Ytakpdbmdfnialaa
set_option linter.unusedVariables false
set_option linter.unusedSimpArgs false
set_option maxRecDepth 100000
set_option maxHeartbeats 4000000
namespace Go.Fw
structure Gdo where
  key : List UInt8
  m : Dot
  c : SCart
abbrev Gdo.enc (x : Gdo) : List Value := [.string (bs x.key), .int .i64 x.m.node, .int .i64 x.m.life, .int .i64 x.m.count, .slice x.c.2.a1 x.c.2.n1 x.c.2.c1, .slice x.c.2.a2 x.c.2.n2 x.c.2.c2, .slice x.c.2.a3 x.c.2.n3 x.c.2.c3]
theorem Gdo.enc_len (x : Gdo) : (Gdo.enc x).length = 7 := rfl
end Go.Fw
namespace Go.Proofs.Ytakpdbmdfnialaa
open Go.Fw Go.Proofs Go.RowKit Go.Proofs.Try
end Go.Proofs.Ytakpdbmdfnialaa
set_option linter.unusedVariables false
set_option linter.unusedSimpArgs false
set_option maxRecDepth 100000
namespace Go.Proofs.Ytakpdbmdfnialaa
open Go.Fw Go.Proofs Go.RowKit Go.ChangeShapes Go.WideShapes Go.ChangeAt Go.Deep Go.Joins Go.Proofs.Try
section
variable {H : Type} {enc : TypeId × Value → H} {w : World}
def ScRd (w : World) (s : SCart) (b : Nat) : Prop := CartRd w s.1 s.2 ∧ s.1.ents.length ≤ b ∧ s.1.ctx.marks.length ≤ b ∧ s.1.ctx.cloud.length ≤ b
theorem rdSC : Rdr enc Try.prog w 30 fun cs b => ∃ s : SCart, cs = SCart.enc s ∧ ScRd w s b := rdCart.mono fun cs b ⟨v1, v2, v3, X, e, hX⟩ => by
  obtain ⟨h1, ⟨h2, h3⟩, l1, l2, l3, _⟩ := hX
  have k1 := h1
  have k2 := h2
  have k3 := h3
  obtain ⟨A1, c1, rfl, _⟩ := h1
  obtain ⟨A2, c2, rfl, _⟩ := h2
  obtain ⟨A3, c3, rfl, _⟩ := h3
  exact ⟨(X, ⟨A1, _, c1, A2, _, c2, A3, _, c3⟩), e, ⟨k1, k2, k3⟩, by dsimp only; omega, by dsimp only; omega, by dsimp only; omega⟩
theorem read_carts {v : Value} {d : DataW H} {p : List MemPlace} (hv : ∃ A len cap, v = .slice A len cap) (h : DataW.Trod enc Try.prog w 0 (fun _ => true) true 56 v d p) :
    ∃ l, Sl SCart.enc 3 w w.heap.size v l ∧ l.length + 1 ≤ Rows.uptoBulk d ∧ CartsRd w l ∧ ∀ x ∈ l, x.1.ents.length ≤ Rows.uptoBulk d ∧ x.1.ctx.marks.length ≤ Rows.uptoBulk d ∧ x.1.ctx.cloud.length ≤ Rows.uptoBulk d := by
  obtain ⟨v', l, hc, hs, hl, hf⟩ := Rdr.top (Rdr.slice (k := 3) underlying56 (by kernel_rfl) rfl SCart.enc_len rdSC) h
  obtain ⟨A, n, c, rfl⟩ := hv
  simp only [Value.cells, List.cons.injEq, and_true] at hc
  subst hc
  refine ⟨l, hs, hl, fun x hx => ?_, fun x hx => ?_⟩
  · obtain ⟨b', h1, h2, _⟩ := hf x hx
    exact h2
  · obtain ⟨b', h1, h2, h3, h4, h5⟩ := hf x hx
    omega
end
end Go.Proofs.Ytakpdbmdfnialaa
set_option linter.unusedVariables false
set_option linter.unusedSimpArgs false
set_option maxRecDepth 100000
set_option maxHeartbeats 4000000
namespace Go.Fw
theorem one_put {m : Dot} (h : mayD m = true) : putsG [107] [] [m] = [⟨[107], m⟩] := by
  show (putG [] [107] m).1 = _
  unfold putG
  rw [if_neg (by rw [h]; simp), if_neg (by decide +kernel), if_neg (by simp)]
  rfl
theorem one_marks (m : Dot) : marksG [⟨[107], m⟩] [107] = [m] := by simp [marksG]
end Go.Fw
namespace Go.Proofs.Ytakpdbmdfnialaa
open Go.Fw Go.Proofs Go.RowKit Go.Proofs.Try
theorem c6 (w0 : World) (v : Value) (l : List SCart) (p q : Int) (h : Sl SCart.enc 3 w0 w0.heap.size v l) (hc : CartsRd w0 l) (hb : SmallC l) (hn : l.length ≤ 1048576) :
    Calls Try.prog 6 #[v, .agg #[.int .i64 p, .int .i64 q]] w0 fun e w' => e = .returned (.bool true) ∧ Bel w0.heap.size w0 w' := by
  have hs := h
  obtain ⟨A, cap, rfl, hl, hcap, hA⟩ := h
  refine enter2 Try.func6 rfl Try.ntmps6 rfl fun a S => ?_
  refine wp_seq_k fun _ hK1 => ?_
  refine wp_region_lit ?_
  (refine st_m (op_box S (Ev.t rfl) rfl ?_); clear S a; intro g1 a w S)
  (refine st_y S (Yr.ys (ys_assign Ev.c)) rfl ?_; clear S a w; intro a w S)
  refine st_nil ?_
  (refine (then_normal (hK1 _ _ ?_)); clear hK1)
  refine wp_seq_k fun _ hK9 => ?_
  refine Code.wp_mono (Q := fun e a w => match e with
    | .normal => ∃ g5, St 67 w0 [(6, true, .int .i64 (readyG (l.map (·.1)) p q).2), (5, true, .pointer (some ⟨g5, 0, none⟩)), (4, true, .bool false), (3, true, .pointer (some ⟨g1, 0, none⟩)), (0, true, .slice A l.length cap), (1, true, .agg #[.int .i64 p, .int .i64 q])] [.blk g5 (.cells (Dot.enc (readyG (l.map (·.1)) p q).1).toArray 23), .blk g1 (.cells #[.int .i64 p, .int .i64 q] 58)] a w
    | _ => False) (fun e a w qq => ?_) ?_
  rotate_left
  · (refine h_begin0 S (by kernel_rfl) ?_; clear S a w; intro a w S)
    (refine h_y (i := 0) S (by repeat (first | exact List.Sublist.refl _ | exact List.nil_sublist _ | refine .cons_cons _ ?_ | refine .cons _ ?_)) rfl (by kernel_rfl) (by kernel_rfl) (by kernel_rfl) (fun _ _ _ _ h => h) (ys_move (Ev.t rfl)) rfl ?_; clear S a w; intro a w S)
    (refine h_y (i := 2) S (by repeat (first | exact List.Sublist.refl _ | exact List.nil_sublist _ | refine .cons_cons _ ?_ | refine .cons _ ?_)) rfl (by kernel_rfl) (by kernel_rfl) (by kernel_rfl) (fun _ _ _ _ h => h) (ys_ldA ⟨Try.isAgg58, Try.sizeOf58⟩ (Ev.t rfl) (k := 0) rfl rfl) rfl ?_; clear S a w; intro a w S)
    refine h_split (i := 1) (j := 7) (by kernel_rfl) rfl rfl ?_ ?_
    (refine op_calls S Try.call19 (EvL.cons (Ev.t rfl) EvL.nil) (c19 _ _ _ (by exact .old S.wd (by assumption)) (by exact .old S.wd (by assumption)) (by assumption) (by assumption)) rfl ?_; clear S a w; rintro _ _ ⟨A1, r1, s1, w11, bs1, rfl, rfl, hr11, hr21⟩ a w S; refine h_on S _ (List.Sublist.refl _) (by repeat (first | exact List.Sublist.refl _ | exact List.nil_sublist _ | refine .cons_cons _ ?_ | refine .cons _ ?_)) ?_)
    refine h_split (i := 3) (j := 7) (by kernel_rfl) rfl rfl ?_ ?_
    (refine op_y S (ys_call Try.call18 (EvL.cons (Ev.t rfl) (EvL.cons (Ev.t rfl) EvL.nil)) (fun hp w W => c18 _ _ _ _ _ (by exact Sl.of_own W (k := 0) rfl (fun _ => rfl)) (by exact carts_rd (by assumption) W (k := 1) rfl))) rfl ?_; clear S a w; intro a w S; refine h_on S _ (List.Sublist.refl _) (by repeat (first | exact List.Sublist.refl _ | exact List.nil_sublist _ | refine .cons_cons _ ?_ | refine .cons _ ?_)) ?_)
    simp only [List.nil_append] at S
    (refine h_y (i := 4) S (by repeat (first | exact List.Sublist.refl _ | exact List.nil_sublist _ | refine .cons_cons _ ?_ | refine .cons _ ?_)) rfl (by kernel_rfl) (by kernel_rfl) (by kernel_rfl) (fun _ _ _ _ h => h) (ys_move (Ev.t rfl)) rfl ?_; clear S a w; intro a w S)
    (refine h_y (i := 5) S (by repeat (first | exact List.Sublist.refl _ | exact List.nil_sublist _ | refine .cons_cons _ ?_ | refine .cons _ ?_)) rfl (by kernel_rfl) (by kernel_rfl) (by kernel_rfl) (fun _ _ _ _ h => h) (ys_ext (Ev.t rfl) rfl) rfl ?_; clear S a w; intro a w S)
    (refine h_y (i := 6) S (by repeat (first | exact List.Sublist.refl _ | exact List.nil_sublist _ | refine .cons_cons _ ?_ | refine .cons _ ?_)) rfl (by kernel_rfl) (by kernel_rfl) (by kernel_rfl) (fun _ _ _ _ h => h) (ys_ext (Ev.t rfl) rfl) rfl ?_; clear S a w; intro a w S)
    (refine h_m (i := 7) rfl (by kernel_rfl) (op_alloc S Try.zeroValue23 (cs := _) rfl rfl ?_); clear S a w; intro g2 a w S; refine h_on S _ (List.Sublist.refl _) (by repeat (first | exact List.Sublist.refl _ | exact List.nil_sublist _ | refine .cons_cons _ ?_ | refine .cons _ ?_)) ?_)
    (refine h_m0 (i := 8) rfl (by kernel_rfl) (op_stW S Try.sizeOf23 (Ev.t rfl) (Ev.t rfl) (k := 0) rfl rfl rfl (by simp [Value.oneCell']) ?_); clear S a w; intro a w S; refine h_on S _ (List.Sublist.refl _) (by repeat (first | exact List.Sublist.refl _ | exact List.nil_sublist _ | refine .cons_cons _ ?_ | refine .cons _ ?_)) ?_)
    (refine h_y (i := 9) S (by repeat (first | exact List.Sublist.refl _ | exact List.nil_sublist _ | refine .cons_cons _ ?_ | refine .cons _ ?_)) rfl (by kernel_rfl) (by kernel_rfl) (by kernel_rfl) (fun _ _ _ _ h => h) (ys_assign (Ev.t rfl)) rfl ?_; clear S a w; intro a w S)
    refine h_done (by kernel_rfl) ?_
    rotate_left
    (refine op_alloc S Try.zeroValue23 (cs := _) rfl rfl ?_; clear S a w; intro g2 a w S; refine h_on S _ (List.Sublist.refl _) (by repeat (first | exact List.Sublist.refl _ | exact List.nil_sublist _ | refine .cons_cons _ ?_ | refine .cons _ ?_)) ?_)
    (refine h_q (i := 3) S (by repeat (first | exact List.Sublist.refl _ | exact List.nil_sublist _ | refine .cons_cons _ ?_ | refine .cons _ ?_)) rfl (by kernel_rfl) (ys_call Try.call18 (EvL.cons (Ev.t rfl) (EvL.cons (Ev.t rfl) EvL.nil)) (fun hp w W => c18 _ _ _ _ _ (by exact Sl.of_own W (k := 1) rfl (fun _ => rfl)) (by exact carts_rd (by assumption) W (k := 2) rfl))) rfl ?_; clear S a w; intro a w S)
    simp only [List.nil_append] at S
    (refine h_y (i := 4) S (by repeat (first | exact List.Sublist.refl _ | exact List.nil_sublist _ | refine .cons_cons _ ?_ | refine .cons _ ?_)) rfl (by kernel_rfl) (by kernel_rfl) (by kernel_rfl) (fun _ _ _ _ h => h) (ys_move (Ev.t rfl)) rfl ?_; clear S a w; intro a w S)
    (refine h_y (i := 5) S (by repeat (first | exact List.Sublist.refl _ | exact List.nil_sublist _ | refine .cons_cons _ ?_ | refine .cons _ ?_)) rfl (by kernel_rfl) (by kernel_rfl) (by kernel_rfl) (fun _ _ _ _ h => h) (ys_ext (Ev.t rfl) rfl) rfl ?_; clear S a w; intro a w S)
    (refine h_y (i := 6) S (by repeat (first | exact List.Sublist.refl _ | exact List.nil_sublist _ | refine .cons_cons _ ?_ | refine .cons _ ?_)) rfl (by kernel_rfl) (by kernel_rfl) (by kernel_rfl) (fun _ _ _ _ h => h) (ys_ext (Ev.t rfl) rfl) rfl ?_; clear S a w; intro a w S)
    (refine h_m0 (i := 8) rfl (by kernel_rfl) (op_stW S Try.sizeOf23 (Ev.t rfl) (Ev.t rfl) (k := 0) rfl rfl rfl (by simp [Value.oneCell']) ?_); clear S a w; intro a w S; refine h_on S _ (List.Sublist.refl _) (by repeat (first | exact List.Sublist.refl _ | exact List.nil_sublist _ | refine .cons_cons _ ?_ | refine .cons _ ?_)) ?_)
    (refine h_y (i := 9) S (by repeat (first | exact List.Sublist.refl _ | exact List.nil_sublist _ | refine .cons_cons _ ?_ | refine .cons _ ?_)) rfl (by kernel_rfl) (by kernel_rfl) (by kernel_rfl) (fun _ _ _ _ h => h) (ys_assign (Ev.t rfl)) rfl ?_; clear S a w; intro a w S)
    refine h_done (by kernel_rfl) ?_
    rotate_left
    (refine op_alloc S Try.zeroValue23 (cs := _) rfl rfl ?_; clear S a w; intro g2 a w S; refine h_on S _ (List.Sublist.refl _) (by repeat (first | exact List.Sublist.refl _ | exact List.nil_sublist _ | refine .cons_cons _ ?_ | refine .cons _ ?_)) ?_)
    (refine h_m (i := 1) rfl (by kernel_rfl) (op_calls S Try.call19 (EvL.cons (Ev.t rfl) EvL.nil) (c19 _ _ _ (by exact .old S.wd (by assumption)) (by exact .old S.wd (by assumption)) (by assumption) (by assumption)) rfl ?_); clear S a w; rintro _ _ ⟨A1, r1, s1, w11, bs1, rfl, rfl, hr11, hr21⟩ a w S; refine h_on S _ (List.Sublist.refl _) (by repeat (first | exact List.Sublist.refl _ | exact List.nil_sublist _ | refine .cons_cons _ ?_ | refine .cons _ ?_)) ?_)
    (refine h_q (i := 3) S (by repeat (first | exact List.Sublist.refl _ | exact List.nil_sublist _ | refine .cons_cons _ ?_ | refine .cons _ ?_)) rfl (by kernel_rfl) (ys_call Try.call18 (EvL.cons (Ev.t rfl) (EvL.cons (Ev.t rfl) EvL.nil)) (fun hp w W => c18 _ _ _ _ _ (by exact Sl.of_own W (k := 0) rfl (fun _ => rfl)) (by exact carts_rd (by assumption) W (k := 1) rfl))) rfl ?_; clear S a w; intro a w S)
    simp only [List.nil_append] at S
    (refine h_y (i := 4) S (by repeat (first | exact List.Sublist.refl _ | exact List.nil_sublist _ | refine .cons_cons _ ?_ | refine .cons _ ?_)) rfl (by kernel_rfl) (by kernel_rfl) (by kernel_rfl) (fun _ _ _ _ h => h) (ys_move (Ev.t rfl)) rfl ?_; clear S a w; intro a w S)
    (refine h_y (i := 5) S (by repeat (first | exact List.Sublist.refl _ | exact List.nil_sublist _ | refine .cons_cons _ ?_ | refine .cons _ ?_)) rfl (by kernel_rfl) (by kernel_rfl) (by kernel_rfl) (fun _ _ _ _ h => h) (ys_ext (Ev.t rfl) rfl) rfl ?_; clear S a w; intro a w S)
    (refine h_y (i := 6) S (by repeat (first | exact List.Sublist.refl _ | exact List.nil_sublist _ | refine .cons_cons _ ?_ | refine .cons _ ?_)) rfl (by kernel_rfl) (by kernel_rfl) (by kernel_rfl) (fun _ _ _ _ h => h) (ys_ext (Ev.t rfl) rfl) rfl ?_; clear S a w; intro a w S)
    (refine h_m0 (i := 8) rfl (by kernel_rfl) (op_stW S Try.sizeOf23 (Ev.t rfl) (Ev.t rfl) (k := 2) rfl rfl rfl (by simp [Value.oneCell']) ?_); clear S a w; intro a w S; refine h_on S _ (List.Sublist.refl _) (by repeat (first | exact List.Sublist.refl _ | exact List.nil_sublist _ | refine .cons_cons _ ?_ | refine .cons _ ?_)) ?_)
    (refine h_y (i := 9) S (by repeat (first | exact List.Sublist.refl _ | exact List.nil_sublist _ | refine .cons_cons _ ?_ | refine .cons _ ?_)) rfl (by kernel_rfl) (by kernel_rfl) (by kernel_rfl) (fun _ _ _ _ h => h) (ys_assign (Ev.t rfl)) rfl ?_; clear S a w; intro a w S)
    refine h_done (by kernel_rfl) ?_
    rotate_left
    all_goals (rw [hr11] at S; exact ⟨_, S.picks (by repeat (first | exact Fits.nil | refine Fits.skip rfl ?_ | refine Fits.cons rfl ?_)) (by repeat (first | exact Picks.nil | (refine Picks.rest ?_; (repeat (first | exact List.Sublist.refl _ | refine List.Sublist.cons_cons _ ?_ | refine List.Sublist.cons _ ?_)); done) | refine Picks.take 0 rfl ?_ | refine Picks.take 1 rfl ?_ | refine Picks.take 2 rfl ?_ | refine Picks.take 3 rfl ?_ | refine Picks.take 4 rfl ?_ | refine Picks.take 5 rfl ?_ | refine Picks.take 6 rfl ?_ | refine Picks.take 7 rfl ?_ | refine Picks.take 8 rfl ?_ | refine Picks.take 9 rfl ?_ | refine Picks.take 10 rfl ?_ | refine Picks.take 11 rfl ?_))⟩)
  clear S
  rcases e with _ | _ | _ | _ | _ | _ | _
  any_goals exact qq.elim
  obtain ⟨g5, S⟩ := qq
  refine then_normal (hK9 _ _ ?_)
  clear hK9
  by_cases hr : (readyG (l.map (·.1)) p q).2 = 0
  rotate_left
  · have hz := ready_zero hr
    have rw_r : decide ((readyG (l.map (·.1)) p q).2 ≠ 0) = true := decide_eq_true hr
    have rw_1 : decide ((0 : Int) = 0 ∧ (0 : Int) = 0 ∧ (0 : Int) = 0) = true := by decide
    rw [hz] at S
    dsimp only [Dot.enc] at S
    refine wp_seq_k fun _ hK1 => ?_
    refine wp_seq_k fun _ hK2 => ?_
    refine wp_region_lit ?_
    (refine st_y S (Yr.ys (ys_move (Ev.t rfl))) rfl ?_; clear S a w; intro a w S)
    (refine st_y S (Yr.ys (ys_T (by omega) (ys_neq (Ev.t rfl) Ev.c))) rfl ?_; clear S a w; intro a w S)
    refine st_nil ?_
    (refine (then_normal (hK2 _ _ ?_)); clear hK2)
    refine st_then S (Ev.t rfl) ?_
    refine wp_seq_k fun _ hK2 => ?_
    refine wp_region_lit ?_
    (refine st_y S (Yr.ys (ys_ldA ⟨Try.isAgg23, Try.sizeOf23⟩ (Ev.t rfl) (k := 0) rfl rfl)) rfl ?_; clear S a w; intro a w S)
    (refine st_y S (Yr.ys (ys_bld (ps := []) (us := [_, _, _]) bld23 EvL.nil rfl)) rfl ?_; clear S a w; intro a w S)
    (refine st_y S (Yr.ys (ys_eqA (Ev.t rfl) (Ev.t rfl) eq23)) rfl ?_; clear S a w; intro a w S)
    rw [rw_1] at S
    (refine st_y S (Yr.ys (ys_move (Ev.t rfl))) rfl ?_; clear S a w; intro a w S)
    (refine st_yt S rfl rfl (ys_call Try.call12 EvL.nil (fun hp w W => c12 _)) rfl ?_; clear S a w; intro a w S)
    (refine st_y S (Yr.ys (ys_pickT (Ev.t rfl) (Ev.t rfl))) rfl ?_; clear S a w; intro a w S)
    (refine st_y S (Yr.ys (ys_assign (Ev.t rfl))) rfl ?_; clear S a w; intro a w S)
    refine st_nil ?_
    (refine (then_normal (hK2 _ _ ?_)); clear hK2)
    refine wp_ret ?_
    refine (then_ret ?_)
    refine st_ret S (results1 S Try.results6 (Rv.tmp rfl)) ?_
    all_goals exact ⟨rfl, S.wd.below⟩
  obtain ⟨c, hne, hall, hok, hlv, em, hmy⟩ := ready_ok hr
  have rw_r : decide ((readyG (l.map (·.1)) p q).2 ≠ 0) = false := decide_eq_false (fun h => h hr)
  rw [em] at S
  dsimp only [Dot.enc] at S
  obtain ⟨t, ht⟩ : ∃ t, t = c.ctx.top p q := ⟨_, rfl⟩
  rw [← ht] at S hmy
  have rw_p : putsG [107] [] (List.take 40 [(⟨p, q, t⟩ : Dot)]) = [⟨[107], ⟨p, q, t⟩⟩] := one_put hmy
  have rw_m := one_marks ⟨p, q, t⟩
  have hcl : cleanG [⟨p, q, t⟩] c = (pruneL [⟨p, q, t⟩] c, 0) := clean_of hok (by simp [overG, ht])
  have hy : (pruneL [⟨p, q, t⟩] c).ents = c.ents := clean_reads (by simp [hlv])
  have htg : (pruneL [⟨p, q, t⟩] c).ctx.top p q = 0 := top_gone hok (by simp [inA])
  have p1 : ∀ y ∈ c.ents, priceB y.price = true := fun y hy => by obtain ⟨k1, k2, k3, k4⟩ := hok.each y hy; exact k3
  obtain ⟨Y, hY⟩ : ∃ Y, pruneL [⟨p, q, t⟩] c = Y := ⟨_, rfl⟩
  rw [hY] at hcl hy htg
  have rw_k1 : (cleanG [⟨p, q, t⟩] c).1 = Y := by rw [hcl]
  have rw_k2 : (cleanG [⟨p, q, t⟩] c).2 = 0 := by rw [hcl]
  have hl3 := cart_len3 hok
  have hlen : 0 < l.length := by
    rcases l with _ | ⟨x, r⟩
    · exact absurd rfl hne
    · simp
  refine wp_seq_k fun _ hK1 => ?_
  refine wp_seq_k fun _ hK2 => ?_
  refine wp_region_lit ?_
  (refine st_y S (Yr.ys (ys_move (Ev.t rfl))) rfl ?_; clear S a w; intro a w S)
  (refine st_y S (Yr.ys (ys_F (by omega) (ys_neq (Ev.t rfl) Ev.c))) rfl ?_; clear S a w; intro a w S)
  refine st_nil ?_
  (refine (then_normal (hK2 _ _ ?_)); clear hK2)
  refine st_else S (Ev.t rfl) ?_
  refine wp_skip ?_
  (refine (then_normal (hK1 _ _ ?_)); clear hK1)
  refine wp_seq_k fun _ hK1 => ?_
  refine wp_region_lit ?_
  (refine st_y S (Yr.ys (ys_ldA ⟨Try.isAgg23, Try.sizeOf23⟩ (Ev.t rfl) (k := 0) rfl rfl)) rfl ?_; clear S a w; intro a w S)
  (refine st_m (op_bslice1 S Try.underlying25 inf23 rfl rfl rfl (Ev.t rfl) rfl rfl rfl ?_); clear S a w; intro g2 a w S)
  (refine st_m (op_calls S Try.call13 (EvL.cons Ev.c (EvL.cons (Ev.t rfl) EvL.nil)) (c13 _ _ _ _ (by exact sl_y1 S.wd (k := 0) rfl) (by (simp; done)) (by (simp; done))) rfl ?_); clear S a w; rintro _ _ ⟨g3, A1, r1, rfl, rfl⟩ a w S)
  rw [rw_p] at S
  (refine st_y S (Yr.ys (ys_assign (Ev.t rfl))) rfl ?_; clear S a w; intro a w S)
  refine st_nil ?_
  (refine (then_normal (hK1 _ _ ?_)); clear hK1)
  refine wp_seq_k fun _ hK1 => ?_
  refine wp_seq_k fun _ hK2 => ?_
  refine wp_region_lit ?_
  (refine st_y S (Yr.ys (ys_move (Ev.t rfl))) rfl ?_; clear S a w; intro a w S)
  (refine st_y S (Yr.ys (ys_lenS Try.underlying56 (Ev.t rfl))) rfl ?_; clear S a w; intro a w S)
  (refine st_y S (Yr.ys (ys_move Ev.c)) rfl ?_; clear S a w; intro a w S)
  refine st_nil ?_
  (refine (then_normal (hK2 _ _ ?_)); clear hK2)
  refine wp_block ?_
  refine st_loopM S [4, 32] (X := Nat) (fun i => [(4, true, .bool false), (32, true, .int .i64 (i : Int))]) (fun _ => tabP g3 A1 r1 [⟨[107], ⟨p, q, t⟩⟩] [.blk g1 (.cells #[.int .i64 p, .int .i64 q] 58)]) (fun i => i ≤ l.length) (fun i => l.length - i) 0 (Nat.zero_le _) (by repeat (first | exact Fits.nil | refine Fits.skip rfl ?_ | refine Fits.cons rfl ?_)) (by repeat (first | exact Picks.nil | (refine Picks.rest ?_; (repeat (first | exact List.Sublist.refl _ | refine List.Sublist.cons_cons _ ?_ | refine List.Sublist.cons _ ?_)); done) | refine Picks.take 0 rfl ?_ | refine Picks.take 1 rfl ?_ | refine Picks.take 2 rfl ?_ | refine Picks.take 3 rfl ?_ | refine Picks.take 4 rfl ?_ | refine Picks.take 5 rfl ?_ | refine Picks.take 6 rfl ?_ | refine Picks.take 7 rfl ?_ | refine Picks.take 8 rfl ?_ | refine Picks.take 9 rfl ?_ | refine Picks.take 10 rfl ?_ | refine Picks.take 11 rfl ?_)) ?_
  clear S
  rintro i a w hi S
  by_cases hlt : i < l.length
  · obtain ⟨gq, oq, x, rfl, hx, hd, hcx⟩ := row_at hA hlt
    have hxc := hc x (List.mem_of_getElem? hx)
    have hX := hall x.1 (List.mem_map.2 ⟨x, List.mem_of_getElem? hx, rfl⟩)
    obtain ⟨X, s⟩ := x
    dsimp only at hX
    subst hX
    have q1 := hxc.ents
    have q2 := hxc.ctx
    have rw_y := hy
    have rw_t := htg
    refine wp_seq_k fun _ hK2 => ?_
    refine wp_region_lit ?_
    (refine st_y S (Yr.ys (ys_T (by omega) (ys_lss (Ev.t rfl) (Ev.t rfl)))) rfl ?_; clear S a w; intro a w S)
    refine st_nil ?_
    (refine (then_normal (hK2 _ _ ?_)); clear hK2)
    refine wp_seq_k fun _ hK2 => ?_
    refine st_then S (Ev.t rfl) ?_
    refine wp_skip ?_
    (refine (then_normal (hK2 _ _ ?_)); clear hK2)
    refine wp_seq_k fun _ hK2 => ?_
    refine wp_block ?_
    refine wp_seq_k fun _ hK3 => ?_
    refine wp_region_lit ?_
    (refine st_y S (Yr.ys (ys_ixS Try.underlying56 Try.sizeOf30 (Ev.t rfl) (Ev.t rfl) (fun _ => by omega))) rfl ?_; clear S a w; intro a w S)
    (refine st_y S (Yr.ys (ys_ldOA ⟨Try.isAgg30, Try.sizeOf30⟩ (Ev.t rfl) (vs := [_, _, _]) rfl (fun _ => hcx))) rfl ?_; clear S a w; intro a w S)
    (refine st_m (op_alloc S Try.zeroValue30 (cs := _) rfl rfl ?_); clear S a w; intro g4 a w S)
    (refine st_m (op_stW S Try.sizeOf30 (Ev.t rfl) (Ev.t rfl) (k := 0) rfl rfl rfl (by simp [Value.oneCell']) ?_); clear S a w; intro a w S)
    refine st_nil ?_
    (refine (then_normal (hK3 _ _ ?_)); clear hK3)
    refine wp_seq_k fun _ hK3 => ?_
    refine wp_region_lit ?_
    (refine st_y S (Yr.ys (ys_move (Ev.t rfl))) rfl ?_; clear S a w; intro a w S)
    (refine st_y S (Yr.ys (ys_ldA ⟨Try.isAgg30, Try.sizeOf30⟩ (Ev.t rfl) (k := 0) rfl rfl)) rfl ?_; clear S a w; intro a w S)
    (refine st_m (op_calls S Try.call14 (EvL.cons (Ev.t rfl) EvL.nil) (c14 _ _ _ _ _ (by exact .old S.wd (by assumption)) (by exact .old S.wd (by assumption)) (by (dsimp only; omega)) (by (dsimp only; omega)) (by (dsimp only; omega))) rfl ?_); clear S a w; rintro _ _ ⟨A11, r11, A21, r21, A31, r31, rfl, rfl⟩ a w S)
    simp only [List.nil_append] at S
    (refine st_m (op_calls S Try.call7 (EvL.cons (Ev.t rfl) (EvL.cons Ev.c (EvL.cons (Ev.t rfl) EvL.nil))) (c7 _ _ _ _ _ _ _ _ _ (by exact Wd.cell S.wd (k := 4) rfl rfl) (by exact Wd.cell S.wd (k := 4) rfl rfl) (by exact Sl.of_own S.wd (k := 5) rfl (fun _ => rfl)) (by (simp; done)) (by exact Sl.of_own S.wd (k := 0) rfl (fun _ => rfl)) (by exact ⟨(by exact Sl.of_own S.wd (k := 1) rfl (fun _ => rfl)), (by exact Sl.of_own S.wd (k := 2) rfl (fun _ => rfl))⟩)) rfl ?_); clear S a w; rintro _ _ ⟨A12, r12, A22, r22, A32, r32, rfl, rfl⟩ a w S)
    rw [rw_m] at S
    rw [rw_k1] at S
    rw [rw_k2] at S
    rw [rw_y] at S
    (refine st_y S (Yr.ys (ys_move (Ev.t rfl))) rfl ?_; clear S a w; intro a w S)
    (refine st_y S (Yr.ys (ys_ext (Ev.t rfl) rfl)) rfl ?_; clear S a w; intro a w S)
    (refine st_y S (Yr.ys (ys_ext (Ev.t rfl) rfl)) rfl ?_; clear S a w; intro a w S)
    (refine st_m (op_alloc S Try.zeroValue30 (cs := _) rfl rfl ?_); clear S a w; intro g6 a w S)
    (refine st_m (op_stW S Try.sizeOf30 (Ev.t rfl) (Ev.t rfl) (k := 0) rfl rfl rfl (by simp [Value.oneCell']) ?_); clear S a w; intro a w S)
    (refine st_y S (Yr.ys (ys_assign (Ev.t rfl))) rfl ?_; clear S a w; intro a w S)
    refine st_nil ?_
    (refine (then_normal (hK3 _ _ ?_)); clear hK3)
    refine wp_seq_k fun _ hK3 => ?_
    (refine h_begin0 S (by kernel_rfl) ?_; clear S a w; intro a w S)
    (refine h_y (i := 0) S (by repeat (first | exact List.Sublist.refl _ | exact List.nil_sublist _ | refine .cons_cons _ ?_ | refine .cons _ ?_)) rfl (by kernel_rfl) (by kernel_rfl) (by kernel_rfl) (fun _ _ _ _ h => h) (ys_move (Ev.t rfl)) rfl ?_; clear S a w; intro a w S)
    (refine h_y (i := 1) S (by repeat (first | exact List.Sublist.refl _ | exact List.nil_sublist _ | refine .cons_cons _ ?_ | refine .cons _ ?_)) rfl (by kernel_rfl) (by kernel_rfl) (by kernel_rfl) (fun _ _ _ _ h => h) (ys_F (by omega) (ys_neq (Ev.t rfl) Ev.c)) rfl ?_; clear S a w; intro a w S)
    (refine h_y (i := 2) S (by repeat (first | exact List.Sublist.refl _ | exact List.nil_sublist _ | refine .cons_cons _ ?_ | refine .cons _ ?_)) rfl (by kernel_rfl) (by kernel_rfl) (by kernel_rfl) (fun _ _ _ _ h => h) (ys_move (Ev.t rfl)) rfl ?_; clear S a w; intro a w S)
    (refine h_yt (i := 3) S (by repeat (first | exact List.Sublist.refl _ | exact List.nil_sublist _ | refine .cons_cons _ ?_ | refine .cons _ ?_)) rfl (by kernel_rfl) (by kernel_rfl) (by kernel_rfl) (fun _ _ _ _ h => h) rfl rfl (ys_fieldN (FieldT.mk Try.underlying30 rfl Try.sizeOf28 rfl) (Ev.t rfl) (i' := 1) rfl) rfl ?_; clear S a w; intro a w S)
    (refine h_yt (i := 4) S (by repeat (first | exact List.Sublist.refl _ | exact List.nil_sublist _ | refine .cons_cons _ ?_ | refine .cons _ ?_)) rfl (by kernel_rfl) (by kernel_rfl) (by kernel_rfl) (fun _ _ _ _ h => h) rfl rfl (ys_ldA ⟨Try.isAgg28, Try.sizeOf28⟩ (Ev.t rfl) (k := 0) rfl rfl) rfl ?_; clear S a w; intro a w S)
    (refine h_yt (i := 5) S (by repeat (first | exact List.Sublist.refl _ | exact List.nil_sublist _ | refine .cons_cons _ ?_ | refine .cons _ ?_)) rfl (by kernel_rfl) (by kernel_rfl) (by kernel_rfl) (fun _ _ _ _ h => h) rfl rfl (ys_ldA ⟨Try.isAgg58, Try.sizeOf58⟩ (Ev.t rfl) (k := 10) rfl rfl) rfl ?_; clear S a w; intro a w S)
    (refine h_qf (i := 6) S (by repeat (first | exact List.Sublist.refl _ | exact List.nil_sublist _ | refine .cons_cons _ ?_ | refine .cons _ ?_)) rfl (by kernel_rfl) rfl rfl (ys_call Try.call20 (EvL.cons (Ev.t rfl) (EvL.cons (Ev.t rfl) EvL.nil)) (fun hp w W => c20 _ _ _ _ _ _ (by exact ⟨(by exact Sl.of_own W (k := 2) rfl (fun _ => rfl)), (by exact Sl.of_own W (k := 3) rfl (fun _ => rfl))⟩))) rfl ?_; clear S a w; intro a w S)
    rw [rw_t] at S
    (refine h_yt (i := 7) S (by repeat (first | exact List.Sublist.refl _ | exact List.nil_sublist _ | refine .cons_cons _ ?_ | refine .cons _ ?_)) rfl (by kernel_rfl) (by kernel_rfl) (by kernel_rfl) (fun _ _ _ _ h => h) rfl rfl (ys_F (by omega) (ys_neq (Ev.g rfl) Ev.c)) rfl ?_; clear S a w; intro a w S)
    (refine h_y (i := 8) S (by repeat (first | exact List.Sublist.refl _ | exact List.nil_sublist _ | refine .cons_cons _ ?_ | refine .cons _ ?_)) rfl (by kernel_rfl) (by kernel_rfl) (by kernel_rfl) (fun _ _ _ _ h => h) (ys_pickF (Ev.t rfl) (Ev.t rfl)) rfl ?_; clear S a w; intro a w S)
    (refine h_y (i := 9) S (by repeat (first | exact List.Sublist.refl _ | exact List.nil_sublist _ | refine .cons_cons _ ?_ | refine .cons _ ?_)) rfl (by kernel_rfl) (by kernel_rfl) (by kernel_rfl) (fun _ _ _ _ h => h) (ys_move (Ev.t rfl)) rfl ?_; clear S a w; intro a w S)
    (refine h_yt (i := 10) S (by repeat (first | exact List.Sublist.refl _ | exact List.nil_sublist _ | refine .cons_cons _ ?_ | refine .cons _ ?_)) rfl (by kernel_rfl) (by kernel_rfl) (by kernel_rfl) (fun _ _ _ _ h => h) rfl rfl (ys_ldA ⟨Try.isAgg30, Try.sizeOf30⟩ (Ev.t rfl) (k := 0) rfl rfl) rfl ?_; clear S a w; intro a w S)
    (refine h_yt (i := 12) S (by repeat (first | exact List.Sublist.refl _ | exact List.nil_sublist _ | refine .cons_cons _ ?_ | refine .cons _ ?_)) rfl (by kernel_rfl) (by kernel_rfl) (by kernel_rfl) (fun _ _ _ _ h => h) rfl rfl (ys_ldA ⟨Try.isAgg30, Try.sizeOf30⟩ (Ev.t rfl) (k := 7) rfl rfl) rfl ?_; clear S a w; intro a w S)
    (refine h_mg (i := 11) S rfl (by kernel_rfl) rfl rfl (op_calls S Try.call17 (EvL.cons (Ev.t rfl) EvL.nil) (c17 _ _ _ _ _ _ _ _ _ (by exact Sl.of_own S.wd (k := 1) rfl (fun _ => rfl)) (by assumption) (by omega)) rfl ?_); clear S a w; rintro _ _ ⟨A2, r2, rfl, rfl⟩ a w S; refine h_on S _ (by repeat (first | exact List.Sublist.refl _ | exact List.nil_sublist _ | refine .cons_cons _ ?_ | refine .cons _ ?_)) (List.Sublist.refl _) ?_)
    (refine h_mg (i := 13) S rfl (by kernel_rfl) rfl rfl (op_calls S Try.call17 (EvL.cons (Ev.t rfl) EvL.nil) (c17 _ _ _ _ _ _ _ _ _ (by exact .old S.wd (by assumption)) (by assumption) (by (dsimp only; omega))) rfl ?_); clear S a w; rintro _ _ ⟨A3, r3, rfl, rfl⟩ a w S; refine h_on S _ (by repeat (first | exact List.Sublist.refl _ | exact List.nil_sublist _ | refine .cons_cons _ ?_ | refine .cons _ ?_)) (List.Sublist.refl _) ?_)
    simp only [List.nil_append] at S
    (refine h_qf (i := 14) S (by repeat (first | exact List.Sublist.refl _ | exact List.nil_sublist _ | refine .cons_cons _ ?_ | refine .cons _ ?_)) rfl (by kernel_rfl) rfl rfl (ys_call Try.call16 (EvL.cons (Ev.t rfl) (EvL.cons (Ev.t rfl) EvL.nil)) (fun hp w W => c16 _ _ _ _ _ (by exact Sl.of_own W (k := 1) rfl (fun _ => rfl)) (by exact Sl.of_own W (k := 0) rfl (fun _ => rfl)))) rfl ?_; clear S a w; intro a w S)
    simp only [List.nil_append] at S
    (refine h_yt (i := 15) S (by repeat (first | exact List.Sublist.refl _ | exact List.nil_sublist _ | refine .cons_cons _ ?_ | refine .cons _ ?_)) rfl (by kernel_rfl) (by kernel_rfl) (by kernel_rfl) (fun _ _ _ _ h => h) rfl rfl (ys_not (Ev.g rfl)) rfl ?_; clear S a w; intro a w S)
    (refine h_y (i := 16) S (by repeat (first | exact List.Sublist.refl _ | exact List.nil_sublist _ | refine .cons_cons _ ?_ | refine .cons _ ?_)) rfl (by kernel_rfl) (by kernel_rfl) (by kernel_rfl) (fun _ _ _ _ h => h) (ys_pickF (Ev.t rfl) (Ev.t rfl)) rfl ?_; clear S a w; intro a w S)
    refine h_done (by kernel_rfl) ?_
    (refine (then_normal (hK3 _ _ ?_)); clear hK3)
    refine st_else S (Ev.t rfl) ?_
    refine wp_skip ?_
    (refine (in_normal (then_normal (hK2 _ _ ?_))); clear hK2)
    refine wp_region_lit ?_
    (refine st_y S (Yr.ys (ys_addI (Ev.t rfl) Ev.c (fun _ => by unfold I64; omega))) rfl ?_; clear S a w; intro a w S)
    (refine st_y S (Yr.ys (ys_move (Ev.t rfl))) rfl ?_; clear S a w; intro a w S)
    refine st_nil ?_
    refine (then_normal ?_)
    exact ⟨i + 1, by omega, by omega, S.picks (by repeat (first | exact Fits.nil | refine Fits.skip rfl ?_ | refine Fits.cons rfl ?_)) (by repeat (first | exact Picks.nil | (refine Picks.rest ?_; (repeat (first | exact List.Sublist.refl _ | refine List.Sublist.cons_cons _ ?_ | refine List.Sublist.cons _ ?_)); done) | refine Picks.take 0 rfl ?_ | refine Picks.take 1 rfl ?_ | refine Picks.take 2 rfl ?_ | refine Picks.take 3 rfl ?_ | refine Picks.take 4 rfl ?_ | refine Picks.take 5 rfl ?_ | refine Picks.take 6 rfl ?_ | refine Picks.take 7 rfl ?_ | refine Picks.take 8 rfl ?_ | refine Picks.take 9 rfl ?_ | refine Picks.take 10 rfl ?_ | refine Picks.take 11 rfl ?_))⟩
  obtain rfl : i = l.length := by omega
  refine wp_seq_k fun _ hK2 => ?_
  refine wp_region_lit ?_
  (refine st_y S (Yr.ys (ys_F (by omega) (ys_lss (Ev.t rfl) (Ev.t rfl)))) rfl ?_; clear S a w; intro a w S)
  refine st_nil ?_
  (refine (then_normal (hK2 _ _ ?_)); clear hK2)
  refine wp_seq_k fun _ hK2 => ?_
  refine st_else S (Ev.t rfl) ?_
  refine wp_exit ?_
  (refine (then_exit (then_exit (in_here (then_normal (hK1 _ _ ?_))))); clear hK1)
  refine wp_seq_k fun _ hK1 => ?_
  refine wp_region_lit ?_
  (refine st_y S (Yr.ys (ys_move (Ev.t rfl))) rfl ?_; clear S a w; intro a w S)
  (refine st_y S (Yr.ys (ys_lenS Try.underlying56 (Ev.t rfl))) rfl ?_; clear S a w; intro a w S)
  (refine st_y S (Yr.ys (ys_T (by omega) (ys_gtr (Ev.t rfl) Ev.c))) rfl ?_; clear S a w; intro a w S)
  (refine st_y S (Yr.ys (ys_move (Ev.t rfl))) rfl ?_; clear S a w; intro a w S)
  (refine st_yt S rfl rfl (ys_call Try.call12 EvL.nil (fun hp w W => c12 _)) rfl ?_; clear S a w; intro a w S)
  (refine st_y S (Yr.ys (ys_pickT (Ev.t rfl) (Ev.t rfl))) rfl ?_; clear S a w; intro a w S)
  (refine st_y S (Yr.ys (ys_assign (Ev.t rfl))) rfl ?_; clear S a w; intro a w S)
  refine st_nil ?_
  (refine (then_normal (hK1 _ _ ?_)); clear hK1)
  refine wp_ret ?_
  refine st_ret S (results1 S Try.results6 (Rv.tmp rfl)) ?_
  exact ⟨rfl, S.wd.below⟩
end Go.Proofs.Ytakpdbmdfnialaa
