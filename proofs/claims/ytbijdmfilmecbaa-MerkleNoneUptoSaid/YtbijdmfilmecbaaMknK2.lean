/- Contracts and laws that the statement Mkn leans on, part 2. -/
import Derived.Test.YtbijdmfilmecbaaMknK1
set_option linter.unusedVariables false
set_option linter.unusedSimpArgs false
set_option maxRecDepth 100000
set_option maxHeartbeats 4000000
namespace Go.Fw
open Go.RowKit
abbrev Kh.enc (x : KH) : List Value := [.int .i64 0, .string (bs x.1), .int .u64 x.2]
structure DocAt (w : World) (g : Nat) (A : Option Addr) (cap : Nat) (T : List KH) : Prop where
  keys : w.cell? ⟨g, 0, none⟩ = some (.slice A T.length cap)
  row : Sl Kh.enc 3 w w.heap.size (.slice A T.length cap) T
theorem DocAt.old {w0 w : World} {L : List Chunk} {g cap : Nat} {A : Option Addr} {T : List KH} (W : Wd w0 L w) (h : DocAt w0 g A cap T) : DocAt w g A cap T := ⟨Wd.cellOld W h.keys, .old W h.row⟩
theorem half_left {d p : Nat} (h : (p + 1) * 2 ^ (d + 1) ≤ 16) : (2 * p + 1) * 2 ^ d ≤ 16 ∧ (2 * p + 1 + 1) * 2 ^ d ≤ 16 := by
  have e : (p + 1) * 2 ^ (d + 1) = (2 * p + 1 + 1) * 2 ^ d := by rw [Nat.pow_succ, Nat.mul_comm (2 ^ d) 2, ← Nat.mul_assoc]; congr 1; omega
  rw [e] at h
  exact ⟨Nat.le_trans (Nat.mul_le_mul_right _ (by omega)) h, h⟩
theorem half_lt {d p : Nat} (h : (p + 1) * 2 ^ d ≤ 16) : p < 16 := by
  have := Nat.le_mul_of_pos_right (p + 1) (Nat.two_pow_pos d)
  omega
theorem place_of {lv p : Int} (h1 : 0 ≤ lv ∧ lv ≤ 4) (h2 : 0 ≤ p ∧ p < 2 ^ lv.toNat) : (p.toNat + 1) * 2 ^ (4 - lv).toNat ≤ 16 := by
  have h3 : p.toNat + 1 ≤ 2 ^ lv.toNat := by
    have : ((p.toNat : Int)) < ((2 ^ lv.toNat : Nat) : Int) := by rw [Int.toNat_of_nonneg h2.1]; simpa using h2.2
    omega
  refine Nat.le_trans (Nat.mul_le_mul_right _ h3) ?_
  rw [← Nat.pow_add, show lv.toNat + (4 - lv).toNat = 4 by omega]
  decide
end Go.Fw
namespace Go.Proofs.Ytbijdmfilmecbaa
open Go.Fw Go.Proofs Go.RowKit Go.Proofs.Try
theorem hash_ind (T : List KH) (hT : KhOk T) (hl : T.length ≤ 4194304) : ∀ (d p : Nat) (lv : Int) (w0 : World) (g cap : Nat) (A : Option Addr) (gs : List Nat), TreeAt w0 g A cap gs T → 0 ≤ lv → lv = 4 - (d : Int) → (p + 1) * 2 ^ d ≤ 16 →
    Calls Try.prog 54 #[.pointer (some ⟨g, 0, none⟩), .int .i64 lv, .int .i64 (p : Int)] w0 fun e w' => e = .returned (.int .u64 (hashT T d p)) ∧ Bel w0.heap.size w0 w'
  | 0, p, lv, w0, g, cap, A, gs, h, h0, h4, hp => by
    obtain rfl : lv = 4 := by omega
    have hp16 := half_lt hp
    refine enter3 func54 rfl ntmps54 rfl fun a S => sg S (.ac rfl <| .z) fun a w S => wp_seq_k fun _ hK1 => sg S (.mv rfl <| .yy (ys_T (by omega) (ys_eql (.t rfl) Ev.c)) rfl <| .z) fun a w S => st_then S (.t rfl) (sg S (.mv rfl <| .yy (ys_nilc (.t rfl)) rfl <| .fa underlying59 sizeOf57 0 rfl rfl rfl <| .mv rfl <| .xx (ys_call call74 (.cons (.t rfl) (.cons (.t rfl) .nil)) (fun hp w W => c74 _ _ _ _ _ _ _ (by exact .old W (by assumption)) (by assumption) (by assumption) (by assumption))) rfl <| .as rfl <| .z) fun a w S => wp_ret (then_ret (st_ret S (results1 S results54 (Rv.tmp rfl)) ?_)))
    exact ⟨rfl, S.wd.below⟩
  | d + 1, p, lv, w0, g, cap, A, gs, h, h0, h4, hp => by
    have ih := hash_ind T hT hl d
    have hp16 := half_lt hp
    obtain ⟨hp1, hp2⟩ := half_left hp
    have rw_1 : (2 : Int) * (p : Int) = ((2 * p : Nat) : Int) := rfl
    have rw_2 : ((2 * p : Nat) : Int) + 1 = ((2 * p + 1 : Nat) : Int) := rfl
    have ha := hashT_range T d (2 * p)
    have hb := hashT_range T d (2 * p + 1)
    have e : hashT T (d + 1) p = if hashT T d (2 * p) = 0 ∧ hashT T d (2 * p + 1) = 0 then 0 else mixL (hashT T d (2 * p)) (hashT T d (2 * p + 1)) := by rw [hashT]
    generalize hx : hashT T d (2 * p) = x at *
    generalize hy : hashT T d (2 * p + 1) = y at *
    refine enter3 func54 rfl ntmps54 rfl fun a S => sg S (.ac rfl <| .z) fun a w S => wp_seq_k fun _ hK1 => sg S (.mv rfl <| .yy (ys_F (by omega) (ys_eql (.t rfl) Ev.c)) rfl <| .z) fun a w S => st_else S (.t rfl) (wp_skip (then_normal (hK1 _ _ (wp_seq_k fun _ hK1 => wp_region_lit (run S (.mv rfl <| .mv rfl <| .ad (by unfold I64; omega) rfl <| .mv rfl <| .yy (ys_mulI Ev.c (.t rfl) (fun _ => by unfold I64; omega)) rfl <| .z) fun a w S => ?_)))))
    rw [rw_1] at S
    refine st_y S (ys_call call54 (.cons (.t rfl) (.cons (.t rfl) (.cons (.t rfl) .nil))) (fun _ w' W' => ih (2 * p) (lv + 1) w' g cap A gs (TreeAt.old W' h) (by omega) (by omega) hp1)) rfl ?_
    clear S a w
    intro a w S
    rw [hx] at S
    refine run S (.mv rfl <| .mv rfl <| .ad (by unfold I64; omega) rfl <| .mv rfl <| .yy (ys_mulI Ev.c (.t rfl) (fun _ => by unfold I64; omega)) rfl <| .z) fun a w S => ?_
    rw [rw_1] at S
    refine run S (.ad (by unfold I64; omega) rfl <| .z) fun a w S => ?_
    rw [rw_2] at S
    refine st_y S (ys_call call54 (.cons (.t rfl) (.cons (.t rfl) (.cons (.t rfl) .nil))) (fun _ w' W' => ih (2 * p + 1) (lv + 1) w' g cap A gs (TreeAt.old W' h) (by omega) (by omega) hp2)) rfl ?_
    clear S a w
    intro a w S
    rw [hy] at S
    refine run S (.as rfl <| .as rfl <| .z) fun a w S => st_nil (then_normal (hK1 _ _ (wp_seq_k fun _ hK1 => wp_seq_k fun _ hK2 => wp_region_lit (run S (.mv rfl <| .yy (ys_eql (.t rfl) Ev.c) rfl <| .mv rfl <| .z) fun a w S => st_yg S rfl rfl (Yr.ys (ys_move (.t rfl))) rfl fun a w S => st_yg S rfl rfl (Yr.ys (ys_eql (Ev.g rfl) Ev.c)) rfl fun a w S => run S (.yy (ys_and (.t rfl) (Ev.g rfl) Ev.c) rfl <| .z) fun a w S => st_nil (then_normal (hK2 _ _ ?_))))))
    refine st_cond S (.t rfl) (fun h1 => ?_) (fun h1 => ?_)
    refine sg S (.ac rfl <| .z) fun a w S => wp_ret (then_ret (st_ret S (results1 S results54 (Rv.tmp rfl)) ?_))
    rotate_left
    refine wp_skip (then_normal (hK1 _ _ (sg S (.mv rfl <| .mv rfl <| .xx (ys_call call75 (.cons (.t rfl) (.cons (.t rfl) .nil)) (fun hp w W => c75 _ _ _ (by assumption) (by assumption))) rfl <| .as rfl <| .z) fun a w S => wp_ret (st_ret S (results1 S results54 (Rv.tmp rfl)) ?_))))
    rotate_left
    · exact ⟨by rw [e, if_pos (by simpa using h1)], S.wd.below⟩
    · exact ⟨by rw [e, if_neg (by simpa using h1)], S.wd.below⟩
theorem c54 (w0 : World) (g cap : Nat) (A : Option Addr) (gs : List Nat) (T : List KH) (lv p : Int) (h : TreeAt w0 g A cap gs T) (hT : KhOk T) (hl : T.length ≤ 4194304) (h1 : 0 ≤ lv ∧ lv ≤ 4) (h2 : 0 ≤ p ∧ p < 2 ^ lv.toNat) :
    Calls Try.prog 54 #[.pointer (some ⟨g, 0, none⟩), .int .i64 lv, .int .i64 p] w0 fun e w' => e = .returned (.int .u64 (hashT T (4 - lv).toNat p.toNat)) ∧ Bel w0.heap.size w0 w' := by
  have := hash_ind T hT hl (4 - lv).toNat p.toNat lv w0 g cap A gs h h1.1 (by omega) (place_of h1 h2)
  rwa [Int.toNat_of_nonneg h2.1] at this
end Go.Proofs.Ytbijdmfilmecbaa
set_option linter.unusedVariables false
set_option linter.unusedSimpArgs false
set_option maxRecDepth 100000
set_option maxHeartbeats 4000000
namespace Go.Fw
open Go.RowKit
section
variable {w0 w w1 : World} {L : List Chunk} {b : Nat} {o : Obj} {bs : List Nat}
theorem freeze_blk (W : Wd w0 (.blk b o :: .ice w1 bs :: L) w) : Wd w0 (.ice w (b :: bs) :: L) w ∧ b ∉ bs ∧ w.heap[b]? = some o ∧ ∀ x ∈ bs, w.heap[x]? = w1.heap[x]? := by
  have W1 := Wd.freeze (cs := [.blk b o, .ice w1 bs]) W
  have e : [Chunk.blk b o, .ice w1 bs].flatMap Chunk.blocks = b :: bs := by simp [Chunk.blocks]
  rw [e] at W1
  refine ⟨W1, fun hb => ?_, (W.get (k := 0) rfl).2, fun x hx => (W.get (k := 1) rfl x hx).2.2⟩
  have := W.apart
  rw [List.pairwise_cons] at this
  exact this.1 (.ice w1 bs) (by simp) b rfl hb
theorem thaw_blk (W : Wd w0 (.ice w1 bs :: L) w) (hb : b ∈ bs) (ho : w1.heap[b]? = some o) : Wd w0 (.blk b o :: .ice w1 (bs.filter fun x => decide (x ≠ b)) :: L) w := by
  obtain ⟨h1, h2, h3⟩ := W
  rw [List.pairwise_cons] at h3
  have hi := h2 (.ice w1 bs) (by simp)
  refine ⟨h1, fun c hc => ?_, List.Pairwise.cons (fun c hc x hx hxc => ?_) (List.Pairwise.cons (fun c hc x hx hxc => ?_) h3.2)⟩
  · rcases List.mem_cons.1 hc with rfl | hc
    · obtain ⟨k1, k2, k3⟩ := hi b hb
      exact ⟨k1, k3.trans ho⟩
    · rcases List.mem_cons.1 hc with rfl | hc
      · exact fun x hx => hi x (List.mem_filter.1 hx).1
      · exact h2 c (by simp [hc])
  · have hx' : x = b := hx
    subst hx'
    rcases List.mem_cons.1 hc with rfl | hc
    · have := (List.mem_filter.1 hxc).2
      simp at this
    · exact h3.1 c hc x hb hxc
  · exact h3.1 c hc x (List.mem_filter.1 hx).1 hxc
end
theorem maps_upd {w w1 : World} {bs bs2 gs : List Nat} {T T' : List KH} {i b : Nat} {o' : Obj} (M : MapsIn w1 bs gs T) (hi : gs[i]? = some b) (h1 : ∀ j, j ≠ i → partT T' j = partT T j) (hC : MapC o' (partT T' i)) (hw : w.heap[b]? = some o')
    (hold : ∀ x ∈ bs, x ≠ b → w.heap[x]? = w1.heap[x]?) (hbs : ∀ x ∈ bs, x ∈ bs2) : MapsIn w bs2 gs T' := by
  refine ⟨M.len, M.nodup, fun j c hc => ?_⟩
  obtain ⟨k1, o, k2, k3⟩ := M.maps j c hc
  refine ⟨hbs c k1, ?_⟩
  by_cases e : j = i
  · subst e
    rw [hi] at hc
    obtain rfl : b = c := by simpa using hc
    exact ⟨o', hw, hC⟩
  · have hne : c ≠ b := fun h => by
      subst h
      have hjl : j < gs.length := (List.getElem?_eq_some_iff.1 hc).1
      exact e ((List.getElem?_inj hjl M.nodup).1 (hc.trans hi.symm))
    exact ⟨o, (hold c k1 hne).trans k2, by rw [h1 j e]; exact k3⟩
def setE (k : List UInt8) : Int := if nameB k = true then 0 else 6
def setK (k : List UInt8) (h : Int) (T : List KH) : List KH := if nameB k = true then setT k h T else T
theorem setK_ok {k : List UInt8} {h : Int} {T : List KH} (hT : KhOk T) (hh : 0 ≤ h ∧ h ≤ 18446744073709551615) : KhOk (setK k h T) := by
  unfold setK
  split
  · rename_i hk; exact setT_ok hT hk hh
  · exact hT
theorem part_set_mem {k : List UInt8} {h : Int} {T : List KH} (hT : T.Pairwise ltK) : ∀ x, x ∈ partT (setT k h T) (placeK k) ↔ x = (k, h) ∨ (x ∈ partT T (placeK k) ∧ x.1 ≠ k) := fun x => by
  rw [partT_mem, partT_mem, setT_mem hT]
  constructor
  · rintro ⟨rfl | ⟨h1, h2⟩, h3⟩
    · exact .inl rfl
    · exact .inr ⟨⟨h1, h3⟩, h2⟩
  · rintro (rfl | ⟨⟨h1, h3⟩, h2⟩)
    · exact ⟨.inl rfl, rfl⟩
    · exact ⟨.inr ⟨h1, h2⟩, h3⟩
end Go.Fw
namespace Go.Proofs.Ytbijdmfilmecbaa
open Go.Fw Go.Proofs Go.RowKit Go.Proofs.Try
theorem inf80 : InfoT Try.prog 80 (.map none) 1 8 := by unfold InfoT; kernel_rfl
abbrev kv80 (x : List UInt8) : Value := .string (bs x)
abbrev vv80 (x : Int) : Value := .int .u64 x
theorem c44 (w0 : World) : Rets Try.prog 44 #[] w0 fun u L => ∃ g A cap gs w1 bs, u = .pointer (some ⟨g, 0, none⟩) ∧ L = treeP g A cap gs w1 bs [] ∧ MapsIn w1 bs gs [] := by
  unfold Go.Fw.Rets
  refine enter0 func44 rfl ntmps44 rfl fun a S => sg S (.ac rfl <| .z) fun a w S => wp_seq_k fun _ hK1 => wp_region_lit (run S (.yy (ys_bld (ps := []) (us := [_]) bld59 .nil rfl) rfl <| .z) fun a w S => st_m (op_box S (.t rfl) rfl fun g1 a w S => run S (.as rfl <| .z) fun a w S => st_nil (then_normal (hK1 _ _ (wp_seq_k fun _ hK1 => sg S (.mc rfl <| .z) fun a w S => wp_block ?_)))))
  replace S := S.nil_ 80 1 encMp none
  replace S : St _ _ _ (.ice w0 [] :: _) _ _ := ⟨S.kn, S.wd.bare (fun b hb => by cases hb) (fun b hb => by cases hb)⟩
  refine st_lpM S [4] (X := Nat × Option Addr × Nat × List Nat × World × List Nat) (fun q => [(4, true, .int .i64 (q.1 : Int))]) (fun q => [.blk g1 (.cells #[.slice q.2.1 q.2.2.2.1.length q.2.2.1] 59), rowOf 80 1 encMp q.2.1 q.2.2.1 q.2.2.2.1, .ice q.2.2.2.2.1 q.2.2.2.2.2])
    (fun q => q.1 ≤ 16 ∧ q.2.2.2.1.length = q.1 ∧ q.2.2.2.1.Nodup ∧ ∀ b ∈ q.2.2.2.1, b ∈ q.2.2.2.2.2 ∧ q.2.2.2.2.1.heap[b]? = some (.map #[] 0)) (fun q => 16 - q.1) (0, none, 0, [], w0, []) ⟨by simp, rfl, List.nodup_nil, by simp⟩ ?_
  clear S
  rintro ⟨i, A, cap, gs, w1, bs⟩ a w ⟨hi, hgl, hgn, hgm⟩ S
  dsimp only at hi hgl hgn hgm S
  by_cases hlt : i < 16
  · refine sg S (.yy (ys_T (by omega) (ys_lss (.t rfl) Ev.c)) rfl <| .z) fun a w S => wp_seq_k fun _ hK2 => st_then S (.t rfl) (wp_skip (then_normal (hK2 _ _ (wp_seq_k fun _ hK2 => wp_block (wp_region_lit (run S (.mv rfl <| .mv rfl <| .yy (ys_nilc (.t rfl)) rfl <| .fa underlying59 sizeOf57 0 rfl rfl rfl <| .fa underlying57 sizeOf55 0 rfl rfl rfl <| .ld gt55 0 rfl rfl rfl <| .z) fun a w S => st_m (op_makeMap kv80 vv80 S rfl fun g2 a w S => st_m (op_bslice1 S underlying55 inf80 rfl rfl rfl (.t rfl) rfl rfl rfl fun g3 a w S => st_m (op_push S underlying55 inf80 rfl (k := 3) (j := 0) rfl (.t rfl) (.t rfl) rfl rfl rfl rfl (by first | omega | (simp only [List.length_append, List.length_cons, List.length_nil]; omega)) rfl rfl rfl fun A1 cap1 a w S => run S (.yy (ys_nilc (.t rfl)) rfl <| .fa underlying59 sizeOf57 0 rfl rfl rfl <| .fa underlying57 sizeOf55 0 rfl rfl rfl <| .z) fun a w S => st_m (op_st S sizeOf55 (.t rfl) (.t rfl) (k := 2) rfl rfl (by simp) fun a w S => st_nil (in_normal (then_normal (hK2 _ _ (wp_region_lit (run S (.ad (by unfold I64; omega) rfl <| .mv rfl <| .z) fun a w S => st_nil (then_normal ?_))))))))))))))))
    obtain ⟨W1, hnb, hg2, hold⟩ := freeze_blk (S.wd.picks (L' := [.blk g2 (mapK kv80 vv80 []), .ice w1 bs, .blk g1 (.cells #[.slice A1 (gs ++ [g2]).length cap1] 59), rowOf 80 1 encMp A1 cap1 (gs ++ [g2])]) (by repeat (first | exact Picks.nil | (refine Picks.rest ?_; (repeat (first | exact List.Sublist.refl _ | refine List.Sublist.cons_cons _ ?_ | refine List.Sublist.cons _ ?_)); done) | refine Picks.take 0 rfl ?_ | refine Picks.take 1 rfl ?_ | refine Picks.take 2 rfl ?_ | refine Picks.take 3 rfl ?_ | refine Picks.take 4 rfl ?_ | refine Picks.take 5 rfl ?_ | refine Picks.take 6 rfl ?_ | refine Picks.take 7 rfl ?_ | refine Picks.take 8 rfl ?_ | refine Picks.take 9 rfl ?_ | refine Picks.take 10 rfl ?_ | refine Picks.take 11 rfl ?_)))
    replace S := St.mk S.kn W1
    refine ⟨(i + 1, A1, cap1, gs ++ [g2], w, g2 :: bs), ⟨by dsimp only; omega, by dsimp only; rw [List.length_append, hgl]; rfl, ?_, fun b hb => ?_⟩, by dsimp only; omega, S.pk⟩
    · dsimp only
      rw [List.nodup_append]
      refine ⟨hgn, by simp, fun x hx y hy e => ?_⟩
      rw [List.mem_singleton] at hy
      rw [e, hy] at hx
      exact hnb (hgm g2 hx).1
    · dsimp only at hb ⊢
      rcases List.mem_append.1 hb with hb | hb
      · obtain ⟨h1, h2⟩ := hgm b hb
        exact ⟨List.mem_cons_of_mem _ h1, (hold b h1).trans h2⟩
      · rw [List.mem_singleton] at hb
        subst hb
        exact ⟨List.mem_cons_self .., hg2⟩
  obtain rfl : i = 16 := by omega
  refine sg S (.yy (ys_F (by omega) (ys_lss (.t rfl) Ev.c)) rfl <| .z) fun a w S => wp_seq_k fun _ hK2 => st_else S (.t rfl) (wp_exit (then_exit (then_exit (in_here (then_normal (hK1 _ _ (sg S (.mv rfl <| .as rfl <| .z) fun a w S => wp_ret (st_ret S (results1 S results44 (Rv.tmp rfl)) ?_))))))))
  rw [hgl] at S
  refine ⟨_, _, rfl, S.wd.pk, g1, A, cap, gs, w1, bs, rfl, rfl, hgl, hgn, fun j b hb => ?_⟩
  obtain ⟨h1, h2⟩ := hgm b (List.mem_of_getElem? hb)
  exact ⟨h1, _, h2, mapC_nil⟩
theorem c11 {w0 w w1 : World} {L : List Chunk} {g cap : Nat} {A : Option Addr} {gs bs : List Nat} {T : List KH} {k : List UInt8} {h : Int} (W : Wd w0 (treeP g A cap gs w1 bs L) w) (M : MapsIn w1 bs gs T) (hT : KhOk T) (hk : k.length ≤ 1048576) :
    RetsO Try.prog 11 #[.pointer (some ⟨g, 0, none⟩), .string (Fw.bs k), .int .u64 h] w0 w fun u L' => ∃ w2 bs2, u = .int .i64 (setE k) ∧ L' = treeP g A cap gs w2 bs2 L ∧ MapsIn w2 bs2 gs (setK k h T) := by
  have hgl := M.len
  cases hn : nameB k with
  | false =>
    have rw_n := hn
    have e1 : setE k = 6 := by unfold setE; rw [if_neg (by rw [hn]; simp)]
    have e2 : setK k h T = T := by unfold setK; rw [if_neg (by rw [hn]; simp)]
    unfold Go.Fw.RetsO
    refine enterW3 W func11 rfl ntmps11 rfl fun a S => sg S (.ac rfl <| .z) fun a w S => wp_seq_k fun _ hK1 => sg S (.mv rfl <| .xx (ys_call call45 (.cons (.t rfl) .nil) (fun hp w W => c45 _ _ _ _ _ (by exact Wd.cell W (k := 0) rfl rfl))) rfl <| .nt rfl <| .z) fun a w S => st_else S (.t rfl) (wp_skip (then_normal (hK1 _ _ (wp_seq_k fun _ hK1 => wp_seq_k fun _ hK2 => wp_region_lit (run S (.mv rfl <| .xx (ys_call call46 (.cons (.t rfl) .nil) (fun hp w W => c46 _ _ (by assumption))) rfl <| .z) fun a w S => ?_)))))
    rw [rw_n] at S
    refine run S (.nt rfl <| .z) fun a w S => st_nil (then_normal (hK2 _ _ (st_then S (.t rfl) (sg S (.ac rfl <| .z) fun a w S => wp_ret (then_ret (st_ret S (results1 S results11 (Rv.tmp rfl)) ?_))))))
    rw [e1, e2]
    exact ⟨_, _, rfl, S.wd.pk, w1, bs, rfl, rfl, M⟩
  | true =>
    have rw_n := hn
    have hp := placeK_lt k
    have e1 : setE k = 0 := by unfold setE; rw [if_pos hn]
    have e2 : setK k h T = setT k h T := by unfold setK; rw [if_pos hn]
    obtain ⟨b, hb⟩ : ∃ b, gs[placeK k]? = some b := ⟨_, List.getElem?_eq_getElem (by omega)⟩
    obtain ⟨hbb, o, ho, hC⟩ := M.maps _ b hb
    obtain ⟨gr, rfl⟩ := W.row_at (k := 1) rfl (by have := (W.room (k := 1) rfl).1; omega)
    have halt_d := trivial
    unfold Go.Fw.RetsO
    refine enterW3 W func11 rfl ntmps11 rfl fun a S => sg S (.ac rfl <| .z) fun a w S => wp_seq_k fun _ hK1 => sg S (.mv rfl <| .xx (ys_call call45 (.cons (.t rfl) .nil) (fun hp w W => c45 _ _ _ _ _ (by exact Wd.cell W (k := 0) rfl rfl))) rfl <| .nt rfl <| .z) fun a w S => st_else S (.t rfl) (wp_skip (then_normal (hK1 _ _ (wp_seq_k fun _ hK1 => wp_seq_k fun _ hK2 => wp_region_lit (run S (.mv rfl <| .xx (ys_call call46 (.cons (.t rfl) .nil) (fun hp w W => c46 _ _ (by assumption))) rfl <| .z) fun a w S => ?_)))))
    rw [rw_n] at S
    refine run S (.nt rfl <| .z) fun a w S => st_nil (then_normal (hK2 _ _ (st_else S (.t rfl) (wp_skip (then_normal (hK1 _ _ (wp_seq_k fun _ hK1 => ?_)))))))
    clear halt_d
    replace S := S.pull 2 rfl
    simp only [List.eraseIdx_cons_succ, List.eraseIdx_cons_zero] at S
    replace S := St.mk S.kn (thaw_blk S.wd hbb ho)
    have hold_r := trivial
    refine h_begin S (by kernel_rfl) [.blk g (.cells #[.slice (some ⟨gr, 0, none⟩) 16 cap] 59), rowOf 80 1 encMp (some ⟨gr, 0, none⟩) cap gs] ?_
    clear S
    intro a w S
    refine hy 0 S rfl (ys_move (.t rfl)) rfl fun a w S => hy 1 S rfl (ys_nilc (.t rfl)) rfl fun a w S => hy 2 S rfl (ys_fieldN (FieldT.mk underlying59 rfl sizeOf57 rfl) (.t rfl) (i' := 0) rfl) rfl fun a w S => hy 3 S rfl (ys_fieldN (FieldT.mk underlying57 rfl sizeOf55 rfl) (.t rfl) (i' := 0) rfl) rfl fun a w S => hy 4 S rfl (ys_ld ⟨isAgg55, sizeOf55⟩ (.t rfl) (k := 0) rfl rfl) rfl fun a w S => ?_
    refine hy 5 S rfl (ys_move (.t rfl)) rfl fun a w S => hy 9 S rfl (ys_move (.t rfl)) rfl fun a w S => hy 10 S rfl (ys_move (.t rfl)) rfl fun a w S => h_q (i := 6) S (by repeat (first | exact List.Sublist.refl _ | exact List.nil_sublist _ | refine .cons_cons _ ?_ | refine .cons _ ?_)) rfl (by kernel_rfl) (ys_call call47 (.cons (.t rfl) .nil) (fun hp w W => c47 _ _ (by omega))) rfl fun a w S => hy 7 S rfl (ys_ixS underlying55 sizeOf80 (.t rfl) (.t rfl) (fun _ => by omega)) rfl fun a w S => ?_
    refine hy 8 S rfl (ys_ldW0 ⟨isAgg80, sizeOf80⟩ (.t rfl) (k := 1) rfl hb (fun _ => rfl) rfl) rfl fun a w S => h_m0 (i := 11) rfl (by kernel_rfl) (op_updS (partT (setT k h T) (placeK k)) S smT80 (.t rfl) (.t rfl) (.t rfl) (j := 0) rfl hC (part_set_mem hT.sorted) ?_)
    clear S
    rintro o' hC' a w S
    refine h_n1 S ?_
    refine h_done (by kernel_rfl) (then_normal (hK1 _ _ (sg S (.ac rfl <| .z) fun a w S => wp_ret (st_ret S (results1 S results11 (Rv.tmp rfl)) ?_))))
    obtain ⟨W1, hnb, hg2, hold⟩ := freeze_blk (S.wd.picks (L' := .blk b o' :: .ice w1 (bs.filter fun x => decide (x ≠ b)) :: .blk g (.cells #[.slice (some ⟨gr, 0, none⟩) 16 cap] 59) :: rowOf 80 1 encMp (some ⟨gr, 0, none⟩) cap gs :: L) (by repeat (first | exact Picks.nil | (refine Picks.rest ?_; (repeat (first | exact List.Sublist.refl _ | refine List.Sublist.cons_cons _ ?_ | refine List.Sublist.cons _ ?_)); done) | refine Picks.take 0 rfl ?_ | refine Picks.take 1 rfl ?_ | refine Picks.take 2 rfl ?_ | refine Picks.take 3 rfl ?_ | refine Picks.take 4 rfl ?_ | refine Picks.take 5 rfl ?_ | refine Picks.take 6 rfl ?_ | refine Picks.take 7 rfl ?_ | refine Picks.take 8 rfl ?_ | refine Picks.take 9 rfl ?_ | refine Picks.take 10 rfl ?_ | refine Picks.take 11 rfl ?_)))
    rw [e1, e2]
    refine ⟨_, treeP g (some ⟨gr, 0, none⟩) cap gs w (b :: bs.filter fun x => decide (x ≠ b)) L, rfl, W1.pk, w, _, rfl, rfl, maps_upd M hb (fun j hj => part_set hT.sorted hj) hC' hg2 (fun x hx hne => hold x (List.mem_filter.2 ⟨hx, by simpa using hne⟩)) (fun x hx => ?_)⟩
    by_cases e : x = b
    · subst e; exact List.mem_cons_self ..
    · exact List.mem_cons_of_mem _ (List.mem_filter.2 ⟨hx, by simpa using e⟩)
end Go.Proofs.Ytbijdmfilmecbaa
set_option linter.unusedVariables false
set_option linter.unusedSimpArgs false
set_option maxRecDepth 100000
set_option maxHeartbeats 4000000
namespace Go.Fw
def idxW {α : Type} (p : α → Bool) : Nat → List α → Int
  | _, [] => -1
  | k, y :: r => if p y then (k : Int) else idxW p (k + 1) r
theorem idxW_any {α : Type} (p : α → Bool) : ∀ (l : List α) (k : Nat), decide (0 ≤ idxW p k l) = l.any p
  | [], k => rfl
  | y :: r, k => by
    unfold idxW
    by_cases h : p y = true
    · rw [if_pos h, List.any_cons, h, Bool.true_or]
      exact decide_eq_true (by omega)
    · rw [if_neg h, idxW_any p r (k + 1), List.any_cons, Bool.eq_false_iff.2 h, Bool.false_or]
section
variable {α : Type} [DecidableEq α]
end
end Go.Fw
namespace Go.Proofs.Ytbijdmfilmecbaa
open Go.Fw Go.Proofs Go.RowKit Go.Proofs.Try
def ReadsI (w0 : World) (f : FuncId) (cs : List Value) (l : List Int) (p : Int → Bool) : Prop := ∀ w', Wd w0 [] w' → ∀ x ∈ l, Calls Try.prog f ([Value.int .i64 x] ++ cs).toArray w' fun e w'' => e = .returned (.bool (p x)) ∧ Bel w'.heap.size w' w''
theorem x98 (w0 : World) (v : Value) (l : List Int) (f : FuncId) (cs : List Value) (p : Int → Bool) (hf : ∀ args w, (callFunc f args).run Try.prog w = .ok (.enter f args) w) (hr : ReadsI w0 f cs l p) (h : Sl encI 1 w0 w0.heap.size v l) :
    Calls Try.prog 98 #[v, .func (.func f) #[] cs.toArray] w0 fun e w' => e = .returned (.int .i64 (idxW p 0 l)) ∧ Bel w0.heap.size w0 w' := by
  obtain ⟨A, cap, rfl, hl, hcap, hA⟩ := h
  refine enter2 func98 rfl ntmps98 rfl fun a S => sg S (.ac rfl <| .z) fun a w S => wp_seq_k fun _ hK1 => sg S (.mv rfl <| .ln underlying42 rfl <| .mc rfl <| .z) fun a w S => wp_block ?_
  refine st_lpM S [4, 5, 8] (X := Nat) (fun k => [(8, true, .int .i64 (k : Int))]) (fun _ => []) (fun k => k ≤ l.length ∧ idxW p k (l.drop k) = idxW p 0 l) (fun k => l.length - k) 0 ⟨Nat.zero_le _, rfl⟩ ?_
  clear S
  intro k a w ⟨hk, hno⟩ S
  by_cases hlt : k < l.length
  · obtain ⟨gq, oq, x, rfl, hx, hd, hcc⟩ := row_at hA hlt
    rw [hd] at hno
    have hrx := fun w' W' => hr w' W' x (List.mem_of_getElem? hx)
    refine sg S (.lt (by omega) rfl rfl <| .z) fun a w S => wp_seq_k fun _ hK2 => st_then S (.t rfl) (wp_skip (then_normal (hK2 _ _ (wp_seq_k fun _ hK2 => wp_block (sg S (.mv rfl <| .as rfl <| .z) fun a w S => wp_seq_k fun _ hK3 => wp_region_lit (run S (.mv rfl <| .mv rfl <| .mv rfl <| .ix underlying42 sizeOf3 (by omega) rfl rfl <| .yy (ys_ldO ⟨isAgg3, sizeOf3⟩ (.t rfl) (fun _ => hcc 0 _ rfl)) rfl <| .z) fun a w S => st_y S (ys_callVC (cs := cs) (vs := [.int .i64 x]) (v := .bool (p x)) (.t rfl) hf (.cons (.t rfl) .nil) (fun _ w' W' => hrx w' (W'.sub (List.nil_sublist _)))) rfl ?_))))))
    clear S a w
    intro a w S
    cases hp : p x with
    | true =>
      rw [hp] at S
      refine st_nil (then_normal (hK3 _ _ (st_then S (.t rfl) (sg S (.mv rfl <| .as rfl <| .z) fun a w S => wp_ret (in_ret (then_ret (then_ret (in_ret (then_ret (st_ret S (results1 S results98 (Rv.tmp rfl)) ?_))))))))))
      refine ⟨?_, S.wd.below⟩
      rw [← hno, idxW, if_pos hp]
    | false =>
      rw [hp] at S
      refine st_nil (then_normal (hK3 _ _ (st_else S (.t rfl) (wp_skip (in_normal (then_normal (hK2 _ _ (wp_region_lit (run S (.ad (by unfold I64; omega) rfl <| .mv rfl <| .z) fun a w S => st_nil (then_normal ?_))))))))))
      rw [idxW, if_neg (by rw [hp]; decide)] at hno
      exact ⟨k + 1, ⟨by omega, hno⟩, by omega, S.pk⟩
  · obtain rfl : k = l.length := by omega
    rw [List.drop_length] at hno
    refine sg S (.ge (by omega) rfl rfl <| .z) fun a w S => wp_seq_k fun _ hK2 => st_else S (.t rfl) (wp_exit (then_exit (then_exit (in_here (then_normal (hK1 _ _ (sg S (.ac rfl <| .z) fun a w S => wp_ret (st_ret S (results1 S results98 (Rv.tmp rfl)) ?_))))))))
    exact ⟨by rw [← hno]; rfl, S.wd.below⟩
theorem x72 (w0 : World) (v : Value) (l : List Int) (f : FuncId) (cs : List Value) (p : Int → Bool) (hf : ∀ args w, (callFunc f args).run Try.prog w = .ok (.enter f args) w) (hr : ReadsI w0 f cs l p) (h : Sl encI 1 w0 w0.heap.size v l) :
    Calls Try.prog 72 #[v, .func (.func f) #[] cs.toArray] w0 fun e w' => e = .returned (.bool (l.any p)) ∧ Bel w0.heap.size w0 w' := by
  have hs := h
  obtain ⟨A, cap, rfl, hl, hcap, hA⟩ := h
  refine enter2 func72 rfl ntmps72 rfl fun a S => sg S (.ac rfl <| .z) fun a w S => wp_seq_k fun _ hK1 => wp_region_lit (run S (.mv rfl <| .mv rfl <| .z) fun a w S => st_y S (ys_call call98 (.cons (.t rfl) (.cons (.t rfl) .nil)) (fun _ w' W' => x98 w' _ l f cs p hf (fun w'' W'' => hr w'' ((W'.sub (List.nil_sublist _)).step W''.below)) (Sl.old W' hs))) rfl ?_)
  clear S a w
  intro a w S
  refine run S (.yy (ys_geq (.t rfl) Ev.c) rfl <| .as rfl <| .z) fun a w S => st_nil (then_normal (hK1 _ _ (wp_ret (st_ret S (results1 S results72 (Rv.tmp rfl)) ?_))))
  exact ⟨by rw [← idxW_any p l 0], S.wd.below⟩
end Go.Proofs.Ytbijdmfilmecbaa
set_option linter.unusedVariables false
set_option linter.unusedSimpArgs false
set_option maxRecDepth 100000
set_option maxHeartbeats 4000000
namespace Go.Fw
open Go.RowKit
def inP (level p : Int) : Bool := decide (0 ≤ p ∧ p < 2 ^ level.toNat)
theorem inP_not (level p : Int) : (decide (p < 0) || decide (2 ^ level.toNat ≤ p)) = !inP level p := by
  unfold inP
  generalize (2 : Int) ^ level.toNat = b
  by_cases h1 : p < 0
  · simp [h1]
    try omega
  · by_cases h2 : b ≤ p
    · simp [h2]
    · simp [h1, h2]
      try omega
theorem okP_eq (level deep : Int) (l : List Int) : okP level deep l = (decide (0 ≤ level) && decide (level ≤ deep) && l.all (inP level)) := rfl
theorem any_not {α : Type} (p : α → Bool) : ∀ l : List α, (!(l.any fun x => !p x)) = l.all p
  | [] => rfl
  | x :: r => by rw [List.any_cons, List.all_cons, Bool.not_or, Bool.not_not, any_not p r]
theorem pow_shl {m : Nat} (h : m ≤ 4) : IntKind.i64.wrap (1 * 2 ^ m) = 2 ^ m := by
  obtain rfl | rfl | rfl | rfl | rfl : m = 0 ∨ m = 1 ∨ m = 2 ∨ m = 3 ∨ m = 4 := by omega
  all_goals rfl
structure Sums (l : List Sm) : Prop where
  hash : hashOk l
  key : ∀ x ∈ l, x.key.length ≤ 1048576
  len : l.length ≤ 1048576
theorem Sums.ok {l : List Sm} (h : Sums l) : KhOk (setsT [] l) := sets_ok _ h.hash kh_nil
theorem Sums.room {l : List Sm} (h : Sums l) : (setsT [] l).length ≤ 1048576 := by
  have h1 := sets_len l []
  have h2 := h.len
  rw [List.length_nil] at h1
  omega
end Go.Fw
namespace Go.Proofs.Ytbijdmfilmecbaa
open Go.Fw Go.Proofs Go.RowKit Go.Proofs.Try
theorem c73 (w0 : World) (p lv : Int) (b : Nat) (h : w0.cell? ⟨b, 0, none⟩ = some (.int .i64 lv)) (hlv : 0 ≤ lv ∧ lv ≤ 4) :
    Calls Try.prog 73 #[.int .i64 p, .pointer (some ⟨b, 0, none⟩)] w0 fun e w' => e = .returned (.bool (!inP lv p)) ∧ Bel w0.heap.size w0 w' := by
  obtain ⟨m, rfl⟩ : ∃ m : Nat, lv = (m : Int) := ⟨lv.toNat, by omega⟩
  have e := inP_not m p
  rw [Int.toNat_natCast] at e
  have hm : m ≤ 4 := by omega
  have rw_s := pow_shl hm
  by_cases hp : p < 0
  · have rw_p := decide_eq_true hp
    refine enter2 func73 rfl ntmps73 rfl fun a S => sg S (.ac rfl <| .z) fun a w S => sg S (.mv rfl <| .yy (ys_T (by omega) (ys_lss (.t rfl) Ev.c)) rfl <| .mv rfl <| .sk rfl rfl rfl <| .sk rfl rfl rfl <| .sk rfl rfl rfl <| .sk rfl rfl rfl <| .yy (ys_pickT (.t rfl) Ev.c) rfl <| .as rfl <| .z) fun a w S => wp_ret (st_ret S (results1 S results73 (Rv.tmp rfl)) ?_)
    exact ⟨by rw [← e, rw_p]; rfl, S.wd.below⟩
  · have rw_p := decide_eq_false hp
    refine enter2 func73 rfl ntmps73 rfl fun a S => sg S (.ac rfl <| .z) fun a w S => wp_seq_k fun _ hK1 => wp_region_lit (run S (.mv rfl <| .yy (ys_F (by omega) (ys_lss (.t rfl) Ev.c)) rfl <| .mv rfl <| .gy rfl rfl (ys_move (.t rfl)) <| .gy rfl rfl (ys_ldO ⟨isAgg3, sizeOf3⟩ (.t rfl) (fun _ => h)) <| .gy rfl rfl (ys_shl Ev.c (.t rfl) (Nat.ble_eq_true_of_le (by show _ ≤ 64; omega))) <| .z) fun a w S => ?_)
    rw [rw_s] at S
    refine run S (.gy rfl rfl (ys_geq (.t rfl) (.t rfl)) <| .yy (ys_pickF (.t rfl) (.t rfl)) rfl <| .as rfl <| .z) fun a w S => st_nil (then_normal (hK1 _ _ (wp_ret (st_ret S (results1 S results73 (Rv.tmp rfl)) ?_))))
    exact ⟨by rw [← e, rw_p]; rfl, S.wd.below⟩
theorem c53 (w0 : World) (level : Int) (v1 : Value) (l : List Int) (h : Sl encI 1 w0 w0.heap.size v1 l) :
    Calls Try.prog 53 #[.int .i64 level, v1] w0 fun e w' => e = .returned (.bool (okP level 4 l)) ∧ Bel w0.heap.size w0 w' := by
  rw [okP_eq]
  by_cases h1 : 0 ≤ level
  · have rw_1 := decide_eq_true h1
    by_cases h2 : level ≤ 4
    · have rw_2 := decide_eq_true h2
      have hs := h
      obtain ⟨A, cap, rfl, hl, hcap, hA⟩ := h
      refine enter2 func53 rfl ntmps53 rfl fun a S => wp_seq_k fun _ hK1 => wp_region_lit (st_m (op_box1 S (.t rfl) rfl rfl fun g1 a w S => run S (.ac rfl <| .z) fun a w S => st_nil (then_normal (hK1 _ _ (wp_seq_k fun _ hK1 => wp_region_lit (run S (.ld gt3 0 rfl rfl rfl <| .yy (ys_T (by omega) (ys_geq (.t rfl) Ev.c)) rfl <| .mv rfl <| .gy rfl rfl (ys_ld ⟨isAgg3, sizeOf3⟩ (.t rfl) (k := 0) rfl rfl) <| .gy rfl rfl (ys_T (by omega) (ys_leq (.t rfl) Ev.c)) <| .yy (ys_pickT (.t rfl) (.t rfl)) rfl <| .mv rfl <| .gy rfl rfl (ys_move (.t rfl)) <| .gy rfl rfl (ys_mkFunc (.cons (.t rfl) .nil)) <| .z) fun a w S => st_yt S rfl rfl (ys_call call72 (.cons (.t rfl) (.cons (.t rfl) .nil)) (fun _ w' W' => x72 w' _ l 73 [.pointer (some ⟨g1, 0, none⟩)] (fun x => !inP level x) (enters_of func73 (by kernel_rfl) rfl) (fun w'' W'' x hx => c73 w'' x level g1 (Wd.cellOld W'' (Wd.cell W' (k := 0) rfl rfl)) ⟨h1, h2⟩) (Sl.old W' hs))) rfl ?_))))))
      clear S a w
      intro a w S
      refine run S (.gy rfl rfl (ys_not (.t rfl)) <| .yy (ys_pickT (.t rfl) (.t rfl)) rfl <| .as rfl <| .z) fun a w S => st_nil (then_normal (hK1 _ _ (wp_ret (st_ret S (results1 S results53 (Rv.tmp rfl)) ?_))))
      exact ⟨by rw [any_not, rw_1, rw_2]; rfl, S.wd.below⟩
    · have rw_2 := decide_eq_false h2
      refine enter2 func53 rfl ntmps53 rfl fun a S => wp_seq_k fun _ hK1 => wp_region_lit (st_m (op_box1 S (.t rfl) rfl rfl fun g1 a w S => run S (.ac rfl <| .z) fun a w S => st_nil (then_normal (hK1 _ _ (sg S (.ld gt3 0 rfl rfl rfl <| .yy (ys_T (by omega) (ys_geq (.t rfl) Ev.c)) rfl <| .mv rfl <| .gy rfl rfl (ys_ld ⟨isAgg3, sizeOf3⟩ (.t rfl) (k := 0) rfl rfl) <| .gy rfl rfl (ys_F (by omega) (ys_leq (.t rfl) Ev.c)) <| .yy (ys_pickT (.t rfl) (.t rfl)) rfl <| .mv rfl <| .sk rfl rfl rfl <| .sk rfl rfl rfl <| .sk rfl rfl rfl <| .sk rfl rfl rfl <| .yy (ys_pickF (.t rfl) Ev.c) rfl <| .as rfl <| .z) fun a w S => wp_ret (st_ret S (results1 S results53 (Rv.tmp rfl)) ?_))))))
      exact ⟨by rw [rw_1, rw_2]; rfl, S.wd.below⟩
  · have rw_1 := decide_eq_false h1
    refine enter2 func53 rfl ntmps53 rfl fun a S => wp_seq_k fun _ hK1 => wp_region_lit (st_m (op_box1 S (.t rfl) rfl rfl fun g1 a w S => run S (.ac rfl <| .z) fun a w S => st_nil (then_normal (hK1 _ _ (sg S (.ld gt3 0 rfl rfl rfl <| .yy (ys_F (by omega) (ys_geq (.t rfl) Ev.c)) rfl <| .mv rfl <| .sk rfl rfl rfl <| .sk rfl rfl rfl <| .yy (ys_pickF (.t rfl) Ev.c) rfl <| .mv rfl <| .sk rfl rfl rfl <| .sk rfl rfl rfl <| .sk rfl rfl rfl <| .sk rfl rfl rfl <| .yy (ys_pickF (.t rfl) Ev.c) rfl <| .as rfl <| .z) fun a w S => wp_ret (st_ret S (results1 S results53 (Rv.tmp rfl)) ?_))))))
    exact ⟨by rw [rw_1]; rfl, S.wd.below⟩
end Go.Proofs.Ytbijdmfilmecbaa
set_option linter.unusedVariables false
set_option linter.unusedSimpArgs false
set_option maxRecDepth 100000
set_option maxHeartbeats 4000000
namespace Go.Fw
open Go.RowKit
def keysA (T : List KH) (l : List Int) : List Sm × Int := if okP 4 4 l = true then (keysT T l, 0) else ([], 80)
theorem okP_mem {level deep x : Int} {l : List Int} (h : okP level deep l = true) (hx : x ∈ l) : 0 ≤ x ∧ x < 2 ^ level.toNat := by
  unfold okP at h
  simp only [Bool.and_eq_true, List.all_eq_true] at h
  exact of_decide_eq_true (h.2 x hx)
theorem keys_step {T : List KH} {l : List Int} {q : Nat} {x : Int} (h : l[q]? = some x) : keysT T (l.take (q + 1)) = keysT T (l.take q) ++ (partT T x.toNat).map (smP x) := by
  unfold keysT
  rw [List.take_add_one, h, Option.toList_some, List.flatMap_append]
  simp
end Go.Fw
namespace Go.Proofs.Ytbijdmfilmecbaa
open Go.Fw Go.Proofs Go.RowKit Go.Proofs.Try
end Go.Proofs.Ytbijdmfilmecbaa
set_option linter.unusedVariables false
set_option linter.unusedSimpArgs false
set_option maxRecDepth 100000
set_option maxHeartbeats 4000000
namespace Go.Fw
open Go.RowKit
theorem keys_len (T : List KH) : ∀ l : List Int, (keysT T l).length ≤ l.length * T.length
  | [] => by simp [keysT]
  | x :: r => by
    have ih := keys_len T r
    have h1 := partT_len T x.toNat
    unfold keysT at ih ⊢
    rw [List.flatMap_cons, List.length_append, List.length_map, List.length_cons, Nat.succ_mul]
    omega
end Go.Fw
namespace Go.Proofs.Ytbijdmfilmecbaa
open Go.Fw Go.Proofs Go.RowKit Go.Proofs.Try
end Go.Proofs.Ytbijdmfilmecbaa
set_option linter.unusedVariables false
set_option linter.unusedSimpArgs false
set_option maxRecDepth 100000
set_option maxHeartbeats 4000000
namespace Go.Fw
open Go.RowKit
theorem keys_room (T : List KH) (l : List Int) (hT : T.length ≤ 1048576) (hl : l.length ≤ 1048576) : (keysT T l).length ≤ 1099511627776 :=
  Nat.le_trans (keys_len T l) (Nat.mul_le_mul hl hT)
end Go.Fw
namespace Go.Proofs.Ytbijdmfilmecbaa
open Go.Fw Go.Proofs Go.RowKit Go.Proofs.Try
theorem c33 (w0 : World) (g cap : Nat) (A : Option Addr) (gs : List Nat) (T : List KH) (h : TreeAt w0 g A cap gs T) (hT : KhOk T) (hl : T.length ≤ 4194304) :
    Calls Try.prog 33 #[.pointer (some ⟨g, 0, none⟩)] w0 fun e w' => e = .returned (.int .u64 (hashT T 4 0)) ∧ Bel w0.heap.size w0 w' := by
  have hkeys := h.keys
  have h1 : (0 : Int) ≤ 0 ∧ (0 : Int) ≤ 4 := by omega
  have h2 : (0 : Int) ≤ 0 ∧ (0 : Int) < 2 ^ (0 : Int).toNat := ⟨by omega, by decide⟩
  have rw_h : hashT T (4 - (0 : Int)).toNat (0 : Int).toNat = hashT T 4 0 := rfl
  refine enter1 func33 rfl ntmps33 rfl fun a S => sg S (.ac rfl <| .z) fun a w S => wp_seq_k fun _ hK1 => sg S (.mv rfl <| .xx (ys_call call45 (.cons (.t rfl) .nil) (fun hp w W => c45 _ _ _ _ _ (by exact Wd.cellOld W (by assumption)))) rfl <| .nt rfl <| .z) fun a w S => st_else S (.t rfl) (wp_skip (then_normal (hK1 _ _ (wp_seq_k fun _ hK1 => wp_region_lit (run S (.mv rfl <| .xx (ys_call call54 (.cons (.t rfl) (.cons Ev.c (.cons Ev.c .nil))) (fun hp w W => c54 _ _ _ _ _ _ _ _ (by exact .old W (by assumption)) (by assumption) (by assumption) (by assumption) (by assumption))) rfl <| .z) fun a w S => ?_)))))
  rw [rw_h] at S
  refine run S (.as rfl <| .z) fun a w S => st_nil (then_normal (hK1 _ _ (wp_ret (st_ret S (results1 S results33 (Rv.tmp rfl)) ?_))))
  exact ⟨rfl, S.wd.below⟩
theorem c25 (w0 : World) (g cap : Nat) (A : Option Addr) (gs : List Nat) (T : List KH) (v2 : Value) (l : List Int) (h : TreeAt w0 g A cap gs T) (hT : KhOk T) (hl : T.length ≤ 1048576) (h2 : Sl encI 1 w0 w0.heap.size v2 l) (hn : l.length ≤ 1048576) :
    Rets Try.prog 25 #[.pointer (some ⟨g, 0, none⟩), v2] w0 fun u L => ∃ B c, u = .tuple #[.slice B (keysA T l).1.length c, .int .i64 (keysA T l).2] ∧ L = [rowOf 28 3 Sm.enc B c (keysA T l).1] := by
  have hkeys := h.keys
  have hgl := h.len
  cases hok : okP 4 4 l with
  | false =>
    have rw_4 := hok
    have e : keysA T l = ([], 80) := by unfold keysA; rw [hok]; rfl
    rw [e]
    unfold Go.Fw.Rets
    refine enter2 func25 rfl ntmps25 rfl fun a S => sg S (.ac rfl <| .ac rfl <| .z) fun a w S => wp_seq_k fun _ hK1 => sg S (.mv rfl <| .xx (ys_call call45 (.cons (.t rfl) .nil) (fun hp w W => c45 _ _ _ _ _ (by exact Wd.cellOld W (by assumption)))) rfl <| .nt rfl <| .z) fun a w S => st_else S (.t rfl) (wp_skip (then_normal (hK1 _ _ (wp_seq_k fun _ hK1 => wp_seq_k fun _ hK2 => wp_region_lit (run S (.mv rfl <| .xx (ys_call call53 (.cons Ev.c (.cons (.t rfl) .nil)) (fun hp w W => c53 _ _ _ _ (by exact .old W (by assumption)))) rfl <| .z) fun a w S => ?_)))))
    rw [rw_4] at S
    refine run S (.nt rfl <| .z) fun a w S => st_nil (then_normal (hK2 _ _ (st_then S (.t rfl) (sg S (.ac rfl <| .ac rfl <| .z) fun a w S => wp_ret (then_ret (st_ret S (results2 S results25 (Rv.tmp rfl) (Rv.tmp rfl)) ?_))))))
    exact ⟨_, _, rfl, (S.nil_ 28 3 Sm.enc none).wd.pk, none, 0, rfl, rfl⟩
  | true =>
    have rw_4 := hok
    have e : keysA T l = (keysT T l, 0) := by unfold keysA; rw [if_pos hok]
    rw [e]
    have hmem := fun x hx => okP_mem (x := x) hok hx
    have h0 := h2
    obtain ⟨A', cap', rfl, hl', hcap', hA⟩ := h2
    unfold Go.Fw.Rets
    refine enter2 func25 rfl ntmps25 rfl fun a S => sg S (.ac rfl <| .ac rfl <| .z) fun a w S => wp_seq_k fun _ hK1 => sg S (.mv rfl <| .xx (ys_call call45 (.cons (.t rfl) .nil) (fun hp w W => c45 _ _ _ _ _ (by exact Wd.cellOld W (by assumption)))) rfl <| .nt rfl <| .z) fun a w S => st_else S (.t rfl) (wp_skip (then_normal (hK1 _ _ (wp_seq_k fun _ hK1 => wp_seq_k fun _ hK2 => wp_region_lit (run S (.mv rfl <| .xx (ys_call call53 (.cons Ev.c (.cons (.t rfl) .nil)) (fun hp w W => c53 _ _ _ _ (by exact .old W (by assumption)))) rfl <| .z) fun a w S => ?_)))))
    rw [rw_4] at S
    refine run S (.nt rfl <| .z) fun a w S => st_nil (then_normal (hK2 _ _ (st_else S (.t rfl) (wp_skip (then_normal (hK1 _ _ (sg S (.ac rfl <| .z) fun a w S => wp_seq_k fun _ hK1 => sg S (.mv rfl <| .ln underlying42 rfl <| .mc rfl <| .z) fun a w S => wp_block ?_)))))))
    replace S := S.nil_ 28 3 Sm.enc none
    refine st_lpM S [6, 19] (X := Nat × Option Addr × Nat) (fun q => [(6, true, .slice q.2.1 (keysT T (l.take q.1)).length q.2.2), (19, true, .int .i64 (q.1 : Int))]) (fun q => [rowOf 28 3 Sm.enc q.2.1 q.2.2 (keysT T (l.take q.1))]) (fun q => q.1 ≤ l.length) (fun q => l.length - q.1) (0, none, 0) (Nat.zero_le _) ?_
    clear S
    rintro ⟨q, B, cB⟩ a w hq S
    dsimp only at hq S
    have hbt := keys_room T (l.take q) hl (by rw [List.length_take]; omega)
    by_cases hlt : q < l.length
    · obtain ⟨g3, o3, x, rfl, hx, hd, hc⟩ := row_at hA hlt
      have hxb := hmem x (List.mem_of_getElem? hx)
      obtain ⟨i, rfl⟩ : ∃ i : Nat, x = (i : Int) := ⟨x.toNat, by omega⟩
      have hi : i < 16 := by have h5 := hxb.2; have h6 : (2 : Int) ^ (4 : Int).toNat = 16 := by decide
                             rw [h6] at h5; omega
      have hst := keys_step (T := T) hx
      rw [Int.toNat_natCast] at hst
      generalize keysT T (l.take q) = M at *
      obtain ⟨A2, cap2, e2, hl2, hcap2, hA2⟩ := h.row
      cases e2
      obtain ⟨gr, o_, b, rfl, hb, hd2, hcx⟩ := row_at hA2 (show i < gs.length by omega)
      obtain ⟨o, ho, hC⟩ := h.maps i b hb
      have hpl := partT_len T i
      refine sg S (.lt (by omega) rfl rfl <| .z) fun a w S => wp_seq_k fun _ hK2 => st_then S (.t rfl) (wp_skip (then_normal (hK2 _ _ (wp_seq_k fun _ hK2 => wp_block (sg S (.ix underlying42 sizeOf3 (by omega) rfl rfl <| .yy (ys_ldO ⟨isAgg3, sizeOf3⟩ (.t rfl) (fun _ => hc 0 _ rfl)) rfl <| .as rfl <| .z) fun a w S => wp_seq_k fun _ hK3 => wp_region_lit (run S (.mv rfl <| .yy (ys_nilc (.t rfl)) rfl <| .fa underlying59 sizeOf57 0 rfl rfl rfl <| .mv rfl <| .z) fun a w S => ?_))))))
      (refine st_m (op_calls S call57 (.cons (.t rfl) (.cons (.t rfl) .nil)) (c57 _ _ _ _ _ _ _ (by exact .old S.wd (by assumption)) (by assumption) (by assumption) (by omega)) rfl ?_); clear S a w; rintro _ _ ⟨B1, c1, rfl, rfl⟩ a w S)
      refine run S (.ln underlying61 rfl <| .mc rfl <| .z) fun a w S => st_nil (then_normal (hK3 _ _ (wp_block ?_)))
      rw [show M = M ++ ((partT T i).take 0).map (smP i) by simp] at S
      refine st_lpM S [6, 29] (X := Nat × Option Addr × Nat) (fun j => [(6, true, .slice j.2.1 (M ++ ((partT T i).take j.1).map (smP i)).length j.2.2), (29, true, .int .i64 (j.1 : Int))]) (fun j => [rowOf 28 3 Sm.enc j.2.1 j.2.2 (M ++ ((partT T i).take j.1).map (smP i)), rowOf 9 1 encS' B1 c1 ((partT T i).map (·.1))]) (fun j => j.1 ≤ (partT T i).length) (fun j => (partT T i).length - j.1) (0, B, cB) (Nat.zero_le _) ?_
      clear S
      rintro ⟨j, B2, cB2⟩ a w hj S
      dsimp only at hj S
      have hml : ((partT T i).map (·.1)).length = (partT T i).length := List.length_map ..
      have hjl : (M ++ ((partT T i).take j).map (smP i)).length = M.length + min j (partT T i).length := by rw [List.length_append, List.length_map, List.length_take]
      by_cases hjt : j < (partT T i).length
      · obtain ⟨y, hy⟩ : ∃ y, (partT T i)[j]? = some y := ⟨_, List.getElem?_eq_getElem hjt⟩
        obtain ⟨ga, rfl⟩ := S.wd.row_at (k := 1) rfl (by have := (S.wd.room (k := 1) rfl).1; omega)
        have hy1 : ((partT T i).map (·.1))[j]? = some y.1 := by rw [List.getElem?_map, hy]; rfl
        have hmx : (y.1, y.2) ∈ partT T i := List.mem_of_getElem? hy
        have hyl := name_len (hT.name y (partT_mem.1 hmx).1)
        have hst2 : M ++ ((partT T i).take (j + 1)).map (smP i) = (M ++ ((partT T i).take j).map (smP i)) ++ [⟨i, y.1, y.2⟩] := by rw [List.take_add_one, hy, Option.toList_some, List.map_append, List.append_assoc]; rfl
        generalize M ++ ((partT T i).take j).map (smP i) = M2 at *
        refine sg S (.lt (by omega) rfl rfl <| .z) fun a w S => wp_seq_k fun _ hK3 => st_then S (.t rfl) (wp_skip (then_normal (hK3 _ _ (wp_seq_k fun _ hK3 => wp_block (sg S (.ix underlying61 sizeOf9 (by omega) rfl rfl <| .yy (ys_ldW0 ⟨isAgg9, sizeOf9⟩ (.t rfl) (k := 1) rfl hy1 (fun _ => rfl) rfl) rfl <| .as rfl <| .z) fun a w S => wp_region_lit (run S (.mv rfl <| .mv rfl <| .mv rfl <| .mv rfl <| .yy (ys_nilc (.t rfl)) rfl <| .fa underlying59 sizeOf57 0 rfl rfl rfl <| .fa underlying57 sizeOf55 0 rfl rfl rfl <| .yy (ys_ldO ⟨isAgg55, sizeOf55⟩ (.t rfl) (fun _ => hkeys)) rfl <| .mv rfl <| .ix underlying55 sizeOf80 (by omega) rfl rfl <| .yy (ys_ldO ⟨isAgg80, sizeOf80⟩ (.t rfl) (fun _ => hcx 0 _ rfl)) rfl <| .mv rfl <| .yy (ys_lookSO smT80 (.t rfl) (.t rfl) (by assumption) (by assumption) (by assumption)) rfl <| .yy (ys_bld (ps := [(0, Go.Operand.tmp 34), (1, Go.Operand.tmp 35), (2, Go.Operand.tmp 45)]) (us := [_, _, _]) bld28 (.cons (.t rfl) (.cons (.t rfl) (.cons (.t rfl) .nil))) rfl) rfl <| .z) fun a w S => st_m (op_bslice1 S underlying22 inf28 rfl rfl rfl (.t rfl) rfl rfl rfl fun g1 a w S => ?_)))))))
        refine st_m (op_push S underlying22 inf28 rfl (k := 1) (j := 0) rfl (.t rfl) (.t rfl) rfl Go.Fw.Sm.mkEnc rfl rfl (by first | omega | (simp only [List.length_append, List.length_cons, List.length_nil]; omega)) rfl rfl rfl fun A1 cap1 a w S => run S (.as rfl <| .z) fun a w S => st_nil (in_normal (then_normal (hK3 _ _ (wp_region_lit (run S (.ad (by unfold I64; omega) rfl <| .mv rfl <| .z) fun a w S => st_nil (then_normal ?_)))))))
        exact ⟨(j + 1, A1, cap1), by dsimp only; omega, by dsimp only; omega, by dsimp only; rw [hst2]; exact S.pk⟩
      obtain rfl : j = (partT T i).length := by omega
      rw [List.take_length, ← hst] at S
      refine sg S (.ge (by omega) rfl rfl <| .z) fun a w S => wp_seq_k fun _ hK3 => st_else S (.t rfl) (wp_exit (then_exit (then_exit (in_here (in_normal (then_normal (hK2 _ _ (wp_region_lit (run S (.ad (by unfold I64; omega) rfl <| .mv rfl <| .z) fun a w S => st_nil (then_normal ?_))))))))))
      exact ⟨(q + 1, B2, cB2), by dsimp only; omega, by dsimp only; omega, S.pk⟩
    obtain rfl : q = l.length := by omega
    rw [List.take_length] at S
    refine sg S (.ge (by omega) rfl rfl <| .z) fun a w S => wp_seq_k fun _ hK2 => st_else S (.t rfl) (wp_exit (then_exit (then_exit (in_here (then_normal (hK1 _ _ (sg S (.mv rfl <| .as rfl <| .ac rfl <| .z) fun a w S => wp_ret (st_ret S (results2 S results25 (Rv.tmp rfl) (Rv.tmp rfl)) ?_))))))))
    exact ⟨_, _, rfl, S.wd.pk, _, _, rfl, rfl⟩
end Go.Proofs.Ytbijdmfilmecbaa
set_option linter.unusedVariables false
set_option linter.unusedSimpArgs false
set_option maxRecDepth 100000
set_option maxHeartbeats 4000000
namespace Go.Fw
open Go.RowKit
def upTo (n : Nat) : List Int := (List.range n).map (fun i : Nat => (i : Int))
theorem upTo_len (n : Nat) : (upTo n).length = n := by unfold upTo; rw [List.length_map, List.length_range]
theorem upTo_succ (n : Nat) : upTo (n + 1) = upTo n ++ [(n : Int)] := by unfold upTo; rw [List.range_succ, List.map_append]; rfl
theorem aw_set : setE [97] = 0 := by decide +kernel
theorem aw_kept : setK [97] 5 [] = [([97], 5)] := by decide +kernel
theorem aw_root : hashT (setK [97] 5 []) 4 0 ≠ 0 := by rw [aw_kept]; decide +kernel
theorem aw_keys : keysA (setK [97] 5 []) (upTo 16) = ([⟨placeK [97], [97], 5⟩], 0) := by rw [aw_kept]; decide +kernel
theorem aw_ok : KhOk (setK [97] 5 []) := setK_ok kh_nil (by omega)
theorem aw_len : (setK [97] 5 []).length ≤ 1048576 := by rw [aw_kept]; simp
end Go.Fw
namespace Go.Proofs.Ytbijdmfilmecbaa
open Go.Fw Go.Proofs Go.RowKit Go.Proofs.Try
theorem c36 (w0 : World) : Rets Try.prog 36 #[] w0 fun u L => ∃ B c, u = .slice B (upTo 16).length c ∧ L = [rowOf 3 1 encI B c (upTo 16)] := by
  unfold Go.Fw.Rets
  refine enter0 func36 rfl ntmps36 rfl fun a S => sg S (.ac rfl <| .z) fun a w S => sg S (.ac rfl <| .z) fun a w S => wp_seq_k fun _ hK1 => sg S (.mc rfl <| .z) fun a w S => wp_block ?_
  replace S := S.nil_ 3 1 encI none
  refine st_lpM S [1, 3] (X := Nat × Option Addr × Nat) (fun q => [(1, true, .slice q.2.1 (upTo q.1).length q.2.2), (3, true, .int .i64 (q.1 : Int))]) (fun q => [rowOf 3 1 encI q.2.1 q.2.2 (upTo q.1)]) (fun q => q.1 ≤ 16) (fun q => 16 - q.1) (0, none, 0) (by simp) ?_
  clear S
  rintro ⟨q, B, cB⟩ a w hq S
  dsimp only at hq S
  have hul := upTo_len q
  by_cases hlt : q < 16
  · have hst := upTo_succ q
    generalize upTo q = M at *
    refine sg S (.yy (ys_T (by omega) (ys_lss (.t rfl) Ev.c)) rfl <| .z) fun a w S => wp_seq_k fun _ hK2 => st_then S (.t rfl) (wp_skip (then_normal (hK2 _ _ (wp_seq_k fun _ hK2 => wp_block (sg S (.mv rfl <| .as rfl <| .z) fun a w S => wp_region_lit (run S (.mv rfl <| .mv rfl <| .z) fun a w S => st_m (op_bslice1 S underlying42 inf3 rfl rfl rfl (.t rfl) rfl rfl rfl fun g1 a w S => st_m (op_push S underlying42 inf3 rfl (k := 1) (j := 0) rfl (.t rfl) (.t rfl) rfl rfl rfl rfl (by first | omega | (simp only [List.length_append, List.length_cons, List.length_nil]; omega)) rfl rfl rfl fun A1 cap1 a w S => run S (.as rfl <| .z) fun a w S => st_nil (in_normal (then_normal (hK2 _ _ (wp_region_lit (run S (.ad (by unfold I64; omega) rfl <| .mv rfl <| .z) fun a w S => st_nil (then_normal ?_))))))))))))))
    exact ⟨(q + 1, A1, cap1), by dsimp only; omega, by dsimp only; omega, by dsimp only; rw [hst]; exact S.pk⟩
  obtain rfl : q = 16 := by omega
  refine sg S (.yy (ys_F (by omega) (ys_lss (.t rfl) Ev.c)) rfl <| .z) fun a w S => wp_seq_k fun _ hK2 => st_else S (.t rfl) (wp_exit (then_exit (then_exit (in_here (then_normal (hK1 _ _ (sg S (.mv rfl <| .as rfl <| .z) fun a w S => wp_ret (st_ret S (results1 S results36 (Rv.tmp rfl)) ?_))))))))
  exact ⟨_, _, rfl, S.wd.pk, _, _, rfl, rfl⟩
theorem c14 (w0 : World) : Calls Try.prog 14 #[] w0 fun e w' => e = .returned (.bool true) ∧ Bel w0.heap.size w0 w' := by
  have h0 := kh_nil
  have h1 := aw_ok
  have rw_1 := aw_set
  have h2 := aw_len
  have h3 := aw_root
  have rw_k1 : (keysA (setK [97] 5 []) (upTo 16)).1 = [⟨placeK [97], [97], 5⟩] := by rw [aw_keys]
  have rw_k2 : (keysA (setK [97] 5 []) (upTo 16)).2 = 0 := by rw [aw_keys]
  have rw_l : [(⟨placeK [97], [97], 5⟩ : Sm)].length = 1 := rfl
  have rw_d : decide (((1 : Nat) : Int) = 1) = true := rfl
  have hul := upTo_len 16
  obtain ⟨y, rw_y⟩ : ∃ y, hashT (setK [97] 5 []) 4 0 = y := ⟨_, rfl⟩
  rw [rw_y] at h3
  have rw_z := decide_eq_false h3
  refine enter0 func14 rfl ntmps14 rfl fun a S => sg S (.ac rfl <| .z) fun a w S => wp_seq_k fun _ hK1 => wp_region_lit ?_
  (refine st_m (op_calls S call44 .nil (c44 _) rfl ?_); clear S a w; rintro _ _ ⟨g1, A1, cap1, gs1, w11, bs1, rfl, rfl, hr11⟩ a w S)
  refine run S (.as rfl <| .z) fun a w S => st_nil (then_normal (hK1 _ _ (wp_seq_k fun _ hK1 => wp_seq_k fun _ hK2 => wp_region_lit (run S (.mv rfl <| .z) fun a w S => ?_))))
  (refine st_m (op_callO S call11 (.cons (.t rfl) (.cons Ev.c (.cons Ev.c .nil))) (c11 S.wd (by first | assumption | omega | (dsimp only; omega) | exact Sl.nil_ | exact .old S.wd (by assumption) | exact Sl.of_own S.wd (k := 0) rfl (fun _ => rfl) | exact Sl.of_own S.wd (k := 1) rfl (fun _ => rfl) | exact Sl.of_own S.wd (k := 2) rfl (fun _ => rfl) | (simp; done) | (simp at *; omega)) (by first | assumption | omega | (dsimp only; omega) | exact Sl.nil_ | exact .old S.wd (by assumption) | exact Sl.of_own S.wd (k := 0) rfl (fun _ => rfl) | exact Sl.of_own S.wd (k := 1) rfl (fun _ => rfl) | exact Sl.of_own S.wd (k := 2) rfl (fun _ => rfl) | (simp; done) | (simp at *; omega)) (by first | assumption | omega | (dsimp only; omega) | exact Sl.nil_ | exact .old S.wd (by assumption) | exact Sl.of_own S.wd (k := 0) rfl (fun _ => rfl) | exact Sl.of_own S.wd (k := 1) rfl (fun _ => rfl) | exact Sl.of_own S.wd (k := 2) rfl (fun _ => rfl) | (simp; done) | (simp at *; omega))) rfl ?_) <;> clear S a w)
  rintro _ _ ⟨w21, bs21, rfl, rfl, hr1⟩ a w S
  rw [rw_1] at S
  refine run S (.yy (ys_F (by omega) (ys_neq (.t rfl) Ev.c)) rfl <| .mv rfl <| .gy rfl rfl (ys_move (.t rfl)) <| .gx rfl rfl (ys_call call33 (.cons (.t rfl) .nil) (fun hp w W => c33 _ _ _ _ _ _ (by exact sl_m1 W (k := 0) rfl) (by assumption) (by omega))) <| .z) fun a w S => ?_
  rw [rw_y] at S
  refine run S (.gy rfl rfl (ys_F (by omega) (ys_eql (.t rfl) Ev.c)) <| .yy (ys_pickF (.t rfl) (.t rfl)) rfl <| .z) fun a w S => st_nil (then_normal (hK2 _ _ (st_else S (.t rfl) (wp_skip (then_normal (hK1 _ _ (wp_seq_k fun _ hK1 => wp_region_lit (run S (.mv rfl <| .z) fun a w S => ?_))))))))
  (refine st_m (op_calls S call36 .nil (c36 _) rfl ?_); clear S a w; rintro _ _ ⟨B1, c1, rfl, rfl⟩ a w S)
  (refine st_m (op_calls S call25 (.cons (.t rfl) (.cons (.t rfl) .nil)) (c25 _ _ _ _ _ _ _ _ (by exact sl_m1 S.wd (k := 1) rfl) (by assumption) (by assumption) (by exact Sl.of_own S.wd (k := 0) rfl (fun _ => rfl)) (by omega)) rfl ?_); clear S a w; rintro _ _ ⟨B2, c2, rfl, rfl⟩ a w S)
  rw [rw_k1] at S
  rw [rw_k2] at S
  rw [rw_l] at S
  refine run S (.mv rfl <| .ex rfl rfl <| .ex rfl rfl <| .as rfl <| .as rfl <| .z) fun a w S => st_nil (then_normal (hK1 _ _ (wp_seq_k fun _ hK1 => wp_region_lit (run S (.mv rfl <| .yy (ys_T (by omega) (ys_eql (.t rfl) Ev.c)) rfl <| .mv rfl <| .gy rfl rfl (ys_move (.t rfl)) <| .gy rfl rfl (ys_lenS underlying22 (.t rfl)) <| .gy rfl rfl (ys_T (by omega) (ys_eql (.t rfl) Ev.c)) <| .yy (ys_pickT (.t rfl) (.t rfl)) rfl <| .mv rfl <| .gy rfl rfl (ys_move (.t rfl)) <| .z) fun a w S => ?_))))
  obtain ⟨ga, rfl⟩ := S.wd.row_at (k := 0) rfl (by have := (S.wd.room (k := 0) rfl).1; rw [rw_l] at this; omega)
  have hx : [(⟨placeK [97], [97], 5⟩ : Sm)][0]? = some ⟨placeK [97], [97], 5⟩ := rfl
  refine run S (.gy rfl rfl (ys_ixS (j := 0) underlying22 sizeOf28 (.t rfl) Ev.c (fun _ => by omega)) <| .gy rfl rfl (ys_field (FieldT.mk underlying28 rfl sizeOf9 rfl) (.t rfl)) <| .gy rfl rfl (ys_ldW ⟨isAgg9, sizeOf9⟩ (.t rfl) (k := 0) rfl hx (fun _ => rfl) rfl) <| .gy rfl rfl (ys_eqlStr (.t rfl) Ev.c) <| .yy (ys_pickT (.t rfl) (.t rfl)) rfl <| .mv rfl <| .gy rfl rfl (ys_move (.t rfl)) <| .gy rfl rfl (ys_ixS (j := 0) underlying22 sizeOf28 (.t rfl) Ev.c (fun _ => by omega)) <| .gy rfl rfl (ys_field (FieldT.mk underlying28 rfl sizeOf23 rfl) (.t rfl)) <| .gy rfl rfl (ys_ldW ⟨isAgg23, sizeOf23⟩ (.t rfl) (k := 0) rfl hx (fun _ => rfl) rfl) <| .gy rfl rfl (ys_eql (.t rfl) Ev.c) <| .yy (ys_pickT (.t rfl) (.t rfl)) rfl <| .as rfl <| .z) fun a w S => st_nil (then_normal (hK1 _ _ (wp_ret (st_ret S (results1 S results14 (Rv.tmp rfl)) ?_))))
  exact ⟨by simp, S.wd.below⟩
end Go.Proofs.Ytbijdmfilmecbaa
set_option linter.unusedVariables false
set_option linter.unusedSimpArgs false
set_option maxRecDepth 100000
namespace Go.Proofs.Ytbijdmfilmecbaa
open Go.Fw Go.Proofs Go.RowKit Go.ChangeShapes Go.WideShapes Go.ChangeAt Go.Deep Go.Joins Go.Proofs.Try
section
variable {H : Type} {enc : TypeId × Value → H} {w : World}
theorem wf_u64 {n : Int} (h : (Lit.int .u64 n).wf = true) : 0 ≤ n ∧ n ≤ 18446744073709551615 := by
  simp only [Lit.wf, IntKind.min, IntKind.max, IntKind.signed, IntKind.bits, Bool.and_eq_true, decide_eq_true_eq, Bool.false_eq_true, if_false] at h
  omega
theorem rdSum : Rdr enc Try.prog w 28 fun cs b => ∃ x : Sm, cs = Sm.enc x ∧ (0 ≤ x.hash ∧ x.hash ≤ 18446744073709551615) ∧ x.key.length + 1 ≤ b := by
  refine (Rdr.struct underlying28 (by kernel_rfl) (.cons (Rdr.int underlying3) (.cons (Rdr.str underlying9) (.cons (Rdr.int underlying23) .nil)))).mono ?_
  rintro cs b ⟨_, _, rfl, ⟨_, _, x, rfl, _⟩, _, _, rfl, ⟨_, hb, s, rfl, hs⟩, _, _, rfl, ⟨_, _, h, rfl, hw⟩, rfl⟩
  exact ⟨⟨x, s, h⟩, rfl, wf_u64 hw, by dsimp only; omega⟩
theorem read_sums {v : Value} {d : DataW H} {p : List MemPlace} (hv : ∃ A len cap, v = .slice A len cap) (h : DataW.Trod enc Try.prog w 0 (fun _ => true) true 22 v d p) (hb : Rows.uptoBulk d ≤ 1048576) :
    ∃ l, Sl Sm.enc 3 w w.heap.size v l ∧ Sums l := by
  obtain ⟨v', l, hc, hs, hl, hf⟩ := Rdr.top (Rdr.slice (k := 3) underlying22 (by kernel_rfl) rfl (fun _ => rfl) rdSum) h
  obtain ⟨A, n, c, rfl⟩ := hv
  simp only [Value.cells, List.cons.injEq, and_true] at hc
  subst hc
  exact ⟨l, hs, ⟨fun x hx => by obtain ⟨b', h1, h2, h3⟩ := hf x hx; exact h2, fun x hx => by obtain ⟨b', h1, h2, h3⟩ := hf x hx; omega, by omega⟩⟩
end
end Go.Proofs.Ytbijdmfilmecbaa
set_option linter.unusedVariables false
set_option linter.unusedSimpArgs false
set_option maxRecDepth 100000
set_option maxHeartbeats 4000000
namespace Go.Fw
open Go.RowKit
theorem st_straight {P : Program} {Q : Exit → Act → World → Prop} {a : Act} {w : World} {c : Code} (h : c.wp P (Exit.jump 0 (fun _ _ => False) Q) a w) : (Code.scope c).wp P Q a w :=
  wp_scope_straight (wp_mono h fun e a w h => by
    cases e with
    | goto l => exact h.2.elim
    | _ => exact h)
end Go.Fw
namespace Go.Proofs.Ytbijdmfilmecbaa
open Go.Fw Go.Proofs Go.RowKit Go.Proofs.Try
theorem d22 (w0 : World) (level : Int) (v2 : Value) : Calls Try.prog 22 #[.pointer none, .int .i64 level, v2] w0 fun e w' => e = .returned (.tuple #[.slice none 0 0, .int .i64 8]) ∧ Bel w0.heap.size w0 w' := by
  refine enter3 func22 rfl ntmps22 rfl fun a S => sg S (.ac rfl <| .ac rfl <| .z) fun a w S => wp_seq_k fun _ hK1 => sg S (.mv rfl <| .xx (ys_call call45 (.cons (.t rfl) .nil) (fun hp w W => d45 _)) rfl <| .nt rfl <| .z) fun a w S => st_then S (.t rfl) (sg S (.ac rfl <| .ac rfl <| .z) fun a w S => wp_ret (then_ret (st_ret S (results2 S results22 (Rv.tmp rfl) (Rv.tmp rfl)) ?_)))
  exact ⟨rfl, S.wd.below⟩
theorem e22 (w0 : World) (g : Nat) (level : Int) (v2 : Value) (h0 : w0.cell? ⟨g, 0, none⟩ = some (.slice none 0 0)) : Calls Try.prog 22 #[.pointer (some ⟨g, 0, none⟩), .int .i64 level, v2] w0 fun e w' => e = .returned (.tuple #[.slice none 0 0, .int .i64 8]) ∧ Bel w0.heap.size w0 w' := by
  refine enter3 func22 rfl ntmps22 rfl fun a S => sg S (.ac rfl <| .ac rfl <| .z) fun a w S => wp_seq_k fun _ hK1 => sg S (.mv rfl <| .xx (ys_call call45 (.cons (.t rfl) .nil) (fun hp w W => c45 _ _ _ _ _ (by exact Wd.cellOld W (by assumption)))) rfl <| .nt rfl <| .z) fun a w S => st_then S (.t rfl) (sg S (.ac rfl <| .ac rfl <| .z) fun a w S => wp_ret (then_ret (st_ret S (results2 S results22 (Rv.tmp rfl) (Rv.tmp rfl)) ?_)))
  exact ⟨rfl, S.wd.below⟩
theorem d25 (w0 : World) (v2 : Value) : Calls Try.prog 25 #[.pointer none, v2] w0 fun e w' => e = .returned (.tuple #[.slice none 0 0, .int .i64 8]) ∧ Bel w0.heap.size w0 w' := by
  refine enter2 func25 rfl ntmps25 rfl fun a S => sg S (.ac rfl <| .ac rfl <| .z) fun a w S => wp_seq_k fun _ hK1 => sg S (.mv rfl <| .xx (ys_call call45 (.cons (.t rfl) .nil) (fun hp w W => d45 _)) rfl <| .nt rfl <| .z) fun a w S => st_then S (.t rfl) (sg S (.ac rfl <| .ac rfl <| .z) fun a w S => wp_ret (then_ret (st_ret S (results2 S results25 (Rv.tmp rfl) (Rv.tmp rfl)) ?_)))
  exact ⟨rfl, S.wd.below⟩
theorem e25 (w0 : World) (g : Nat) (v2 : Value) (h0 : w0.cell? ⟨g, 0, none⟩ = some (.slice none 0 0)) : Calls Try.prog 25 #[.pointer (some ⟨g, 0, none⟩), v2] w0 fun e w' => e = .returned (.tuple #[.slice none 0 0, .int .i64 8]) ∧ Bel w0.heap.size w0 w' := by
  refine enter2 func25 rfl ntmps25 rfl fun a S => sg S (.ac rfl <| .ac rfl <| .z) fun a w S => wp_seq_k fun _ hK1 => sg S (.mv rfl <| .xx (ys_call call45 (.cons (.t rfl) .nil) (fun hp w W => c45 _ _ _ _ _ (by exact Wd.cellOld W (by assumption)))) rfl <| .nt rfl <| .z) fun a w S => st_then S (.t rfl) (sg S (.ac rfl <| .ac rfl <| .z) fun a w S => wp_ret (then_ret (st_ret S (results2 S results25 (Rv.tmp rfl) (Rv.tmp rfl)) ?_)))
  exact ⟨rfl, S.wd.below⟩
theorem d27 (w0 : World) (level : Int) (v2 : Value) : Calls Try.prog 27 #[.pointer none, .int .i64 level, v2] w0 fun e w' => e = .returned (.tuple #[.slice none 0 0, .int .i64 8]) ∧ Bel w0.heap.size w0 w' := by
  refine enter3 func27 rfl ntmps27 rfl fun a S => sg S (.ac rfl <| .ac rfl <| .z) fun a w S => wp_seq_k fun _ hK1 => sg S (.mv rfl <| .xx (ys_call call45 (.cons (.t rfl) .nil) (fun hp w W => d45 _)) rfl <| .nt rfl <| .z) fun a w S => st_then S (.t rfl) (sg S (.ac rfl <| .ac rfl <| .z) fun a w S => wp_ret (then_ret (st_ret S (results2 S results27 (Rv.tmp rfl) (Rv.tmp rfl)) ?_)))
  exact ⟨rfl, S.wd.below⟩
theorem e27 (w0 : World) (g : Nat) (level : Int) (v2 : Value) (h0 : w0.cell? ⟨g, 0, none⟩ = some (.slice none 0 0)) : Calls Try.prog 27 #[.pointer (some ⟨g, 0, none⟩), .int .i64 level, v2] w0 fun e w' => e = .returned (.tuple #[.slice none 0 0, .int .i64 8]) ∧ Bel w0.heap.size w0 w' := by
  refine enter3 func27 rfl ntmps27 rfl fun a S => sg S (.ac rfl <| .ac rfl <| .z) fun a w S => wp_seq_k fun _ hK1 => sg S (.mv rfl <| .xx (ys_call call45 (.cons (.t rfl) .nil) (fun hp w W => c45 _ _ _ _ _ (by exact Wd.cellOld W (by assumption)))) rfl <| .nt rfl <| .z) fun a w S => st_then S (.t rfl) (sg S (.ac rfl <| .ac rfl <| .z) fun a w S => wp_ret (then_ret (st_ret S (results2 S results27 (Rv.tmp rfl) (Rv.tmp rfl)) ?_)))
  exact ⟨rfl, S.wd.below⟩
theorem d32 (w0 : World) (v1 v2 : Value) : Calls Try.prog 32 #[.pointer none, v1, v2] w0 fun e w' => e = .returned (.tuple #[.slice none 0 0, .int .i64 8]) ∧ Bel w0.heap.size w0 w' := by
  refine enter3 func32 rfl ntmps32 rfl fun a S => sg S (.ac rfl <| .ac rfl <| .z) fun a w S => st_straight (wp_seq_k fun _ hK1 => sg S (.mv rfl <| .xx (ys_call call45 (.cons (.t rfl) .nil) (fun hp w W => d45 _)) rfl <| .nt rfl <| .z) fun a w S => st_then S (.t rfl) (sg S (.ac rfl <| .ac rfl <| .z) fun a w S => wp_ret (then_ret ?_)))
  refine jump_ret ?_
  refine st_ret S (results2 S results32 (Rv.tmp rfl) (Rv.tmp rfl)) ?_
  exact ⟨rfl, S.wd.below⟩
theorem e32 (w0 : World) (g : Nat) (v1 v2 : Value) (h0 : w0.cell? ⟨g, 0, none⟩ = some (.slice none 0 0)) : Calls Try.prog 32 #[.pointer (some ⟨g, 0, none⟩), v1, v2] w0 fun e w' => e = .returned (.tuple #[.slice none 0 0, .int .i64 8]) ∧ Bel w0.heap.size w0 w' := by
  refine enter3 func32 rfl ntmps32 rfl fun a S => sg S (.ac rfl <| .ac rfl <| .z) fun a w S => st_straight (wp_seq_k fun _ hK1 => sg S (.mv rfl <| .xx (ys_call call45 (.cons (.t rfl) .nil) (fun hp w W => c45 _ _ _ _ _ (by exact Wd.cellOld W (by assumption)))) rfl <| .nt rfl <| .z) fun a w S => st_then S (.t rfl) (sg S (.ac rfl <| .ac rfl <| .z) fun a w S => wp_ret (then_ret ?_)))
  refine jump_ret ?_
  refine st_ret S (results2 S results32 (Rv.tmp rfl) (Rv.tmp rfl)) ?_
  exact ⟨rfl, S.wd.below⟩
theorem d33 (w0 : World)  : Calls Try.prog 33 #[.pointer none] w0 fun e w' => e = .returned (.int .u64 0) ∧ Bel w0.heap.size w0 w' := by
  refine enter1 func33 rfl ntmps33 rfl fun a S => sg S (.ac rfl <| .z) fun a w S => wp_seq_k fun _ hK1 => sg S (.mv rfl <| .xx (ys_call call45 (.cons (.t rfl) .nil) (fun hp w W => d45 _)) rfl <| .nt rfl <| .z) fun a w S => st_then S (.t rfl) (sg S (.ac rfl <| .z) fun a w S => wp_ret (then_ret (st_ret S (results1 S results33 (Rv.tmp rfl)) ?_)))
  exact ⟨rfl, S.wd.below⟩
theorem e33 (w0 : World) (g : Nat)  (h0 : w0.cell? ⟨g, 0, none⟩ = some (.slice none 0 0)) : Calls Try.prog 33 #[.pointer (some ⟨g, 0, none⟩)] w0 fun e w' => e = .returned (.int .u64 0) ∧ Bel w0.heap.size w0 w' := by
  refine enter1 func33 rfl ntmps33 rfl fun a S => sg S (.ac rfl <| .z) fun a w S => wp_seq_k fun _ hK1 => sg S (.mv rfl <| .xx (ys_call call45 (.cons (.t rfl) .nil) (fun hp w W => c45 _ _ _ _ _ (by exact Wd.cellOld W (by assumption)))) rfl <| .nt rfl <| .z) fun a w S => st_then S (.t rfl) (sg S (.ac rfl <| .z) fun a w S => wp_ret (then_ret (st_ret S (results1 S results33 (Rv.tmp rfl)) ?_)))
  exact ⟨rfl, S.wd.below⟩
theorem d11 (w0 : World) (k : List UInt8) (h : Int) : Calls Try.prog 11 #[.pointer none, .string (bs k), .int .u64 h] w0 fun e w' => e = .returned (.int .i64 8) ∧ Bel w0.heap.size w0 w' := by
  refine enter3 func11 rfl ntmps11 rfl fun a S => sg S (.ac rfl <| .z) fun a w S => wp_seq_k fun _ hK1 => sg S (.mv rfl <| .xx (ys_call call45 (.cons (.t rfl) .nil) (fun hp w W => d45 _)) rfl <| .nt rfl <| .z) fun a w S => st_then S (.t rfl) (sg S (.ac rfl <| .z) fun a w S => wp_ret (then_ret (st_ret S (results1 S results11 (Rv.tmp rfl)) ?_)))
  exact ⟨rfl, S.wd.below⟩
theorem e11 (w0 : World) (g : Nat) (k : List UInt8) (h : Int) (h0 : w0.cell? ⟨g, 0, none⟩ = some (.slice none 0 0)) : Calls Try.prog 11 #[.pointer (some ⟨g, 0, none⟩), .string (bs k), .int .u64 h] w0 fun e w' => e = .returned (.int .i64 8) ∧ Bel w0.heap.size w0 w' := by
  refine enter3 func11 rfl ntmps11 rfl fun a S => sg S (.ac rfl <| .z) fun a w S => wp_seq_k fun _ hK1 => sg S (.mv rfl <| .xx (ys_call call45 (.cons (.t rfl) .nil) (fun hp w W => c45 _ _ _ _ _ (by exact Wd.cellOld W (by assumption)))) rfl <| .nt rfl <| .z) fun a w S => st_then S (.t rfl) (sg S (.ac rfl <| .z) fun a w S => wp_ret (then_ret (st_ret S (results1 S results11 (Rv.tmp rfl)) ?_)))
  exact ⟨rfl, S.wd.below⟩
theorem d12 (w0 : World) (k : List UInt8) : Calls Try.prog 12 #[.pointer none, .string (bs k)] w0 fun e w' => e = .returned (.int .i64 8) ∧ Bel w0.heap.size w0 w' := by
  refine enter2 func12 rfl ntmps12 rfl fun a S => sg S (.ac rfl <| .z) fun a w S => wp_seq_k fun _ hK1 => sg S (.mv rfl <| .xx (ys_call call45 (.cons (.t rfl) .nil) (fun hp w W => d45 _)) rfl <| .nt rfl <| .z) fun a w S => st_then S (.t rfl) (sg S (.ac rfl <| .z) fun a w S => wp_ret (then_ret (st_ret S (results1 S results12 (Rv.tmp rfl)) ?_)))
  exact ⟨rfl, S.wd.below⟩
theorem e12 (w0 : World) (g : Nat) (k : List UInt8) (h0 : w0.cell? ⟨g, 0, none⟩ = some (.slice none 0 0)) : Calls Try.prog 12 #[.pointer (some ⟨g, 0, none⟩), .string (bs k)] w0 fun e w' => e = .returned (.int .i64 8) ∧ Bel w0.heap.size w0 w' := by
  refine enter2 func12 rfl ntmps12 rfl fun a S => sg S (.ac rfl <| .z) fun a w S => wp_seq_k fun _ hK1 => sg S (.mv rfl <| .xx (ys_call call45 (.cons (.t rfl) .nil) (fun hp w W => c45 _ _ _ _ _ (by exact Wd.cellOld W (by assumption)))) rfl <| .nt rfl <| .z) fun a w S => st_then S (.t rfl) (sg S (.ac rfl <| .z) fun a w S => wp_ret (then_ret (st_ret S (results1 S results12 (Rv.tmp rfl)) ?_)))
  exact ⟨rfl, S.wd.below⟩
theorem c6 (w0 : World) (k : List UInt8) (level : Int) (v2 v3 : Value) : Calls Try.prog 6 #[.string (bs k), .int .i64 level, v2, v3] w0 fun e w' => e = .returned (.bool true) ∧ Bel w0.heap.size w0 w' := by
  have rw_1 : (0 : Int) + 1 = ((1 : Nat) : Int) := rfl
  have rw_2 : ((1 : Nat) : Int) + 1 = ((2 : Nat) : Int) := rfl
  have rw_8 : decide ((8 : Int) ≠ 8) = false := rfl
  have rw_0 : decide ((0 : Int) ≠ 0) = false := rfl
  refine enter4 func6 rfl ntmps6 rfl fun a S => sg S (.ac rfl <| .z) fun a w S => wp_seq_k fun _ hK1 => wp_seq_k fun _ hK2 => wp_region_lit (run S (.yy (ys_bld (ps := []) (us := [_]) bld59 .nil rfl) rfl <| .z) fun a w S => st_m (op_box S (.t rfl) rfl fun g1 a w S => st_m (op_bsliceZ (ps := [(0, _), (1, Go.Operand.tmp 20)]) (us := [_, _]) S underlying60 sizeOf24 zeroValue24 rfl rfl (.cons Ev.c (.cons (.t rfl) .nil)) rfl rfl fun g2 a w S => run S (.ln underlying60 rfl <| .mc rfl <| .z) fun a w S => st_nil (then_normal (hK2 _ _ (wp_block (st_rounds 3 (st_round (sg S (.lt (by omega) rfl rfl <| .z) fun a w S => wp_seq_k fun _ hK2 => st_then S (.t rfl) (wp_skip (then_normal (hK2 _ _ (wp_seq_k fun _ hK2 => wp_block (sg S (.yy (ys_ixS (j := 0) underlying60 sizeOf24 (.t rfl) (.t rfl) (fun _ => by omega)) rfl <| .ld gt24 0 rfl rfl rfl <| .as rfl <| .z) fun a w S => sg S (.mv rfl <| .mv rfl <| .mv rfl <| .xx (ys_call call22 (.cons (.t rfl) (.cons (.t rfl) (.cons (.t rfl) .nil))) (fun hp w W => d22 _ _ _)) rfl <| .mv rfl <| .ex rfl rfl <| .ex rfl rfl <| .as rfl <| .as rfl <| .z) fun a w S => wp_seq_k fun _ hK3 => ?_))))))))))))))
  refine rg S (.mv rfl <| .mv rfl <| .xx (ys_call call25 (.cons (.t rfl) (.cons (.t rfl) .nil)) (fun hp w W => d25 _ _)) rfl <| .mv rfl <| .ex rfl rfl <| .ex rfl rfl <| .as rfl <| .as rfl <| .z) hK3 fun a w S => sg S (.mv rfl <| .mv rfl <| .mv rfl <| .xx (ys_call call27 (.cons (.t rfl) (.cons (.t rfl) (.cons (.t rfl) .nil))) (fun hp w W => d27 _ _ _)) rfl <| .mv rfl <| .ex rfl rfl <| .ex rfl rfl <| .as rfl <| .as rfl <| .z) fun a w S => sg S (.mv rfl <| .mv rfl <| .mv rfl <| .xx (ys_call call32 (.cons (.t rfl) (.cons (.t rfl) (.cons (.t rfl) .nil))) (fun hp w W => d32 _ _ _)) rfl <| .mv rfl <| .ex rfl rfl <| .ex rfl rfl <| .as rfl <| .as rfl <| .z) fun a w S => wp_seq_k fun _ hK3 => wp_seq_k fun _ hK4 => wp_region_lit ?_
  refine run S (.mv rfl <| .yy (ys_F (by omega) (ys_neq (.t rfl) Ev.c)) rfl <| .mv rfl <| .gy rfl rfl (ys_move (.t rfl)) <| .gy rfl rfl (ys_F (by omega) (ys_neq (.t rfl) Ev.c)) <| .yy (ys_pickF (.t rfl) (.t rfl)) rfl <| .mv rfl <| .gy rfl rfl (ys_move (.t rfl)) <| .gy rfl rfl (ys_F (by omega) (ys_neq (.t rfl) Ev.c)) <| .yy (ys_pickF (.t rfl) (.t rfl)) rfl <| .mv rfl <| .gy rfl rfl (ys_move (.t rfl)) <| .gy rfl rfl (ys_F (by omega) (ys_neq (.t rfl) Ev.c)) <| .yy (ys_pickF (.t rfl) (.t rfl)) rfl <| .mv rfl <| .gy rfl rfl (ys_move (.t rfl)) <| .gy rfl rfl (ys_lenS underlying22 (.t rfl)) <| .gy rfl rfl (ys_move (.t rfl)) <| .gy rfl rfl (ys_lenS underlying22 (.t rfl)) <| .gy rfl rfl (ys_addI (.t rfl) (.t rfl) (fun _ => by unfold I64; omega)) <| .gy rfl rfl (ys_move (.t rfl)) <| .gy rfl rfl (ys_lenS underlying42 (.t rfl)) <| .gy rfl rfl (ys_addI (.t rfl) (.t rfl) (fun _ => by unfold I64; omega)) <| .gy rfl rfl (ys_move (.t rfl)) <| .gy rfl rfl (ys_lenS underlying61 (.t rfl)) <| .gy rfl rfl (ys_addI (.t rfl) (.t rfl) (fun _ => by unfold I64; omega)) <| .gy rfl rfl (ys_F (by omega) (ys_neq (.t rfl) Ev.c)) <| .yy (ys_pickF (.t rfl) (.t rfl)) rfl <| .z) fun a w S => st_nil (then_normal (hK4 _ _ (st_else S (.t rfl) (wp_skip (then_normal (hK3 _ _ (wp_seq_k fun _ hK3 => wp_region_lit ?_)))))))
  refine run S (.mv rfl <| .xx (ys_call call33 (.cons (.t rfl) .nil) (fun hp w W => d33 _)) rfl <| .yy (ys_F (by omega) (ys_neq (.t rfl) Ev.c)) rfl <| .mv rfl <| .gy rfl rfl (ys_move (.t rfl)) <| .gy rfl rfl (ys_move (.t rfl)) <| .gx rfl rfl (ys_call call11 (.cons (.t rfl) (.cons (.t rfl) (.cons Ev.c .nil))) (fun hp w W => d11 _ _ _)) <| .gy rfl rfl (ys_F (by omega) (ys_neq (.t rfl) Ev.c)) <| .yy (ys_pickF (.t rfl) (.t rfl)) rfl <| .mv rfl <| .gy rfl rfl (ys_move (.t rfl)) <| .gy rfl rfl (ys_move (.t rfl)) <| .gx rfl rfl (ys_call call12 (.cons (.t rfl) (.cons (.t rfl) .nil)) (fun hp w W => d12 _ _)) <| .gy rfl rfl (ys_F (by omega) (ys_neq (.t rfl) Ev.c)) <| .yy (ys_pickF (.t rfl) (.t rfl)) rfl <| .z) fun a w S => st_nil (then_normal (hK3 _ _ (st_else S (.t rfl) (wp_skip (in_normal (then_normal (hK2 _ _ (wp_region_lit (run S (.ad (by unfold I64; omega) rfl <| .z) fun a w S => ?_)))))))))
  rw [rw_1] at S
  refine run S (.mv rfl <| .z) fun a w S => st_nil (then_normal (st_round (sg S (.lt (by omega) rfl rfl <| .z) fun a w S => wp_seq_k fun _ hK2 => st_then S (.t rfl) (wp_skip (then_normal (hK2 _ _ (wp_seq_k fun _ hK2 => wp_block (sg S (.yy (ys_ixS (j := 1) underlying60 sizeOf24 (.t rfl) (.t rfl) (fun _ => by omega)) rfl <| .ld gt24 0 rfl rfl rfl <| .as rfl <| .z) fun a w S => wp_seq_k fun _ hK3 => wp_region_lit (run S (.mv rfl <| .mv rfl <| .mv rfl <| .z) fun a w S => st_y S (ys_call call22 (.cons (.t rfl) (.cons (.t rfl) (.cons (.t rfl) .nil))) (fun _ w' W' => e22 w' g1 level v2 (by first | exact Wd.cell W' (k := 0) rfl rfl | exact Wd.cell W' (k := 1) rfl rfl | exact Wd.cell W' (k := 2) rfl rfl))) rfl ?_)))))))))
  clear S a w
  intro a w S
  refine run S (.mv rfl <| .ex rfl rfl <| .ex rfl rfl <| .as rfl <| .as rfl <| .z) fun a w S => st_nil (then_normal (hK3 _ _ (wp_seq_k fun _ hK3 => wp_region_lit (run S (.mv rfl <| .mv rfl <| .z) fun a w S => st_y S (ys_call call25 (.cons (.t rfl) (.cons (.t rfl) .nil)) (fun _ w' W' => e25 w' g1 v2 (by first | exact Wd.cell W' (k := 0) rfl rfl | exact Wd.cell W' (k := 1) rfl rfl | exact Wd.cell W' (k := 2) rfl rfl))) rfl ?_))))
  clear S a w
  intro a w S
  refine run S (.mv rfl <| .ex rfl rfl <| .ex rfl rfl <| .as rfl <| .as rfl <| .z) fun a w S => st_nil (then_normal (hK3 _ _ (wp_seq_k fun _ hK3 => wp_region_lit (run S (.mv rfl <| .mv rfl <| .mv rfl <| .z) fun a w S => st_y S (ys_call call27 (.cons (.t rfl) (.cons (.t rfl) (.cons (.t rfl) .nil))) (fun _ w' W' => e27 w' g1 level v3 (by first | exact Wd.cell W' (k := 0) rfl rfl | exact Wd.cell W' (k := 1) rfl rfl | exact Wd.cell W' (k := 2) rfl rfl))) rfl ?_))))
  clear S a w
  intro a w S
  refine run S (.mv rfl <| .ex rfl rfl <| .ex rfl rfl <| .as rfl <| .as rfl <| .z) fun a w S => st_nil (then_normal (hK3 _ _ (sg S (.mv rfl <| .mv rfl <| .mv rfl <| .xx (ys_call call32 (.cons (.t rfl) (.cons (.t rfl) (.cons (.t rfl) .nil))) (fun hp w W => e32 _ _ _ _ (by exact Wd.cell W (k := 1) rfl rfl))) rfl <| .mv rfl <| .ex rfl rfl <| .ex rfl rfl <| .as rfl <| .as rfl <| .z) fun a w S => wp_seq_k fun _ hK3 => wp_seq_k fun _ hK4 => wp_region_lit ?_)))
  refine run S (.mv rfl <| .yy (ys_F (by omega) (ys_neq (.t rfl) Ev.c)) rfl <| .mv rfl <| .gy rfl rfl (ys_move (.t rfl)) <| .gy rfl rfl (ys_F (by omega) (ys_neq (.t rfl) Ev.c)) <| .yy (ys_pickF (.t rfl) (.t rfl)) rfl <| .mv rfl <| .gy rfl rfl (ys_move (.t rfl)) <| .gy rfl rfl (ys_F (by omega) (ys_neq (.t rfl) Ev.c)) <| .yy (ys_pickF (.t rfl) (.t rfl)) rfl <| .mv rfl <| .gy rfl rfl (ys_move (.t rfl)) <| .gy rfl rfl (ys_F (by omega) (ys_neq (.t rfl) Ev.c)) <| .yy (ys_pickF (.t rfl) (.t rfl)) rfl <| .mv rfl <| .gy rfl rfl (ys_move (.t rfl)) <| .gy rfl rfl (ys_lenS underlying22 (.t rfl)) <| .gy rfl rfl (ys_move (.t rfl)) <| .gy rfl rfl (ys_lenS underlying22 (.t rfl)) <| .gy rfl rfl (ys_addI (.t rfl) (.t rfl) (fun _ => by unfold I64; omega)) <| .gy rfl rfl (ys_move (.t rfl)) <| .gy rfl rfl (ys_lenS underlying42 (.t rfl)) <| .gy rfl rfl (ys_addI (.t rfl) (.t rfl) (fun _ => by unfold I64; omega)) <| .gy rfl rfl (ys_move (.t rfl)) <| .gy rfl rfl (ys_lenS underlying61 (.t rfl)) <| .gy rfl rfl (ys_addI (.t rfl) (.t rfl) (fun _ => by unfold I64; omega)) <| .gy rfl rfl (ys_F (by omega) (ys_neq (.t rfl) Ev.c)) <| .yy (ys_pickF (.t rfl) (.t rfl)) rfl <| .z) fun a w S => st_nil (then_normal (hK4 _ _ (st_else S (.t rfl) (wp_skip (then_normal (hK3 _ _ (wp_seq_k fun _ hK3 => wp_region_lit (run S (.mv rfl <| .z) fun a w S => ?_))))))))
  refine st_y S (ys_call call33 (.cons (.t rfl) .nil) (fun _ w' W' => e33 w' g1  (by first | exact Wd.cell W' (k := 0) rfl rfl | exact Wd.cell W' (k := 1) rfl rfl | exact Wd.cell W' (k := 2) rfl rfl))) rfl ?_
  clear S a w
  intro a w S
  refine run S (.yy (ys_F (by omega) (ys_neq (.t rfl) Ev.c)) rfl <| .mv rfl <| .gy rfl rfl (ys_move (.t rfl)) <| .gy rfl rfl (ys_move (.t rfl)) <| .gx rfl rfl (ys_call call11 (.cons (.t rfl) (.cons (.t rfl) (.cons Ev.c .nil))) (fun hp w W => e11 _ _ _ _ (by exact Wd.cell W (k := 1) rfl rfl))) <| .gy rfl rfl (ys_F (by omega) (ys_neq (.t rfl) Ev.c)) <| .yy (ys_pickF (.t rfl) (.t rfl)) rfl <| .mv rfl <| .gy rfl rfl (ys_move (.t rfl)) <| .gy rfl rfl (ys_move (.t rfl)) <| .gx rfl rfl (ys_call call12 (.cons (.t rfl) (.cons (.t rfl) .nil)) (fun hp w W => e12 _ _ _ (by exact Wd.cell W (k := 1) rfl rfl))) <| .gy rfl rfl (ys_F (by omega) (ys_neq (.t rfl) Ev.c)) <| .yy (ys_pickF (.t rfl) (.t rfl)) rfl <| .z) fun a w S => st_nil (then_normal (hK3 _ _ (st_else S (.t rfl) (wp_skip (in_normal (then_normal (hK2 _ _ (wp_region_lit (run S (.ad (by unfold I64; omega) rfl <| .z) fun a w S => ?_)))))))))
  rw [rw_2] at S
  refine run S (.mv rfl <| .z) fun a w S => st_nil (then_normal (st_round (sg S (.ge (by omega) rfl rfl <| .z) fun a w S => wp_seq_k fun _ hK2 => st_else S (.t rfl) (wp_exit (then_exit (then_exit (in_here (then_normal (hK1 _ _ (sg S (.xx (ys_call call14 .nil (fun hp w W => c14 _)) rfl <| .as rfl <| .z) fun a w S => wp_ret (st_ret S (results1 S results6 (Rv.tmp rfl)) ?_)))))))))))
  exact ⟨rfl, S.wd.below⟩
end Go.Proofs.Ytbijdmfilmecbaa
