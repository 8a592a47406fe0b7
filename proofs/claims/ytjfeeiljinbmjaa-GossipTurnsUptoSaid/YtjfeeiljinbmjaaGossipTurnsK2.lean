/- Contracts and laws that the statement GossipTurns leans on, part 2. -/
import Derived.Test.YtjfeeiljinbmjaaGossipTurnsK1
set_option linter.unusedVariables false
set_option linter.unusedSimpArgs false
set_option maxRecDepth 100000
set_option maxHeartbeats 4000000
namespace Go.Proofs.Ytjfeeiljinbmjaa
open Go.Fw Go.Proofs Go.RowKit
theorem c101 (w0 : World) (v1 : Value) (l : List Dot) (x y z : Int) (h : Sl Dot.enc 3 w0 w0.heap.size v1 l) :
    Calls Try.prog 101 #[v1, .agg #[.int .i64 x, .int .i64 y, .int .i64 z]] w0 fun e w' => e = .returned (.int .i64 (idxFrom ⟨x, y, z⟩ 0 l)) ∧ Bel w0.heap.size w0 w' := by
  obtain ⟨A, cap, rfl, hl, hcap, hA⟩ := h
  refine enter2 Try.func101 rfl Try.ntmps101 rfl fun a S => ?_
  refine wp_seq_k fun _ hK1 => ?_
  refine wp_region_lit ?_
  (refine st_m (op_box S (Ev.t rfl) rfl ?_); clear S a; intro g1 a w S)
  (refine st_y S (Yr.ys (ys_assign Ev.c)) rfl ?_; clear S a w; intro a w S)
  refine st_nil ?_
  (refine (then_normal (hK1 _ _ ?_)); clear hK1)
  refine wp_seq_k fun _ hK1 => ?_
  refine wp_seq_k fun _ hK2 => ?_
  refine wp_region_lit ?_
  (refine st_y S (Yr.ys (ys_move (Ev.t rfl))) rfl ?_; clear S a w; intro a w S)
  (refine st_y S (Yr.ys (ys_lenS Try.underlying61 (Ev.t rfl))) rfl ?_; clear S a w; intro a w S)
  (refine st_y S (Yr.ys (ys_move Ev.c)) rfl ?_; clear S a w; intro a w S)
  refine st_nil ?_
  (refine (then_normal (hK2 _ _ ?_)); clear hK2)
  refine wp_block ?_
  refine st_loopK S (X := Nat) (fun k => [(8, true, .int .i64 (k : Int))]) (fun _ L => L) (fun k => k ≤ l.length ∧ idxFrom ⟨x, y, z⟩ k (l.drop k) = idxFrom ⟨x, y, z⟩ 0 l) (fun k => l.length - k) 0 ⟨Nat.zero_le _, rfl⟩ (by repeat (first | exact Fits.nil | refine Fits.skip rfl ?_ | refine Fits.cons rfl ?_)) (by repeat (first | exact List.Sublist.refl _ | exact List.nil_sublist _ | refine .cons_cons _ ?_ | refine .cons _ ?_)) ?_
  clear S
  intro k a w ⟨hk, hno⟩ S
  by_cases hlt : k < l.length
  · obtain ⟨g, o, m, rfl, hm, hd, hc⟩ := row_at hA hlt
    clear hA
    refine wp_seq_k fun _ hK2 => ?_
    refine wp_region_lit ?_
    (refine st_y S (Yr.ys (ys_T (by omega) (ys_lss (Ev.t rfl) (Ev.t rfl)))) rfl ?_; clear S a w; intro a w S)
    refine st_nil ?_
    (refine (then_normal (hK2 _ _ ?_)); clear hK2)
    refine wp_seq_k fun _ hK2 => ?_
    refine st_then S (Ev.t rfl) ?_
    refine wp_skip ?_
    (refine (then_normal (hK2 _ _ ?_)); clear hK2)
    refine wp_seq_k fun _ hK2 => ?_
    refine wp_block ?_
    refine wp_seq_k fun _ hK3 => ?_
    refine wp_region_lit ?_
    (refine st_y S (Yr.ys (ys_move (Ev.t rfl))) rfl ?_; clear S a w; intro a w S)
    (refine st_y S (Yr.ys (ys_assign (Ev.t rfl))) rfl ?_; clear S a w; intro a w S)
    refine st_nil ?_
    (refine (then_normal (hK3 _ _ ?_)); clear hK3)
    refine wp_seq_k fun _ hK3 => ?_
    (refine st_quiet S (by kernel_rfl) (by kernel_rfl) ?_; clear S w; intro a S)
    (refine q_y S (Yr.ys (ys_ldA ⟨Try.isAgg93, Try.sizeOf93⟩ (Ev.t rfl) (k := 0) rfl rfl)) rfl ?_; clear S a; intro a S)
    (refine q_y S (Yr.ys (ys_move (Ev.t rfl))) rfl ?_; clear S a; intro a S)
    (refine q_y S (Yr.ys (ys_move (Ev.t rfl))) rfl ?_; clear S a; intro a S)
    (refine q_y S (Yr.ys (ys_ixS Try.underlying61 Try.sizeOf93 (Ev.t rfl) (Ev.t rfl) (fun _ => by omega))) rfl ?_; clear S a; intro a S)
    (refine q_y S (Yr.ys (ys_ldOA ⟨Try.isAgg93, Try.sizeOf93⟩ (Ev.t rfl) (vs := [_, _, _]) rfl (fun _ => hc))) rfl ?_; clear S a; intro a S)
    (refine q_y S (Yr.ys (ys_eqA (Ev.t rfl) (Ev.t rfl) eq93)) rfl ?_; clear S a; intro a S)
    (refine q_nil ?_; intro w W; replace S := St.mk S W; clear W)
    (refine (then_normal (hK3 _ _ ?_)); clear hK3)
    refine st_if S (Ev.t rfl) (fun h1 => ?_) (fun h1 => ?_)
    refine wp_seq_k fun _ hK3 => ?_
    refine wp_region_lit ?_
    (refine st_y S (Yr.ys (ys_move (Ev.t rfl))) rfl ?_; clear S a w; intro a w S)
    (refine st_y S (Yr.ys (ys_assign (Ev.t rfl))) rfl ?_; clear S a w; intro a w S)
    refine st_nil ?_
    (refine (then_normal (hK3 _ _ ?_)); clear hK3)
    refine wp_ret ?_
    refine (in_ret (then_ret (then_ret (in_ret (then_ret ?_)))))
    refine st_ret S (results1 S Try.results101 (Rv.tmp rfl)) ?_
    rotate_left
    refine wp_skip ?_
    (refine (in_normal (then_normal (hK2 _ _ ?_))); clear hK2)
    refine wp_region_lit ?_
    (refine st_y S (Yr.ys (ys_addI (Ev.t rfl) Ev.c (fun _ => by unfold I64; omega))) rfl ?_; clear S a w; intro a w S)
    (refine st_y S (Yr.ys (ys_move (Ev.t rfl))) rfl ?_; clear S a w; intro a w S)
    refine st_nil ?_
    refine (then_normal ?_)
    rotate_left
    · refine ⟨?_, S.wd.below⟩
      obtain ⟨rfl, rfl, rfl⟩ := h1
      rw [← hno, hd, idxFrom, if_pos rfl]
    · rw [hd, idxFrom, if_neg (fun e => h1 (by cases e; exact ⟨rfl, rfl, rfl⟩))] at hno
      exact ⟨k + 1, ⟨by omega, hno⟩, by omega, S.weak (by repeat (first | exact Fits.nil | refine Fits.skip rfl ?_ | refine Fits.cons rfl ?_)) (by repeat (first | exact List.Sublist.refl _ | exact List.nil_sublist _ | refine .cons_cons _ ?_ | refine .cons _ ?_))⟩
  · refine wp_seq_k fun _ hK2 => ?_
    refine wp_region_lit ?_
    (refine st_y S (Yr.ys (ys_F (by omega) (ys_lss (Ev.t rfl) (Ev.t rfl)))) rfl ?_; clear S a w; intro a w S)
    refine st_nil ?_
    (refine (then_normal (hK2 _ _ ?_)); clear hK2)
    refine wp_seq_k fun _ hK2 => ?_
    refine st_else S (Ev.t rfl) ?_
    refine wp_exit ?_
    (refine (then_exit (then_exit (in_here (then_normal (hK1 _ _ ?_))))); clear hK1)
    refine wp_seq_k fun _ hK1 => ?_
    refine wp_region_lit ?_
    (refine st_y S (Yr.ys (ys_assign Ev.c)) rfl ?_; clear S a w; intro a w S)
    refine st_nil ?_
    (refine (then_normal (hK1 _ _ ?_)); clear hK1)
    refine wp_ret ?_
    refine st_ret S (results1 S Try.results101 (Rv.tmp rfl)) ?_
    refine ⟨?_, S.wd.below⟩
    rw [← hno, List.drop_eq_nil_of_le (by omega)]; rfl
theorem c70 (w0 : World) (v1 : Value) (l : List Dot) (x y z : Int) (h : Sl Dot.enc 3 w0 w0.heap.size v1 l) :
    Calls Try.prog 70 #[v1, .agg #[.int .i64 x, .int .i64 y, .int .i64 z]] w0 fun e w' => e = .returned (.bool (decide ((⟨x, y, z⟩ : Dot) ∈ l))) ∧ Bel w0.heap.size w0 w' := by
  refine enter2 Try.func70 rfl Try.ntmps70 rfl fun a S => ?_
  refine wp_seq_k fun _ hK1 => ?_
  refine wp_region_lit ?_
  (refine st_m (op_box S (Ev.t rfl) rfl ?_); clear S a; intro g1 a w S)
  (refine st_y S (Yr.ys (ys_assign Ev.c)) rfl ?_; clear S a w; intro a w S)
  refine st_nil ?_
  (refine (then_normal (hK1 _ _ ?_)); clear hK1)
  refine wp_seq_k fun _ hK1 => ?_
  refine wp_region_lit ?_
  (refine st_y S (Yr.ys (ys_move (Ev.t rfl))) rfl ?_; clear S a w; intro a w S)
  (refine st_y S (Yr.ys (ys_ldA ⟨Try.isAgg93, Try.sizeOf93⟩ (Ev.t rfl) (k := 0) rfl rfl)) rfl ?_; clear S a w; intro a w S)
  (refine st_y S (ys_call Try.call101 (EvL.cons (Ev.t rfl) (EvL.cons (Ev.t rfl) EvL.nil)) (fun hp w W => c101 _ _ _ _ _ _ (by exact .old W (by assumption)))) rfl ?_; clear S a w; intro a w S)
  (refine st_y S (Yr.ys (ys_geq (Ev.t rfl) Ev.c)) rfl ?_; clear S a w; intro a w S)
  (refine st_y S (Yr.ys (ys_assign (Ev.t rfl))) rfl ?_; clear S a w; intro a w S)
  refine st_nil ?_
  (refine (then_normal (hK1 _ _ ?_)); clear hK1)
  refine wp_ret ?_
  refine st_ret S (results1 S Try.results70 (Rv.tmp rfl)) ?_
  refine ⟨?_, S.wd.below⟩
  rw [idx_mem]
theorem c71 (w0 : World) : Calls Try.prog 71 #[.slice none 0 0] w0 fun e w' => e = .returned (.slice none 0 0) ∧ Bel w0.heap.size w0 w' := by
  refine enter1 Try.func71 rfl Try.ntmps71 rfl fun a S => ?_
  refine wp_seq_k fun _ hK1 => ?_
  refine wp_region_lit ?_
  (refine st_y S (Yr.ys (ys_assign Ev.c)) rfl ?_; clear S a; intro a w S)
  refine st_nil ?_
  (refine (then_normal (hK1 _ _ ?_)); clear hK1)
  refine wp_seq_k fun _ hK1 => ?_
  refine wp_seq_k fun _ hK2 => ?_
  refine wp_region_lit ?_
  (refine st_y S (Yr.ys (ys_move (Ev.t rfl))) rfl ?_; clear S a w; intro a w S)
  (refine st_y S (Yr.ys (ys_sNil Try.underlying54 (Ev.t rfl) Ev.c)) rfl ?_; clear S a w; intro a w S)
  refine st_nil ?_
  (refine (then_normal (hK2 _ _ ?_)); clear hK2)
  refine st_then S (Ev.t rfl) ?_
  refine wp_seq_k fun _ hK2 => ?_
  refine wp_region_lit ?_
  (refine st_y S (Yr.ys (ys_assign Ev.c)) rfl ?_; clear S a w; intro a w S)
  refine st_nil ?_
  (refine (then_normal (hK2 _ _ ?_)); clear hK2)
  refine wp_ret ?_
  refine (then_ret ?_)
  refine st_ret S (results1 S Try.results71 (Rv.tmp rfl)) ?_
  exact ⟨rfl, S.wd.below⟩
def tickD (told : Bool) (last now : Int) : Bool := decide (now < 0) || (told && decide (IntKind.i64.wrap (now - last) < 100))
abbrev ring0 : Value := .agg #[.int .i64 0, .int .i64 0, .int .i64 0, .slice none 0 0]
abbrev msgK (gm : Nat) (s to : Int) (B : Option Addr) (n c : Nat) : Chunk := .blk gm (.cells #[.int .i64 5, .int .i64 s, .int .i64 to, .int .i64 0, .string ⟨#[]⟩, .slice none 0 0, .slice none 0 0, .slice none 0 0, .int .i64 0, .int .i64 0, .int .i64 0, .int .i64 0, .int .i64 0, .int .i64 0, .slice none 0 0, .slice B n c, .slice none 0 0] 64)
section tick
variable {w0 w : World} {L : List Chunk} {g gf cap : Nat} {A : Option Addr} {s last to now : Int} {rl : List Rum} {told : Bool} {v : Value} {l : List Int}
theorem o30 (W : Wd w0 (boxK g gf s A cap rl told last to L) w) (hs : ∀ w', Wd w0 (boxK g gf s A cap rl told last to L) w' → Sl encI 1 w' w'.heap.size v l) (hd : tickD told last now = true) :
    RetsO Try.prog 30 #[.pointer (some ⟨g, 0, none⟩), .int .i64 now, ring0, v] w0 w fun u L' => u = .slice none 0 0 ∧ L' = boxK g gf s A cap rl told last to L := by
  have rw_d : (decide (now < 0) || (told && decide (IntKind.i64.wrap (now - last) < 100))) = true := hd
  unfold Go.Fw.RetsO
  refine enterW4 W Try.func30 rfl Try.ntmps30 rfl fun a S => ?_
  refine wp_seq_k fun _ hK1 => ?_
  refine wp_region_lit ?_
  (refine st_m (op_box S (Ev.t rfl) rfl ?_); clear S a; intro g1 a w S)
  (refine st_y S (Yr.ys (ys_assign Ev.c)) rfl ?_; clear S a w; intro a w S)
  refine st_nil ?_
  (refine (then_normal (hK1 _ _ ?_)); clear hK1)
  refine wp_seq_k fun _ hK1 => ?_
  refine wp_seq_k fun _ hK2 => ?_
  refine wp_region_lit ?_
  (refine st_y S (Yr.ys (ys_move (Ev.t rfl))) rfl ?_; clear S a w; intro a w S)
  (refine st_y S (Yr.ys (ys_pNilS Try.underlying47 (Ev.t rfl) Ev.c)) rfl ?_; clear S a w; intro a w S)
  (refine st_y S (Yr.ys (ys_move (Ev.t rfl))) rfl ?_; clear S a w; intro a w S)
  (refine st_yt S rfl rfl (Yr.ys (ys_move (Ev.t rfl))) rfl ?_; clear S a w; intro a w S)
  (refine st_yt S rfl rfl (Yr.ys (ys_nilc (Ev.t rfl))) rfl ?_; clear S a w; intro a w S)
  (refine st_yt S rfl rfl (Yr.ys (ys_fieldN (FieldT.mk Try.underlying101 rfl Try.sizeOf4 rfl) (Ev.t rfl) (i' := 5) rfl)) rfl ?_; clear S a w; intro a w S)
  (refine st_yt S rfl rfl (Yr.ys (ys_ld ⟨Try.isAgg4, Try.sizeOf4⟩ (Ev.t rfl) (k := 1) rfl rfl)) rfl ?_; clear S a w; intro a w S)
  (refine st_yt S rfl rfl (Yr.ys (ys_not (Ev.t rfl))) rfl ?_; clear S a w; intro a w S)
  (refine st_y S (Yr.ys (ys_pickF (Ev.t rfl) (Ev.t rfl))) rfl ?_; clear S a w; intro a w S)
  (refine st_y S (Yr.ys (ys_move (Ev.t rfl))) rfl ?_; clear S a w; intro a w S)
  (refine st_yt S rfl rfl (Yr.ys (ys_move (Ev.t rfl))) rfl ?_; clear S a w; intro a w S)
  (refine st_yt S rfl rfl (Yr.ys (ys_lss (Ev.t rfl) Ev.c)) rfl ?_; clear S a w; intro a w S)
  (refine st_y S (Yr.ys (ys_pickF (Ev.t rfl) (Ev.t rfl))) rfl ?_; clear S a w; intro a w S)
  (refine st_y S (Yr.ys (ys_move (Ev.t rfl))) rfl ?_; clear S a w; intro a w S)
  (refine st_yf S rfl rfl (Yr.ys (ys_move (Ev.t rfl))) rfl ?_; clear S a w; intro a w S)
  (refine st_yf S rfl rfl (Yr.ys (ys_nilc (Ev.g rfl))) rfl ?_; clear S a w; intro a w S)
  (refine st_yf S rfl rfl (Yr.ys (ys_fieldN (FieldT.mk Try.underlying101 rfl Try.sizeOf4 rfl) (Ev.g rfl) (i' := 2) rfl)) rfl ?_; clear S a w; intro a w S)
  (refine st_yf S rfl rfl (Yr.ys (ys_ld ⟨Try.isAgg4, Try.sizeOf4⟩ (Ev.g rfl) (k := 1) rfl rfl)) rfl ?_; clear S a w; intro a w S)
  (refine st_yf S rfl rfl (Yr.ys (ys_move (Ev.g rfl))) rfl ?_; clear S a w; intro a w S)
  (refine st_yg2 S rfl rfl (Yr.ys (ys_move (Ev.t rfl))) rfl ?_; clear S a w; intro a w S)
  (refine st_yg2 S rfl rfl (Yr.ys (ys_move (Ev.t rfl))) rfl ?_; clear S a w; intro a w S)
  (refine st_yg2 S rfl rfl (Yr.ys (ys_nilc (Ev.g rfl))) rfl ?_; clear S a w; intro a w S)
  (refine st_yg2 S rfl rfl (Yr.ys (ys_fieldN (FieldT.mk Try.underlying101 rfl Try.sizeOf3 rfl) (Ev.g rfl) (i' := 3) rfl)) rfl ?_; clear S a w; intro a w S)
  (refine st_yg2 S rfl rfl (Yr.ys (ys_ld ⟨Try.isAgg3, Try.sizeOf3⟩ (Ev.g rfl) (k := 1) rfl rfl)) rfl ?_; clear S a w; intro a w S)
  (refine st_yg2 S rfl rfl (Yr.ys (ys_sub (Ev.g rfl) (Ev.g rfl))) rfl ?_; clear S a w; intro a w S)
  (refine st_yg2 S rfl rfl (Yr.ys (ys_lss (Ev.g rfl) Ev.c)) rfl ?_; clear S a w; intro a w S)
  (refine st_yf S rfl rfl (Yr.ys (ys_and2 (Ev.g rfl) (Ev.g rfl) Ev.c)) rfl ?_; clear S a w; intro a w S)
  (refine st_y S (Yr.ys (ys_or (Ev.t rfl) Ev.c (Ev.g rfl))) rfl ?_; clear S a w; intro a w S)
  rw [rw_d] at S
  refine st_nil ?_
  (refine (then_normal (hK2 _ _ ?_)); clear hK2)
  refine st_then S (Ev.t rfl) ?_
  refine wp_seq_k fun _ hK2 => ?_
  refine wp_region_lit ?_
  (refine st_y S (Yr.ys (ys_assign Ev.c)) rfl ?_; clear S a w; intro a w S)
  refine st_nil ?_
  (refine (then_normal (hK2 _ _ ?_)); clear hK2)
  refine wp_ret ?_
  refine (then_ret ?_)
  refine st_ret S (results1 S Try.results30 (Rv.tmp rfl)) ?_
  exact ⟨_, _, rfl, S.wd.picks (by repeat (first | exact Picks.nil | (refine Picks.rest ?_; (repeat (first | exact List.Sublist.refl _ | refine List.Sublist.cons_cons _ ?_ | refine List.Sublist.cons _ ?_)); done) | refine Picks.take 0 rfl ?_ | refine Picks.take 1 rfl ?_ | refine Picks.take 2 rfl ?_ | refine Picks.take 3 rfl ?_ | refine Picks.take 4 rfl ?_ | refine Picks.take 5 rfl ?_ | refine Picks.take 6 rfl ?_ | refine Picks.take 7 rfl ?_ | refine Picks.take 8 rfl ?_ | refine Picks.take 9 rfl ?_ | refine Picks.take 10 rfl ?_ | refine Picks.take 11 rfl ?_)), rfl, rfl⟩
theorem p30 (W : Wd w0 (boxK g gf s A cap rl told last to L) w) (hs : ∀ w', Wd w0 (boxK g gf s A cap rl told last to L) w' → Sl encI 1 w' w'.heap.size v l) (hd : tickD told last now = false) (hn : (nextL s told to l).2 = false) :
    RetsO Try.prog 30 #[.pointer (some ⟨g, 0, none⟩), .int .i64 now, ring0, v] w0 w fun u L' => u = .slice none 0 0 ∧ L' = boxK g gf s A cap rl told last to L := by
  have rw_d : (decide (now < 0) || (told && decide (IntKind.i64.wrap (now - last) < 100))) = false := hd
  have rw_n := hn
  unfold Go.Fw.RetsO
  refine enterW4 W Try.func30 rfl Try.ntmps30 rfl fun a S => ?_
  refine wp_seq_k fun _ hK1 => ?_
  refine wp_region_lit ?_
  (refine st_m (op_box S (Ev.t rfl) rfl ?_); clear S a; intro g1 a w S)
  (refine st_y S (Yr.ys (ys_assign Ev.c)) rfl ?_; clear S a w; intro a w S)
  refine st_nil ?_
  (refine (then_normal (hK1 _ _ ?_)); clear hK1)
  refine wp_seq_k fun _ hK1 => ?_
  refine wp_seq_k fun _ hK2 => ?_
  refine wp_region_lit ?_
  (refine st_y S (Yr.ys (ys_move (Ev.t rfl))) rfl ?_; clear S a w; intro a w S)
  (refine st_y S (Yr.ys (ys_pNilS Try.underlying47 (Ev.t rfl) Ev.c)) rfl ?_; clear S a w; intro a w S)
  (refine st_y S (Yr.ys (ys_move (Ev.t rfl))) rfl ?_; clear S a w; intro a w S)
  (refine st_yt S rfl rfl (Yr.ys (ys_move (Ev.t rfl))) rfl ?_; clear S a w; intro a w S)
  (refine st_yt S rfl rfl (Yr.ys (ys_nilc (Ev.t rfl))) rfl ?_; clear S a w; intro a w S)
  (refine st_yt S rfl rfl (Yr.ys (ys_fieldN (FieldT.mk Try.underlying101 rfl Try.sizeOf4 rfl) (Ev.t rfl) (i' := 5) rfl)) rfl ?_; clear S a w; intro a w S)
  (refine st_yt S rfl rfl (Yr.ys (ys_ld ⟨Try.isAgg4, Try.sizeOf4⟩ (Ev.t rfl) (k := 1) rfl rfl)) rfl ?_; clear S a w; intro a w S)
  (refine st_yt S rfl rfl (Yr.ys (ys_not (Ev.t rfl))) rfl ?_; clear S a w; intro a w S)
  (refine st_y S (Yr.ys (ys_pickF (Ev.t rfl) (Ev.t rfl))) rfl ?_; clear S a w; intro a w S)
  (refine st_y S (Yr.ys (ys_move (Ev.t rfl))) rfl ?_; clear S a w; intro a w S)
  (refine st_yt S rfl rfl (Yr.ys (ys_move (Ev.t rfl))) rfl ?_; clear S a w; intro a w S)
  (refine st_yt S rfl rfl (Yr.ys (ys_lss (Ev.t rfl) Ev.c)) rfl ?_; clear S a w; intro a w S)
  (refine st_y S (Yr.ys (ys_pickF (Ev.t rfl) (Ev.t rfl))) rfl ?_; clear S a w; intro a w S)
  (refine st_y S (Yr.ys (ys_move (Ev.t rfl))) rfl ?_; clear S a w; intro a w S)
  (refine st_yf S rfl rfl (Yr.ys (ys_move (Ev.t rfl))) rfl ?_; clear S a w; intro a w S)
  (refine st_yf S rfl rfl (Yr.ys (ys_nilc (Ev.g rfl))) rfl ?_; clear S a w; intro a w S)
  (refine st_yf S rfl rfl (Yr.ys (ys_fieldN (FieldT.mk Try.underlying101 rfl Try.sizeOf4 rfl) (Ev.g rfl) (i' := 2) rfl)) rfl ?_; clear S a w; intro a w S)
  (refine st_yf S rfl rfl (Yr.ys (ys_ld ⟨Try.isAgg4, Try.sizeOf4⟩ (Ev.g rfl) (k := 1) rfl rfl)) rfl ?_; clear S a w; intro a w S)
  (refine st_yf S rfl rfl (Yr.ys (ys_move (Ev.g rfl))) rfl ?_; clear S a w; intro a w S)
  (refine st_yg2 S rfl rfl (Yr.ys (ys_move (Ev.t rfl))) rfl ?_; clear S a w; intro a w S)
  (refine st_yg2 S rfl rfl (Yr.ys (ys_move (Ev.t rfl))) rfl ?_; clear S a w; intro a w S)
  (refine st_yg2 S rfl rfl (Yr.ys (ys_nilc (Ev.g rfl))) rfl ?_; clear S a w; intro a w S)
  (refine st_yg2 S rfl rfl (Yr.ys (ys_fieldN (FieldT.mk Try.underlying101 rfl Try.sizeOf3 rfl) (Ev.g rfl) (i' := 3) rfl)) rfl ?_; clear S a w; intro a w S)
  (refine st_yg2 S rfl rfl (Yr.ys (ys_ld ⟨Try.isAgg3, Try.sizeOf3⟩ (Ev.g rfl) (k := 1) rfl rfl)) rfl ?_; clear S a w; intro a w S)
  (refine st_yg2 S rfl rfl (Yr.ys (ys_sub (Ev.g rfl) (Ev.g rfl))) rfl ?_; clear S a w; intro a w S)
  (refine st_yg2 S rfl rfl (Yr.ys (ys_lss (Ev.g rfl) Ev.c)) rfl ?_; clear S a w; intro a w S)
  (refine st_yf S rfl rfl (Yr.ys (ys_and2 (Ev.g rfl) (Ev.g rfl) Ev.c)) rfl ?_; clear S a w; intro a w S)
  (refine st_y S (Yr.ys (ys_or (Ev.t rfl) Ev.c (Ev.g rfl))) rfl ?_; clear S a w; intro a w S)
  rw [rw_d] at S
  refine st_nil ?_
  (refine (then_normal (hK2 _ _ ?_)); clear hK2)
  refine st_else S (Ev.t rfl) ?_
  refine wp_skip ?_
  (refine (then_normal (hK1 _ _ ?_)); clear hK1)
  refine wp_seq_k fun _ hK1 => ?_
  refine wp_region_lit ?_
  (refine st_y S (Yr.ys (ys_move (Ev.t rfl))) rfl ?_; clear S a w; intro a w S)
  (refine st_y S (Yr.ys (ys_move (Ev.t rfl))) rfl ?_; clear S a w; intro a w S)
  refine st_y S (ys_call Try.call69 (EvL.cons (Ev.t rfl) (EvL.cons (Ev.t rfl) EvL.nil)) (fun hp w W => c69 w g gf s to told v l (Wd.cell W (k := 1) rfl rfl) (Wd.cell W (k := 1) rfl rfl) (Wd.cell W (k := 1) rfl rfl) (Wd.cell W (k := 1) rfl rfl) (Wd.cell W (k := 2) rfl rfl) (hs w (W.picks (by repeat (first | exact Picks.nil | (refine Picks.rest ?_; (repeat (first | exact List.Sublist.refl _ | refine List.Sublist.cons_cons _ ?_ | refine List.Sublist.cons _ ?_)); done) | refine Picks.take 0 rfl ?_ | refine Picks.take 1 rfl ?_ | refine Picks.take 2 rfl ?_ | refine Picks.take 3 rfl ?_ | refine Picks.take 4 rfl ?_ | refine Picks.take 5 rfl ?_ | refine Picks.take 6 rfl ?_ | refine Picks.take 7 rfl ?_ | refine Picks.take 8 rfl ?_ | refine Picks.take 9 rfl ?_ | refine Picks.take 10 rfl ?_ | refine Picks.take 11 rfl ?_)))))) rfl ?_
  clear S a w
  intro a w S
  rw [rw_n] at S
  (refine st_y S (Yr.ys (ys_move (Ev.t rfl))) rfl ?_; clear S a w; intro a w S)
  (refine st_y S (Yr.ys (ys_ext (Ev.t rfl) rfl)) rfl ?_; clear S a w; intro a w S)
  (refine st_y S (Yr.ys (ys_ext (Ev.t rfl) rfl)) rfl ?_; clear S a w; intro a w S)
  (refine st_y S (Yr.ys (ys_assign (Ev.t rfl))) rfl ?_; clear S a w; intro a w S)
  (refine st_y S (Yr.ys (ys_assign (Ev.t rfl))) rfl ?_; clear S a w; intro a w S)
  refine st_nil ?_
  (refine (then_normal (hK1 _ _ ?_)); clear hK1)
  refine wp_seq_k fun _ hK1 => ?_
  refine wp_seq_k fun _ hK2 => ?_
  refine wp_region_lit ?_
  (refine st_y S (Yr.ys (ys_move (Ev.t rfl))) rfl ?_; clear S a w; intro a w S)
  (refine st_y S (Yr.ys (ys_not (Ev.t rfl))) rfl ?_; clear S a w; intro a w S)
  refine st_nil ?_
  (refine (then_normal (hK2 _ _ ?_)); clear hK2)
  refine st_then S (Ev.t rfl) ?_
  refine wp_seq_k fun _ hK2 => ?_
  refine wp_region_lit ?_
  (refine st_y S (Yr.ys (ys_assign Ev.c)) rfl ?_; clear S a w; intro a w S)
  refine st_nil ?_
  (refine (then_normal (hK2 _ _ ?_)); clear hK2)
  refine wp_ret ?_
  refine (then_ret ?_)
  refine st_ret S (results1 S Try.results30 (Rv.tmp rfl)) ?_
  exact ⟨_, _, rfl, S.wd.picks (by repeat (first | exact Picks.nil | (refine Picks.rest ?_; (repeat (first | exact List.Sublist.refl _ | refine List.Sublist.cons_cons _ ?_ | refine List.Sublist.cons _ ?_)); done) | refine Picks.take 0 rfl ?_ | refine Picks.take 1 rfl ?_ | refine Picks.take 2 rfl ?_ | refine Picks.take 3 rfl ?_ | refine Picks.take 4 rfl ?_ | refine Picks.take 5 rfl ?_ | refine Picks.take 6 rfl ?_ | refine Picks.take 7 rfl ?_ | refine Picks.take 8 rfl ?_ | refine Picks.take 9 rfl ?_ | refine Picks.take 10 rfl ?_ | refine Picks.take 11 rfl ?_)), rfl, rfl⟩
theorem _root_.List.set_getElem_self_of {α : Type} {l : List α} {k : Nat} {x : α} (h : l[k]? = some x) : l.set k x = l := by
  obtain ⟨h1, rfl⟩ := List.getElem?_eq_some_iff.1 h
  exact List.set_getElem_self h1
theorem bump_set {t : List Dot} {l : List Rum} {k : Nat} {x : Rum} (h : l[k]? = some x) : ((l.take k).map (bumpR t) ++ l.drop k).set k (bumpR t x) = (l.take (k + 1)).map (bumpR t) ++ l.drop (k + 1) := by
  have hk : k < l.length := (List.getElem?_eq_some_iff.1 h).1
  rw [List.take_add_one, h, List.set_append_right _ _ (by simp; omega)]
  obtain ⟨_, rfl⟩ := List.getElem?_eq_some_iff.1 h
  rw [List.length_map, List.length_take, Nat.min_eq_left (Nat.le_of_lt hk), Nat.sub_self, List.drop_eq_getElem_cons hk, List.set_cons_zero, List.map_append, List.append_assoc]
  rfl
theorem bump_at {t : List Dot} {l : List Rum} {k : Nat} {x : Rum} (h : l[k]? = some x) : ((l.take k).map (bumpR t) ++ l.drop k)[k]? = some x := by
  have hk : k < l.length := (List.getElem?_eq_some_iff.1 h).1
  rw [List.getElem?_append_right (by simp; omega)]
  simp [Nat.min_eq_left (Nat.le_of_lt hk), h]
theorem c30 (W : Wd w0 (boxK g gf s A cap rl told last to L) w) (hs : ∀ w', Wd w0 (boxK g gf s A cap rl told last to L) w' → Sl encI 1 w' w'.heap.size v l) (hd : tickD told last now = false) (hn : (nextL s told to l).2 = true) (hr : rl.length ≤ 8) (hb : ∀ x ∈ rl, 0 ≤ x.sent ∧ x.sent ≤ 1000) :
    RetsO Try.prog 30 #[.pointer (some ⟨g, 0, none⟩), .int .i64 now, ring0, v] w0 w fun u L' => ∃ gm B c, u = .slice (some ⟨gm, 0, none⟩) 1 1 ∧
      L' = boxK g gf s A cap (rl.map (bumpR (topR rl))) true now (nextL s told to l).1 (msgK gm s (nextL s told to l).1 B (topR rl).length c :: rowOf 93 3 Dot.enc B c (topR rl) :: L) := by
  have rw_d : (decide (now < 0) || (told && decide (IntKind.i64.wrap (now - last) < 100))) = false := hd
  have rw_n := hn
  unfold Go.Fw.RetsO
  refine enterW4 W Try.func30 rfl Try.ntmps30 rfl fun a S => ?_
  refine wp_seq_k fun _ hK1 => ?_
  refine wp_region_lit ?_
  (refine st_m (op_box S (Ev.t rfl) rfl ?_); clear S a; intro g1 a w S)
  (refine st_y S (Yr.ys (ys_assign Ev.c)) rfl ?_; clear S a w; intro a w S)
  refine st_nil ?_
  (refine (then_normal (hK1 _ _ ?_)); clear hK1)
  refine wp_seq_k fun _ hK1 => ?_
  refine wp_seq_k fun _ hK2 => ?_
  refine wp_region_lit ?_
  (refine st_y S (Yr.ys (ys_move (Ev.t rfl))) rfl ?_; clear S a w; intro a w S)
  (refine st_y S (Yr.ys (ys_pNilS Try.underlying47 (Ev.t rfl) Ev.c)) rfl ?_; clear S a w; intro a w S)
  (refine st_y S (Yr.ys (ys_move (Ev.t rfl))) rfl ?_; clear S a w; intro a w S)
  (refine st_yt S rfl rfl (Yr.ys (ys_move (Ev.t rfl))) rfl ?_; clear S a w; intro a w S)
  (refine st_yt S rfl rfl (Yr.ys (ys_nilc (Ev.t rfl))) rfl ?_; clear S a w; intro a w S)
  (refine st_yt S rfl rfl (Yr.ys (ys_fieldN (FieldT.mk Try.underlying101 rfl Try.sizeOf4 rfl) (Ev.t rfl) (i' := 5) rfl)) rfl ?_; clear S a w; intro a w S)
  (refine st_yt S rfl rfl (Yr.ys (ys_ld ⟨Try.isAgg4, Try.sizeOf4⟩ (Ev.t rfl) (k := 1) rfl rfl)) rfl ?_; clear S a w; intro a w S)
  (refine st_yt S rfl rfl (Yr.ys (ys_not (Ev.t rfl))) rfl ?_; clear S a w; intro a w S)
  (refine st_y S (Yr.ys (ys_pickF (Ev.t rfl) (Ev.t rfl))) rfl ?_; clear S a w; intro a w S)
  (refine st_y S (Yr.ys (ys_move (Ev.t rfl))) rfl ?_; clear S a w; intro a w S)
  (refine st_yt S rfl rfl (Yr.ys (ys_move (Ev.t rfl))) rfl ?_; clear S a w; intro a w S)
  (refine st_yt S rfl rfl (Yr.ys (ys_lss (Ev.t rfl) Ev.c)) rfl ?_; clear S a w; intro a w S)
  (refine st_y S (Yr.ys (ys_pickF (Ev.t rfl) (Ev.t rfl))) rfl ?_; clear S a w; intro a w S)
  (refine st_y S (Yr.ys (ys_move (Ev.t rfl))) rfl ?_; clear S a w; intro a w S)
  (refine st_yf S rfl rfl (Yr.ys (ys_move (Ev.t rfl))) rfl ?_; clear S a w; intro a w S)
  (refine st_yf S rfl rfl (Yr.ys (ys_nilc (Ev.g rfl))) rfl ?_; clear S a w; intro a w S)
  (refine st_yf S rfl rfl (Yr.ys (ys_fieldN (FieldT.mk Try.underlying101 rfl Try.sizeOf4 rfl) (Ev.g rfl) (i' := 2) rfl)) rfl ?_; clear S a w; intro a w S)
  (refine st_yf S rfl rfl (Yr.ys (ys_ld ⟨Try.isAgg4, Try.sizeOf4⟩ (Ev.g rfl) (k := 1) rfl rfl)) rfl ?_; clear S a w; intro a w S)
  (refine st_yf S rfl rfl (Yr.ys (ys_move (Ev.g rfl))) rfl ?_; clear S a w; intro a w S)
  (refine st_yg2 S rfl rfl (Yr.ys (ys_move (Ev.t rfl))) rfl ?_; clear S a w; intro a w S)
  (refine st_yg2 S rfl rfl (Yr.ys (ys_move (Ev.t rfl))) rfl ?_; clear S a w; intro a w S)
  (refine st_yg2 S rfl rfl (Yr.ys (ys_nilc (Ev.g rfl))) rfl ?_; clear S a w; intro a w S)
  (refine st_yg2 S rfl rfl (Yr.ys (ys_fieldN (FieldT.mk Try.underlying101 rfl Try.sizeOf3 rfl) (Ev.g rfl) (i' := 3) rfl)) rfl ?_; clear S a w; intro a w S)
  (refine st_yg2 S rfl rfl (Yr.ys (ys_ld ⟨Try.isAgg3, Try.sizeOf3⟩ (Ev.g rfl) (k := 1) rfl rfl)) rfl ?_; clear S a w; intro a w S)
  (refine st_yg2 S rfl rfl (Yr.ys (ys_sub (Ev.g rfl) (Ev.g rfl))) rfl ?_; clear S a w; intro a w S)
  (refine st_yg2 S rfl rfl (Yr.ys (ys_lss (Ev.g rfl) Ev.c)) rfl ?_; clear S a w; intro a w S)
  (refine st_yf S rfl rfl (Yr.ys (ys_and2 (Ev.g rfl) (Ev.g rfl) Ev.c)) rfl ?_; clear S a w; intro a w S)
  (refine st_y S (Yr.ys (ys_or (Ev.t rfl) Ev.c (Ev.g rfl))) rfl ?_; clear S a w; intro a w S)
  rw [rw_d] at S
  refine st_nil ?_
  (refine (then_normal (hK2 _ _ ?_)); clear hK2)
  refine st_else S (Ev.t rfl) ?_
  refine wp_skip ?_
  (refine (then_normal (hK1 _ _ ?_)); clear hK1)
  refine wp_seq_k fun _ hK1 => ?_
  refine wp_region_lit ?_
  (refine st_y S (Yr.ys (ys_move (Ev.t rfl))) rfl ?_; clear S a w; intro a w S)
  (refine st_y S (Yr.ys (ys_move (Ev.t rfl))) rfl ?_; clear S a w; intro a w S)
  refine st_y S (ys_call Try.call69 (EvL.cons (Ev.t rfl) (EvL.cons (Ev.t rfl) EvL.nil)) (fun hp w W => c69 w g gf s to told v l (Wd.cell W (k := 1) rfl rfl) (Wd.cell W (k := 1) rfl rfl) (Wd.cell W (k := 1) rfl rfl) (Wd.cell W (k := 1) rfl rfl) (Wd.cell W (k := 2) rfl rfl) (hs w (W.picks (by repeat (first | exact Picks.nil | (refine Picks.rest ?_; (repeat (first | exact List.Sublist.refl _ | refine List.Sublist.cons_cons _ ?_ | refine List.Sublist.cons _ ?_)); done) | refine Picks.take 0 rfl ?_ | refine Picks.take 1 rfl ?_ | refine Picks.take 2 rfl ?_ | refine Picks.take 3 rfl ?_ | refine Picks.take 4 rfl ?_ | refine Picks.take 5 rfl ?_ | refine Picks.take 6 rfl ?_ | refine Picks.take 7 rfl ?_ | refine Picks.take 8 rfl ?_ | refine Picks.take 9 rfl ?_ | refine Picks.take 10 rfl ?_ | refine Picks.take 11 rfl ?_)))))) rfl ?_
  clear S a w
  intro a w S
  rw [rw_n] at S
  have rw_m : min ((rumL rl).length : Int) 4 = ((topR rl).length : Int) := by unfold topR; rw [List.length_take]; omega
  have htl : (topR rl).length ≤ (rumL rl).length := by unfold topR; rw [List.length_take]; omega
  (refine st_y S (Yr.ys (ys_move (Ev.t rfl))) rfl ?_; clear S a w; intro a w S)
  (refine st_y S (Yr.ys (ys_ext (Ev.t rfl) rfl)) rfl ?_; clear S a w; intro a w S)
  (refine st_y S (Yr.ys (ys_ext (Ev.t rfl) rfl)) rfl ?_; clear S a w; intro a w S)
  (refine st_y S (Yr.ys (ys_assign (Ev.t rfl))) rfl ?_; clear S a w; intro a w S)
  (refine st_y S (Yr.ys (ys_assign (Ev.t rfl))) rfl ?_; clear S a w; intro a w S)
  refine st_nil ?_
  (refine (then_normal (hK1 _ _ ?_)); clear hK1)
  refine wp_seq_k fun _ hK1 => ?_
  refine wp_seq_k fun _ hK2 => ?_
  refine wp_region_lit ?_
  (refine st_y S (Yr.ys (ys_move (Ev.t rfl))) rfl ?_; clear S a w; intro a w S)
  (refine st_y S (Yr.ys (ys_not (Ev.t rfl))) rfl ?_; clear S a w; intro a w S)
  refine st_nil ?_
  (refine (then_normal (hK2 _ _ ?_)); clear hK2)
  refine st_else S (Ev.t rfl) ?_
  refine wp_skip ?_
  (refine (then_normal (hK1 _ _ ?_)); clear hK1)
  refine wp_seq_k fun _ hK1 => ?_
  refine wp_region_lit ?_
  (refine st_y S (Yr.ys (ys_move (Ev.t rfl))) rfl ?_; clear S a w; intro a w S)
  (refine st_y S (Yr.ys (ys_move (Ev.t rfl))) rfl ?_; clear S a w; intro a w S)
  (refine st_y S (Yr.ys (ys_move (Ev.t rfl))) rfl ?_; clear S a w; intro a w S)
  (refine st_y S (Yr.ys (ys_move (Ev.t rfl))) rfl ?_; clear S a w; intro a w S)
  (refine st_y S (Yr.ys (ys_move (Ev.t rfl))) rfl ?_; clear S a w; intro a w S)
  (refine st_y S (Yr.ys (ys_nilc (Ev.t rfl))) rfl ?_; clear S a w; intro a w S)
  (refine st_y S (Yr.ys (ys_fieldN (FieldT.mk Try.underlying101 rfl Try.sizeOf4 rfl) (Ev.t rfl) (i' := 2) rfl)) rfl ?_; clear S a w; intro a w S)
  (refine st_m (op_st S Try.sizeOf4 (Ev.t rfl) Ev.c (k := 1) rfl rfl (by simp) ?_); clear S a w; intro a w S)
  (refine st_y S (Yr.ys (ys_nilc (Ev.t rfl))) rfl ?_; clear S a w; intro a w S)
  (refine st_y S (Yr.ys (ys_fieldN (FieldT.mk Try.underlying101 rfl Try.sizeOf3 rfl) (Ev.t rfl) (i' := 3) rfl)) rfl ?_; clear S a w; intro a w S)
  (refine st_m (op_st S Try.sizeOf3 (Ev.t rfl) (Ev.t rfl) (k := 1) rfl rfl (by simp) ?_); clear S a w; intro a w S)
  (refine st_y S (Yr.ys (ys_nilc (Ev.t rfl))) rfl ?_; clear S a w; intro a w S)
  (refine st_y S (Yr.ys (ys_fieldN (FieldT.mk Try.underlying101 rfl Try.sizeOf3 rfl) (Ev.t rfl) (i' := 4) rfl)) rfl ?_; clear S a w; intro a w S)
  (refine st_m (op_st S Try.sizeOf3 (Ev.t rfl) (Ev.t rfl) (k := 1) rfl rfl (by simp) ?_); clear S a w; intro a w S)
  refine st_nil ?_
  (refine (then_normal (hK1 _ _ ?_)); clear hK1)
  refine wp_seq_k fun _ hK1 => ?_
  refine wp_region_lit ?_
  (refine st_y S (Yr.ys (ys_move (Ev.t rfl))) rfl ?_; clear S a w; intro a w S)
  (replace S := S.pull 3 rfl; try simp only [List.set_cons_zero, List.set_cons_succ, List.eraseIdx_cons_succ, List.eraseIdx_cons_zero] at S; replace S := S.pull 3 rfl; try simp only [List.set_cons_zero, List.set_cons_succ, List.eraseIdx_cons_succ, List.eraseIdx_cons_zero] at S; replace S := S.pull 3 rfl; try simp only [List.set_cons_zero, List.set_cons_succ, List.eraseIdx_cons_succ, List.eraseIdx_cons_zero] at S; refine st_m (op_callO S Try.call50 (EvL.cons (Ev.t rfl) EvL.nil) (c50 S.wd (by first | assumption | omega | exact Sl.nil_ | exact .old S.wd (by assumption) | exact Sl.of_own S.wd (k := 0) rfl (fun _ => rfl) | exact Sl.of_own S.wd (k := 1) rfl (fun _ => rfl) | exact Sl.of_own S.wd (k := 2) rfl (fun _ => rfl) | exact Sl.of_own S.wd (k := 3) rfl (fun _ => rfl) | (simp at *; omega))) rfl ?_) <;> clear S a w)
  rintro _ _ ⟨B1, c1, rfl, rfl⟩ a w S
  (refine st_y S (Yr.ys (ys_assign (Ev.t rfl))) rfl ?_; clear S a w; intro a w S)
  refine st_nil ?_
  (refine (then_normal (hK1 _ _ ?_)); clear hK1)
  refine wp_seq_k fun _ hK1 => ?_
  refine wp_region_lit ?_
  (refine st_y S (Yr.ys (ys_move (Ev.t rfl))) rfl ?_; clear S a w; intro a w S)
  (refine st_y S (Yr.ys (ys_move (Ev.t rfl))) rfl ?_; clear S a w; intro a w S)
  (refine st_y S (Yr.ys (ys_lenS Try.underlying61 (Ev.t rfl))) rfl ?_; clear S a w; intro a w S)
  (refine st_y S (Yr.ys (ys_min (Ev.t rfl) Ev.c)) rfl ?_; clear S a w; intro a w S)
  rw [rw_m] at S
  have hcap := (S.wd.room (k := 3) rfl).1
  replace S := S.cut (k := 3) (enc := Dot.enc) (l := rumL rl) (fun _ => rfl) rfl 4
  (refine st_y S (Yr.ys (ys_slHi Try.underlying61 Try.sizeOf93 (Ev.t rfl) (Ev.t rfl) (fun _ => by first | omega | (simp; done) | (simp; omega)))) rfl ?_; clear S a w; intro a w S)
  (refine st_y S (Yr.ys (ys_assign (Ev.t rfl))) rfl ?_; clear S a w; intro a w S)
  refine st_nil ?_
  (refine (then_normal (hK1 _ _ ?_)); clear hK1)
  refine wp_seq_k fun _ hK1 => ?_
  refine wp_seq_k fun _ hK2 => ?_
  refine wp_region_lit ?_
  (refine st_y S (Yr.ys (ys_move (Ev.t rfl))) rfl ?_; clear S a w; intro a w S)
  (refine st_y S (Yr.ys (ys_nilc (Ev.t rfl))) rfl ?_; clear S a w; intro a w S)
  (refine st_y S (Yr.ys (ys_fieldN (FieldT.mk Try.underlying101 rfl Try.sizeOf98 rfl) (Ev.t rfl) (i' := 1) rfl)) rfl ?_; clear S a w; intro a w S)
  (refine st_y S (Yr.ys (ys_ld ⟨Try.isAgg98, Try.sizeOf98⟩ (Ev.t rfl) (k := 0) rfl rfl)) rfl ?_; clear S a w; intro a w S)
  (refine st_y S (Yr.ys (ys_lenS Try.underlying98 (Ev.t rfl))) rfl ?_; clear S a w; intro a w S)
  (refine st_y S (Yr.ys (ys_move Ev.c)) rfl ?_; clear S a w; intro a w S)
  refine st_nil ?_
  (refine (then_normal (hK2 _ _ ?_)); clear hK2)
  refine wp_block ?_
  refine st_loopM S [72] (X := Nat) (fun k => [(72, true, .int .i64 (k : Int))])
    (fun k => .blk g (.cells #[.int .i64 s, .slice A rl.length cap, .bool true, .int .i64 now, .int .i64 (nextL s told to l).1, .bool true, .func (.func 68) #[] #[.pointer (some ⟨gf, 0, none⟩)]] 101) ::
      .blk gf (.cells #[.pointer (some ⟨g, 0, none⟩)] 47) :: rowOf 125 4 Rum.enc A cap ((rl.take k).map (bumpR (topR rl)) ++ rl.drop k) :: rowOf 93 3 Dot.enc B1 c1 (topR rl) :: .blk g1 (.cells #[.int .i64 0, .int .i64 0, .int .i64 0, .slice none 0 0] 56) :: L)
    (fun k => k ≤ rl.length) (fun k => rl.length - k) 0 (Nat.zero_le _) (by repeat (first | exact Fits.nil | refine Fits.skip rfl ?_ | refine Fits.cons rfl ?_)) (by repeat (first | exact Picks.nil | (refine Picks.rest ?_; (repeat (first | exact List.Sublist.refl _ | refine List.Sublist.cons_cons _ ?_ | refine List.Sublist.cons _ ?_)); done) | refine Picks.take 0 rfl ?_ | refine Picks.take 1 rfl ?_ | refine Picks.take 2 rfl ?_ | refine Picks.take 3 rfl ?_ | refine Picks.take 4 rfl ?_ | refine Picks.take 5 rfl ?_ | refine Picks.take 6 rfl ?_ | refine Picks.take 7 rfl ?_ | refine Picks.take 8 rfl ?_ | refine Picks.take 9 rfl ?_ | refine Picks.take 10 rfl ?_ | refine Picks.take 11 rfl ?_)) ?_
  clear S
  intro k a w hk S
  by_cases hlt : k < rl.length
  · obtain ⟨ga, rfl⟩ := S.wd.row_at (k := 2) rfl (by have := (S.wd.room (k := 2) rfl).1; simp at this; omega)
    obtain ⟨x, hx⟩ : ∃ x, rl[k]? = some x := ⟨rl[k], by simp⟩
    have hxx := bump_at (t := topR rl) hx
    have hsent := hb x (List.mem_of_getElem? hx)
    have hbs := bump_set (t := topR rl) hx
    by_cases hin : x.p ∈ topR rl
    · have rw_i : decide ((⟨x.p.node, x.p.life, x.p.count⟩ : Dot) ∈ topR rl) = true := decide_eq_true hin
      have hbx : bumpR (topR rl) x = ⟨x.p, x.sent + 1⟩ := by unfold bumpR; rw [if_pos hin]
      refine wp_seq_k fun _ hK2 => ?_
      refine wp_region_lit ?_
      (refine st_y S (Yr.ys (ys_T (by omega) (ys_lss (Ev.t rfl) (Ev.t rfl)))) rfl ?_; clear S a w; intro a w S)
      refine st_nil ?_
      (refine (then_normal (hK2 _ _ ?_)); clear hK2)
      refine wp_seq_k fun _ hK2 => ?_
      refine st_then S (Ev.t rfl) ?_
      refine wp_skip ?_
      (refine (then_normal (hK2 _ _ ?_)); clear hK2)
      refine wp_seq_k fun _ hK2 => ?_
      refine wp_block ?_
      refine wp_seq_k fun _ hK3 => ?_
      refine wp_region_lit ?_
      (refine st_y S (Yr.ys (ys_move (Ev.t rfl))) rfl ?_; clear S a w; intro a w S)
      (refine st_y S (Yr.ys (ys_assign (Ev.t rfl))) rfl ?_; clear S a w; intro a w S)
      refine st_nil ?_
      (refine (then_normal (hK3 _ _ ?_)); clear hK3)
      refine wp_seq_k fun _ hK3 => ?_
      refine wp_region_lit ?_
      (refine st_y S (Yr.ys (ys_move (Ev.t rfl))) rfl ?_; clear S a w; intro a w S)
      (refine st_y S (Yr.ys (ys_move (Ev.t rfl))) rfl ?_; clear S a w; intro a w S)
      (refine st_y S (Yr.ys (ys_nilc (Ev.t rfl))) rfl ?_; clear S a w; intro a w S)
      (refine st_y S (Yr.ys (ys_fieldN (FieldT.mk Try.underlying101 rfl Try.sizeOf98 rfl) (Ev.t rfl) (i' := 1) rfl)) rfl ?_; clear S a w; intro a w S)
      (refine st_y S (Yr.ys (ys_ld ⟨Try.isAgg98, Try.sizeOf98⟩ (Ev.t rfl) (k := 0) rfl rfl)) rfl ?_; clear S a w; intro a w S)
      (refine st_y S (Yr.ys (ys_move (Ev.t rfl))) rfl ?_; clear S a w; intro a w S)
      (refine st_y S (Yr.ys (ys_ixS Try.underlying98 Try.sizeOf125 (Ev.t rfl) (Ev.t rfl) (fun _ => by omega))) rfl ?_; clear S a w; intro a w S)
      (refine st_y S (Yr.ys (ys_field (FieldT.mk Try.underlying125 rfl Try.sizeOf93 rfl) (Ev.t rfl))) rfl ?_; clear S a w; intro a w S)
      (refine st_y S (Yr.ys (ys_ldWS ⟨Try.isAgg93, Try.sizeOf93⟩ (Ev.t rfl) (vs := [_, _, _]) (k := 2) rfl hxx (fun _ => rfl) rfl)) rfl ?_; clear S a w; intro a w S)
      (refine st_y S (ys_call Try.call70 (EvL.cons (Ev.t rfl) (EvL.cons (Ev.t rfl) EvL.nil)) (fun hp w W => c70 _ _ _ _ _ _ (by exact Sl.of_own W (k := 3) rfl (fun _ => rfl)))) rfl ?_; clear S a w; intro a w S)
      rw [rw_i] at S
      refine st_nil ?_
      (refine (then_normal (hK3 _ _ ?_)); clear hK3)
      refine st_then S (Ev.t rfl) ?_
      refine wp_region_lit ?_
      (refine st_y S (Yr.ys (ys_move (Ev.t rfl))) rfl ?_; clear S a w; intro a w S)
      (refine st_y S (Yr.ys (ys_nilc (Ev.t rfl))) rfl ?_; clear S a w; intro a w S)
      (refine st_y S (Yr.ys (ys_fieldN (FieldT.mk Try.underlying101 rfl Try.sizeOf98 rfl) (Ev.t rfl) (i' := 1) rfl)) rfl ?_; clear S a w; intro a w S)
      (refine st_y S (Yr.ys (ys_ld ⟨Try.isAgg98, Try.sizeOf98⟩ (Ev.t rfl) (k := 0) rfl rfl)) rfl ?_; clear S a w; intro a w S)
      (refine st_y S (Yr.ys (ys_move (Ev.t rfl))) rfl ?_; clear S a w; intro a w S)
      (refine st_y S (Yr.ys (ys_ixS Try.underlying98 Try.sizeOf125 (Ev.t rfl) (Ev.t rfl) (fun _ => by omega))) rfl ?_; clear S a w; intro a w S)
      (refine st_y S (Yr.ys (ys_field (FieldT.mk Try.underlying125 rfl Try.sizeOf3 rfl) (Ev.t rfl))) rfl ?_; clear S a w; intro a w S)
      (refine st_y S (Yr.ys (ys_ldW ⟨Try.isAgg3, Try.sizeOf3⟩ (Ev.t rfl) (k := 2) rfl hxx (fun _ => rfl) rfl)) rfl ?_; clear S a w; intro a w S)
      (refine st_y S (Yr.ys (ys_addI (Ev.t rfl) Ev.c (fun _ => by unfold I64; omega))) rfl ?_; clear S a w; intro a w S)
      (refine st_y S (Yr.ys (ys_ixS Try.underlying98 Try.sizeOf125 (Ev.t rfl) (Ev.t rfl) (fun _ => by omega))) rfl ?_; clear S a w; intro a w S)
      (refine st_y S (Yr.ys (ys_field (FieldT.mk Try.underlying125 rfl Try.sizeOf3 rfl) (Ev.t rfl))) rfl ?_; clear S a w; intro a w S)
      refine st_m (op_stFld (enc := Rum.enc) (size := 4) (i := k) (j := 3) (⟨x.p, x.sent + 1⟩ : Rum) S (fun _ => rfl) Try.sizeOf3 (Ev.t rfl) (Ev.t rfl) rfl (k := 2) rfl hxx (by omega) rfl rfl ?_)
      clear S
      intro a w S
      rw [← hbx, hbs] at S
      refine st_nil ?_
      (refine (in_normal (then_normal (hK2 _ _ ?_))); clear hK2)
      refine wp_region_lit ?_
      (refine st_y S (Yr.ys (ys_addI (Ev.t rfl) Ev.c (fun _ => by unfold I64; omega))) rfl ?_; clear S a w; intro a w S)
      (refine st_y S (Yr.ys (ys_move (Ev.t rfl))) rfl ?_; clear S a w; intro a w S)
      refine st_nil ?_
      refine (then_normal ?_)
      exact ⟨k + 1, by omega, by omega, S.picks (by repeat (first | exact Fits.nil | refine Fits.skip rfl ?_ | refine Fits.cons rfl ?_)) (by repeat (first | exact Picks.nil | (refine Picks.rest ?_; (repeat (first | exact List.Sublist.refl _ | refine List.Sublist.cons_cons _ ?_ | refine List.Sublist.cons _ ?_)); done) | refine Picks.take 0 rfl ?_ | refine Picks.take 1 rfl ?_ | refine Picks.take 2 rfl ?_ | refine Picks.take 3 rfl ?_ | refine Picks.take 4 rfl ?_ | refine Picks.take 5 rfl ?_ | refine Picks.take 6 rfl ?_ | refine Picks.take 7 rfl ?_ | refine Picks.take 8 rfl ?_ | refine Picks.take 9 rfl ?_ | refine Picks.take 10 rfl ?_ | refine Picks.take 11 rfl ?_))⟩
    · have rw_i : decide ((⟨x.p.node, x.p.life, x.p.count⟩ : Dot) ∈ topR rl) = false := decide_eq_false hin
      have hbx : bumpR (topR rl) x = x := by unfold bumpR; rw [if_neg hin]
      have hsame : (rl.take k).map (bumpR (topR rl)) ++ rl.drop k = (rl.take (k + 1)).map (bumpR (topR rl)) ++ rl.drop (k + 1) := by
        rw [← hbs, hbx]
        refine (List.set_getElem_self_of hxx).symm
      refine wp_seq_k fun _ hK2 => ?_
      refine wp_region_lit ?_
      (refine st_y S (Yr.ys (ys_T (by omega) (ys_lss (Ev.t rfl) (Ev.t rfl)))) rfl ?_; clear S a w; intro a w S)
      refine st_nil ?_
      (refine (then_normal (hK2 _ _ ?_)); clear hK2)
      refine wp_seq_k fun _ hK2 => ?_
      refine st_then S (Ev.t rfl) ?_
      refine wp_skip ?_
      (refine (then_normal (hK2 _ _ ?_)); clear hK2)
      refine wp_seq_k fun _ hK2 => ?_
      refine wp_block ?_
      refine wp_seq_k fun _ hK3 => ?_
      refine wp_region_lit ?_
      (refine st_y S (Yr.ys (ys_move (Ev.t rfl))) rfl ?_; clear S a w; intro a w S)
      (refine st_y S (Yr.ys (ys_assign (Ev.t rfl))) rfl ?_; clear S a w; intro a w S)
      refine st_nil ?_
      (refine (then_normal (hK3 _ _ ?_)); clear hK3)
      refine wp_seq_k fun _ hK3 => ?_
      refine wp_region_lit ?_
      (refine st_y S (Yr.ys (ys_move (Ev.t rfl))) rfl ?_; clear S a w; intro a w S)
      (refine st_y S (Yr.ys (ys_move (Ev.t rfl))) rfl ?_; clear S a w; intro a w S)
      (refine st_y S (Yr.ys (ys_nilc (Ev.t rfl))) rfl ?_; clear S a w; intro a w S)
      (refine st_y S (Yr.ys (ys_fieldN (FieldT.mk Try.underlying101 rfl Try.sizeOf98 rfl) (Ev.t rfl) (i' := 1) rfl)) rfl ?_; clear S a w; intro a w S)
      (refine st_y S (Yr.ys (ys_ld ⟨Try.isAgg98, Try.sizeOf98⟩ (Ev.t rfl) (k := 0) rfl rfl)) rfl ?_; clear S a w; intro a w S)
      (refine st_y S (Yr.ys (ys_move (Ev.t rfl))) rfl ?_; clear S a w; intro a w S)
      (refine st_y S (Yr.ys (ys_ixS Try.underlying98 Try.sizeOf125 (Ev.t rfl) (Ev.t rfl) (fun _ => by omega))) rfl ?_; clear S a w; intro a w S)
      (refine st_y S (Yr.ys (ys_field (FieldT.mk Try.underlying125 rfl Try.sizeOf93 rfl) (Ev.t rfl))) rfl ?_; clear S a w; intro a w S)
      (refine st_y S (Yr.ys (ys_ldWS ⟨Try.isAgg93, Try.sizeOf93⟩ (Ev.t rfl) (vs := [_, _, _]) (k := 2) rfl hxx (fun _ => rfl) rfl)) rfl ?_; clear S a w; intro a w S)
      (refine st_y S (ys_call Try.call70 (EvL.cons (Ev.t rfl) (EvL.cons (Ev.t rfl) EvL.nil)) (fun hp w W => c70 _ _ _ _ _ _ (by exact Sl.of_own W (k := 3) rfl (fun _ => rfl)))) rfl ?_; clear S a w; intro a w S)
      rw [rw_i] at S
      refine st_nil ?_
      (refine (then_normal (hK3 _ _ ?_)); clear hK3)
      refine st_else S (Ev.t rfl) ?_
      refine wp_skip ?_
      (refine (in_normal (then_normal (hK2 _ _ ?_))); clear hK2)
      refine wp_region_lit ?_
      (refine st_y S (Yr.ys (ys_addI (Ev.t rfl) Ev.c (fun _ => by unfold I64; omega))) rfl ?_; clear S a w; intro a w S)
      (refine st_y S (Yr.ys (ys_move (Ev.t rfl))) rfl ?_; clear S a w; intro a w S)
      refine st_nil ?_
      refine (then_normal ?_)
      rw [hsame] at S
      exact ⟨k + 1, by omega, by omega, S.picks (by repeat (first | exact Fits.nil | refine Fits.skip rfl ?_ | refine Fits.cons rfl ?_)) (by repeat (first | exact Picks.nil | (refine Picks.rest ?_; (repeat (first | exact List.Sublist.refl _ | refine List.Sublist.cons_cons _ ?_ | refine List.Sublist.cons _ ?_)); done) | refine Picks.take 0 rfl ?_ | refine Picks.take 1 rfl ?_ | refine Picks.take 2 rfl ?_ | refine Picks.take 3 rfl ?_ | refine Picks.take 4 rfl ?_ | refine Picks.take 5 rfl ?_ | refine Picks.take 6 rfl ?_ | refine Picks.take 7 rfl ?_ | refine Picks.take 8 rfl ?_ | refine Picks.take 9 rfl ?_ | refine Picks.take 10 rfl ?_ | refine Picks.take 11 rfl ?_))⟩
  · have hend : k = rl.length := by omega
    subst hend
    rw [List.take_length, List.drop_length, List.append_nil] at S
    refine wp_seq_k fun _ hK2 => ?_
    refine wp_region_lit ?_
    (refine st_y S (Yr.ys (ys_F (by omega) (ys_lss (Ev.t rfl) (Ev.t rfl)))) rfl ?_; clear S a w; intro a w S)
    refine st_nil ?_
    (refine (then_normal (hK2 _ _ ?_)); clear hK2)
    refine wp_seq_k fun _ hK2 => ?_
    refine st_else S (Ev.t rfl) ?_
    refine wp_exit ?_
    (refine (then_exit (then_exit (in_here (then_normal (hK1 _ _ ?_))))); clear hK1)
    refine wp_seq_k fun _ hK1 => ?_
    refine wp_region_lit ?_
    (refine st_y S (Yr.ys (ys_fieldN (FieldT.mk Try.underlying56 rfl Try.sizeOf54 rfl) (Ev.t rfl) (i' := 3) rfl)) rfl ?_; clear S a w; intro a w S)
    (refine st_y S (Yr.ys (ys_ld ⟨Try.isAgg54, Try.sizeOf54⟩ (Ev.t rfl) (k := 4) rfl rfl)) rfl ?_; clear S a w; intro a w S)
    (refine st_y S (ys_call Try.call71 (EvL.cons (Ev.t rfl) EvL.nil) (fun hp w W => c71 _)) rfl ?_; clear S a w; intro a w S)
    (refine st_y S (Yr.ys (ys_fieldN (FieldT.mk Try.underlying56 rfl Try.sizeOf54 rfl) (Ev.t rfl) (i' := 3) rfl)) rfl ?_; clear S a w; intro a w S)
    (refine st_m (op_st S Try.sizeOf54 (Ev.t rfl) (Ev.t rfl) (k := 4) rfl rfl (by simp) ?_); clear S a w; intro a w S)
    refine st_nil ?_
    (refine (then_normal (hK1 _ _ ?_)); clear hK1)
    refine wp_seq_k fun _ hK1 => ?_
    (refine h_begin0 S (by kernel_rfl) ?_; clear S a w; intro a w S)
    (refine h_y (i := 0) S (by repeat (first | exact List.Sublist.refl _ | exact List.nil_sublist _ | refine .cons_cons _ ?_ | refine .cons _ ?_)) rfl (by kernel_rfl) (by kernel_rfl) (by kernel_rfl) (fun _ _ _ _ h => h) (ys_move (Ev.t rfl)) rfl ?_; clear S a w; intro a w S)
    (refine h_y (i := 1) S (by repeat (first | exact List.Sublist.refl _ | exact List.nil_sublist _ | refine .cons_cons _ ?_ | refine .cons _ ?_)) rfl (by kernel_rfl) (by kernel_rfl) (by kernel_rfl) (fun _ _ _ _ h => h) (ys_nilc (Ev.t rfl)) rfl ?_; clear S a w; intro a w S)
    (refine h_y (i := 2) S (by repeat (first | exact List.Sublist.refl _ | exact List.nil_sublist _ | refine .cons_cons _ ?_ | refine .cons _ ?_)) rfl (by kernel_rfl) (by kernel_rfl) (by kernel_rfl) (fun _ _ _ _ h => h) (ys_fieldN (FieldT.mk Try.underlying101 rfl Try.sizeOf3 rfl) (Ev.t rfl) (i' := 0) rfl) rfl ?_; clear S a w; intro a w S)
    (refine h_y (i := 3) S (by repeat (first | exact List.Sublist.refl _ | exact List.nil_sublist _ | refine .cons_cons _ ?_ | refine .cons _ ?_)) rfl (by kernel_rfl) (by kernel_rfl) (by kernel_rfl) (fun _ _ _ _ h => h) (ys_ld ⟨Try.isAgg3, Try.sizeOf3⟩ (Ev.t rfl) (k := 0) rfl rfl) rfl ?_; clear S a w; intro a w S)
    (refine h_y (i := 4) S (by repeat (first | exact List.Sublist.refl _ | exact List.nil_sublist _ | refine .cons_cons _ ?_ | refine .cons _ ?_)) rfl (by kernel_rfl) (by kernel_rfl) (by kernel_rfl) (fun _ _ _ _ h => h) (ys_move (Ev.t rfl)) rfl ?_; clear S a w; intro a w S)
    (refine h_y (i := 5) S (by repeat (first | exact List.Sublist.refl _ | exact List.nil_sublist _ | refine .cons_cons _ ?_ | refine .cons _ ?_)) rfl (by kernel_rfl) (by kernel_rfl) (by kernel_rfl) (fun _ _ _ _ h => h) (ys_ldA ⟨Try.isAgg56, Try.sizeOf56⟩ (Ev.t rfl) (k := 4) rfl rfl) rfl ?_; clear S a w; intro a w S)
    (refine h_y (i := 6) S (by repeat (first | exact List.Sublist.refl _ | exact List.nil_sublist _ | refine .cons_cons _ ?_ | refine .cons _ ?_)) rfl (by kernel_rfl) (by kernel_rfl) (by kernel_rfl) (fun _ _ _ _ h => h) (ys_move (Ev.t rfl)) rfl ?_; clear S a w; intro a w S)
    (refine h_y (i := 7) S (by repeat (first | exact List.Sublist.refl _ | exact List.nil_sublist _ | refine .cons_cons _ ?_ | refine .cons _ ?_)) rfl (by kernel_rfl) (by kernel_rfl) (by kernel_rfl) (fun _ _ _ _ h => h) (ys_bld (ps := [(0, _), (1, Go.Operand.tmp 104), (2, Go.Operand.tmp 105), (9, Go.Operand.tmp 106), (10, Go.Operand.tmp 107)]) (us := [_, _, _, _, _, _, _, _, _, _, _, _, _, _, _, _, _]) bld64 (EvL.cons Ev.c (EvL.cons (Ev.t rfl) (EvL.cons (Ev.t rfl) (EvL.cons (Ev.t rfl) (EvL.cons (Ev.t rfl) EvL.nil))))) rfl) rfl ?_; clear S a w; intro a w S)
    (refine h_m (i := 8) rfl (by kernel_rfl) (op_bslice1 S Try.underlying52 inf64 rfl rfl rfl (Ev.t rfl) rfl rfl rfl ?_); clear S a w; intro g2 a w S; refine h_on S _ (by repeat (first | exact List.Sublist.refl _ | exact List.nil_sublist _ | refine .cons_cons _ ?_ | refine .cons _ ?_)) (List.Sublist.refl _) ?_)
    (refine h_y (i := 9) S (by repeat (first | exact List.Sublist.refl _ | exact List.nil_sublist _ | refine .cons_cons _ ?_ | refine .cons _ ?_)) rfl (by kernel_rfl) (by kernel_rfl) (by kernel_rfl) (fun _ _ _ _ h => h) (ys_assign (Ev.t rfl)) rfl ?_; clear S a w; intro a w S)
    refine h_done (by kernel_rfl) ?_
    (refine (then_normal (hK1 _ _ ?_)); clear hK1)
    refine wp_ret ?_
    refine st_ret S (results1 S Try.results30 (Rv.tmp rfl)) ?_
    have e : rl.length = (rl.map (bumpR (topR rl))).length := by simp
    rw [e] at S
    exact ⟨_, _, rfl, S.wd.picks (by repeat (first | exact Picks.nil | (refine Picks.rest ?_; (repeat (first | exact List.Sublist.refl _ | refine List.Sublist.cons_cons _ ?_ | refine List.Sublist.cons _ ?_)); done) | refine Picks.take 0 rfl ?_ | refine Picks.take 1 rfl ?_ | refine Picks.take 2 rfl ?_ | refine Picks.take 3 rfl ?_ | refine Picks.take 4 rfl ?_ | refine Picks.take 5 rfl ?_ | refine Picks.take 6 rfl ?_ | refine Picks.take 7 rfl ?_ | refine Picks.take 8 rfl ?_ | refine Picks.take 9 rfl ?_ | refine Picks.take 10 rfl ?_ | refine Picks.take 11 rfl ?_)), _, _, _, rfl, rfl⟩
end tick
end Go.Proofs.Ytjfeeiljinbmjaa
set_option linter.unusedVariables false
set_option linter.unusedSimpArgs false
set_option maxRecDepth 100000
set_option maxHeartbeats 4000000
namespace Go.Proofs.Ytjfeeiljinbmjaa
open Go.Fw Go.Proofs Go.RowKit
abbrev kv51 : Int → Value := fun x => .int .i64 x
abbrev vv51 : Bool → Value := fun x => .bool x
theorem mapT51 : MapT kv51 vv51 Try.prog 51 false := mapT_mk Try.underlying51 (keyI Try.underlying3) Try.zeroValue4
theorem encI_len (x : Int) : (encI x).length = 1 := rfl
theorem encI_one (x : Int) : ∀ u ∈ encI x, u.oneCell' = true := fun u hu => by simp [encI] at hu; subst hu; rfl
theorem c31 (w0 : World) (v1 : Value) (l : List Int) (h : Sl encI 1 w0 w0.heap.size v1 l) (hn : l.length ≤ 4194304) :
    Rets Try.prog 31 #[v1] w0 fun v L => ∃ A c, v = .slice A l.length c ∧ L = [rowOf 3 1 encI A c l] := by
  have h0 := h
  obtain ⟨A, cap, rfl, hl, hcap, hA⟩ := h
  unfold Go.Fw.Rets
  refine enter1 Try.func31 rfl Try.ntmps31 rfl fun a S => ?_
  refine wp_seq_k fun _ hK1 => ?_
  refine wp_region_lit ?_
  (refine st_y S (Yr.ys (ys_assign Ev.c)) rfl ?_; clear S a; intro a w S)
  refine st_nil ?_
  (refine (then_normal (hK1 _ _ ?_)); clear hK1)
  refine wp_seq_k fun _ hK1 => ?_
  refine wp_seq_k fun _ hK2 => ?_
  refine wp_region_lit ?_
  (refine st_y S (Yr.ys (ys_move (Ev.t rfl))) rfl ?_; clear S a w; intro a w S)
  (refine st_y S (Yr.ys (ys_sNil Try.underlying45 (Ev.t rfl) Ev.c)) rfl ?_; clear S a w; intro a w S)
  refine st_nil ?_
  (refine (then_normal (hK2 _ _ ?_)); clear hK2)
  refine st_cond S (Ev.t rfl) (fun h1 => ?_) (fun h1 => ?_)
  refine wp_seq_k fun _ hK2 => ?_
  refine wp_region_lit ?_
  (refine st_y S (Yr.ys (ys_assign Ev.c)) rfl ?_; clear S a w; intro a w S)
  refine st_nil ?_
  (refine (then_normal (hK2 _ _ ?_)); clear hK2)
  refine wp_ret ?_
  refine (then_ret ?_)
  refine st_ret S (results1 S Try.results31 (Rv.tmp rfl)) ?_
  rotate_left
  refine wp_skip ?_
  (refine (then_normal (hK1 _ _ ?_)); clear hK1)
  refine wp_seq_k fun _ hK1 => ?_
  refine wp_region_lit ?_
  (refine st_m (op_bslice0 S Try.underlying45 Try.sizeOf3 rfl ?_); clear S a w; intro g1 a w S)
  (refine st_y S (Yr.ys (ys_move (Ev.t rfl))) rfl ?_; clear S a w; intro a w S)
  (refine st_m (op_extend _ (S.nil_ 3 _ Go.Proofs.Ytjfeeiljinbmjaa.encI _) Try.underlying45 Try.underlying45 (.inr ⟨_, rfl⟩) inf3 rfl (k := 0) rfl (Ev.t rfl) (Ev.t rfl) (Src.sl (Sl.old S.wd h0) (by decide) Go.Proofs.Ytjfeeiljinbmjaa.encI_len Go.Proofs.Ytjfeeiljinbmjaa.encI_one) (by first | omega | (simp only [List.length_append, List.length_cons, List.length_nil]; omega) | (simp; omega)) rfl rfl rfl ?_); clear S a w; intro A1 cap1 a w S)
  simp only [List.nil_append] at S
  (refine st_y S (Yr.ys (ys_assign (Ev.t rfl))) rfl ?_; clear S a w; intro a w S)
  refine st_nil ?_
  (refine (then_normal (hK1 _ _ ?_)); clear hK1)
  refine wp_ret ?_
  refine st_ret S (results1 S Try.results31 (Rv.tmp rfl)) ?_
  rotate_left
  · have hnil : l = [] := by
      refine List.eq_nil_of_length_eq_zero (Decidable.byContradiction fun hne => ?_)
      obtain ⟨g, o, rfl, _⟩ := hA (by omega)
      cases h1
    subst hnil
    exact ⟨_, _, rfl, (S.nil_ 3 1 encI none).wd.sub (by repeat (first | exact List.Sublist.refl _ | exact List.nil_sublist _ | refine .cons_cons _ ?_ | refine .cons _ ?_)), none, 0, rfl, rfl⟩
  · try simp only [List.nil_append] at S ⊢
    exact ⟨_, _, rfl, S.wd.sub (by repeat (first | exact List.Sublist.refl _ | exact List.nil_sublist _ | refine .cons_cons _ ?_ | refine .cons _ ?_)), _, _, rfl, rfl⟩
theorem tick_go {c : Nat} {told : Bool} {last : Int} (hc : c ≤ 40) (h : (c = 0 ∧ told = false) ∨ (0 < c ∧ told = true ∧ last = 100 * (c : Int) - 100)) : tickD told last ((100 * c : Nat) : Int) = false := by
  unfold tickD
  rcases h with ⟨rfl, rfl⟩ | ⟨h0, rfl, rfl⟩
  · rfl
  · rw [wrap_i64 ⟨by omega, by omega⟩]
    simp
    omega
theorem tick_stop {c : Nat} (hc : c ≤ 40) : tickD true ((100 * c : Nat) : Int) (((100 * c : Nat) : Int) + 99) = true := by
  unfold tickD
  rw [wrap_i64 ⟨by omega, by omega⟩]
  simp
  omega
theorem seen_lt {N m : Nat} {seen : Array Nat} (h2 : ∀ x ∈ seen, x < N) (h3 : seen.toList.Nodup) (hm : m < N) (hn : m ∉ seen) : seen.size < N := by
  have h4 : (m :: seen.toList).Nodup := List.nodup_cons.2 ⟨by simpa using hn, h3⟩
  have := List.Nodup.length_le_of_subset h4 (l₂ := List.range N) (fun x hx => by
    rw [List.mem_range]
    rcases List.mem_cons.1 hx with rfl | hx
    · exact hm
    · exact h2 x (by simpa using hx))
  simp at this
  omega
theorem c5 (w0 : World) (x y : Int) (v : Value) (l : List Int) (hs : Sl encI 1 w0 w0.heap.size v l) (hl : l.length ≤ 1048576) :
    Calls Try.prog 5 #[.int .i64 x, v, .int .i64 y] w0 fun e w' => e = .returned (.bool true) ∧ Bel w0.heap.size w0 w' := by
  obtain ⟨A, cap, rfl, _, _, hA⟩ := id hs
  obtain ⟨s, hs8, hs0, hs7⟩ : ∃ s : Int, IntKind.i64.wrap ((IntKind.u64.wrap x).tmod 8) = s ∧ 0 ≤ s ∧ s < 8 := by
    obtain ⟨h0, h1⟩ := u64_range x
    have h2 : (IntKind.u64.wrap x).tmod 8 = (IntKind.u64.wrap x) % 8 := Int.tmod_eq_emod_of_nonneg h0
    rw [h2, wrap_i64 ⟨by omega, by omega⟩]
    exact ⟨_, rfl, by omega, by omega⟩
  obtain ⟨R, hR, hR4⟩ : ∃ R : Nat, 1 + IntKind.i64.wrap ((IntKind.u64.wrap y).tmod 4) = (R : Int) ∧ R ≤ 4 := by
    obtain ⟨h0, h1⟩ := u64_range y
    have h2 : (IntKind.u64.wrap y).tmod 4 = (IntKind.u64.wrap y) % 4 := Int.tmod_eq_emod_of_nonneg h0
    rw [h2, wrap_i64 ⟨by omega, by omega⟩]
    exact ⟨(1 + (IntKind.u64.wrap y) % 4).toNat, by omega, by omega⟩
  have rw_s := hs8
  have rw_R := hR
  refine enter3 Try.func5 rfl Try.ntmps5 rfl fun a S => ?_
  refine wp_seq_k fun _ hK1 => ?_
  refine wp_region_lit ?_
  (refine st_y S (Yr.ys (ys_assign Ev.c)) rfl ?_; clear S a; intro a w S)
  refine st_nil ?_
  (refine (then_normal (hK1 _ _ ?_)); clear hK1)
  refine wp_seq_k fun _ hK1 => ?_
  refine wp_region_lit ?_
  (refine st_y S (Yr.ys (ys_move (Ev.t rfl))) rfl ?_; clear S a w; intro a w S)
  (refine st_y S (Yr.ys (ys_cv Try.underlying3 Try.underlying46 (Ev.t rfl))) rfl ?_; clear S a w; intro a w S)
  (refine st_y S (Yr.ys (ys_rem (Ev.t rfl) Ev.c (fun _ => by omega))) rfl ?_; clear S a w; intro a w S)
  (refine st_y S (Yr.ys (ys_cv Try.underlying46 Try.underlying3 (Ev.t rfl))) rfl ?_; clear S a w; intro a w S)
  rw [rw_s] at S
  (refine st_y S (Yr.ys (ys_assign (Ev.t rfl))) rfl ?_; clear S a w; intro a w S)
  refine st_nil ?_
  (refine (then_normal (hK1 _ _ ?_)); clear hK1)
  refine wp_seq_k fun _ hK1 => ?_
  refine wp_region_lit ?_
  (refine st_y S (Yr.ys (ys_move (Ev.t rfl))) rfl ?_; clear S a w; intro a w S)
  (refine st_m (op_calls S Try.call29 (EvL.cons (Ev.t rfl) EvL.nil) (c29 _ _ (by omega)) rfl ?_); clear S a w; rintro _ _ ⟨g1, gf1, rfl, rfl⟩ a w S)
  (refine st_y S (Yr.ys (ys_move (Ev.t rfl))) rfl ?_; clear S a w; intro a w S)
  (refine st_y S (Yr.ys (ys_ext (Ev.t rfl) rfl)) rfl ?_; clear S a w; intro a w S)
  (refine st_y S (Yr.ys (ys_ext (Ev.t rfl) rfl)) rfl ?_; clear S a w; intro a w S)
  (refine st_y S (Yr.ys (ys_assign (Ev.t rfl))) rfl ?_; clear S a w; intro a w S)
  (refine st_y S (Yr.ys (ys_assign (Ev.t rfl))) rfl ?_; clear S a w; intro a w S)
  refine st_nil ?_
  (refine (then_normal (hK1 _ _ ?_)); clear hK1)
  refine wp_seq_k fun _ hK1 => ?_
  refine wp_seq_k fun _ hK2 => ?_
  refine wp_region_lit ?_
  (refine st_y S (Yr.ys (ys_move (Ev.t rfl))) rfl ?_; clear S a w; intro a w S)
  (refine st_y S (Yr.ys (ys_F (by omega) (ys_neq (Ev.t rfl) Ev.c))) rfl ?_; clear S a w; intro a w S)
  refine st_nil ?_
  (refine (then_normal (hK2 _ _ ?_)); clear hK2)
  refine st_else S (Ev.t rfl) ?_
  refine wp_skip ?_
  (refine (then_normal (hK1 _ _ ?_)); clear hK1)
  refine wp_seq_k fun _ hK1 => ?_
  refine wp_region_lit ?_
  (refine st_m (op_makeMap kv51 vv51 S rfl ?_); clear S a w; intro g2 a w S)
  (refine st_y S (Yr.ys (ys_assign (Ev.t rfl))) rfl ?_; clear S a w; intro a w S)
  refine st_nil ?_
  (refine (then_normal (hK1 _ _ ?_)); clear hK1)
  refine wp_seq_k fun _ hK1 => ?_
  refine wp_seq_k fun _ hK2 => ?_
  refine wp_region_lit ?_
  (refine st_y S (Yr.ys (ys_move (Ev.t rfl))) rfl ?_; clear S a w; intro a w S)
  (refine st_y S (Yr.ys (ys_lenS Try.underlying45 (Ev.t rfl))) rfl ?_; clear S a w; intro a w S)
  (refine st_y S (Yr.ys (ys_move Ev.c)) rfl ?_; clear S a w; intro a w S)
  refine st_nil ?_
  (refine (then_normal (hK2 _ _ ?_)); clear hK2)
  refine wp_block ?_
  refine st_loopM S [29] (X := Nat) (fun k => [(29, true, .int .i64 (k : Int))]) (fun k => .blk g2 (mapK kv51 vv51 (wantM s (l.take k))) :: boxK g1 gf1 s none 0 [] false 0 0 []) (fun k => k ≤ l.length) (fun k => l.length - k) 0 (Nat.zero_le _) (by repeat (first | exact Fits.nil | refine Fits.skip rfl ?_ | refine Fits.cons rfl ?_)) (by repeat (first | exact Picks.nil | (refine Picks.rest ?_; (repeat (first | exact List.Sublist.refl _ | refine List.Sublist.cons_cons _ ?_ | refine List.Sublist.cons _ ?_)); done) | refine Picks.take 0 rfl ?_ | refine Picks.take 1 rfl ?_ | refine Picks.take 2 rfl ?_ | refine Picks.take 3 rfl ?_ | refine Picks.take 4 rfl ?_ | refine Picks.take 5 rfl ?_ | refine Picks.take 6 rfl ?_ | refine Picks.take 7 rfl ?_ | refine Picks.take 8 rfl ?_ | refine Picks.take 9 rfl ?_ | refine Picks.take 10 rfl ?_ | refine Picks.take 11 rfl ?_)) ?_
  clear S
  intro k a w hk S
  by_cases hlt : k < l.length
  · obtain ⟨gq, oq, n, rfl, hn, hdq, hc⟩ := row_at hA hlt
    have hst := wantM_step (s := s) hn
    cases hok : okN s n with
    | true =>
      rw [hok, if_pos rfl] at hst
      have hok2 := hok
      unfold okN at hok2
      simp at hok2
      have rw_o : ((decide (0 ≤ n) && decide (n < 8)) && decide (n ≠ s)) = true := by simp; omega
      refine wp_seq_k fun _ hK2 => ?_
      refine wp_region_lit ?_
      (refine st_y S (Yr.ys (ys_T (by omega) (ys_lss (Ev.t rfl) (Ev.t rfl)))) rfl ?_; clear S a w; intro a w S)
      refine st_nil ?_
      (refine (then_normal (hK2 _ _ ?_)); clear hK2)
      refine wp_seq_k fun _ hK2 => ?_
      refine st_then S (Ev.t rfl) ?_
      refine wp_skip ?_
      (refine (then_normal (hK2 _ _ ?_)); clear hK2)
      refine wp_seq_k fun _ hK2 => ?_
      refine wp_block ?_
      refine wp_seq_k fun _ hK3 => ?_
      refine wp_region_lit ?_
      (refine st_y S (Yr.ys (ys_ixS Try.underlying45 Try.sizeOf3 (Ev.t rfl) (Ev.t rfl) (fun _ => by omega))) rfl ?_; clear S a w; intro a w S)
      (refine st_y S (Yr.ys (ys_ldO ⟨Try.isAgg3, Try.sizeOf3⟩ (Ev.t rfl) (fun _ => hc 0 _ rfl))) rfl ?_; clear S a w; intro a w S)
      (refine st_y S (Yr.ys (ys_assign (Ev.t rfl))) rfl ?_; clear S a w; intro a w S)
      refine st_nil ?_
      (refine (then_normal (hK3 _ _ ?_)); clear hK3)
      refine wp_seq_k fun _ hK3 => ?_
      refine wp_region_lit ?_
      (refine st_y S (Yr.ys (ys_move (Ev.t rfl))) rfl ?_; clear S a w; intro a w S)
      (refine st_y S (Yr.ys (ys_T (by omega) (ys_geq (Ev.t rfl) Ev.c))) rfl ?_; clear S a w; intro a w S)
      (refine st_y S (Yr.ys (ys_move (Ev.t rfl))) rfl ?_; clear S a w; intro a w S)
      (refine st_yt S rfl rfl (Yr.ys (ys_move (Ev.t rfl))) rfl ?_; clear S a w; intro a w S)
      (refine st_yt S rfl rfl (Yr.ys (ys_T (by omega) (ys_lss (Ev.t rfl) Ev.c))) rfl ?_; clear S a w; intro a w S)
      (refine st_y S (Yr.ys (ys_pickT (Ev.t rfl) (Ev.t rfl))) rfl ?_; clear S a w; intro a w S)
      (refine st_y S (Yr.ys (ys_move (Ev.t rfl))) rfl ?_; clear S a w; intro a w S)
      (refine st_yt S rfl rfl (Yr.ys (ys_move (Ev.t rfl))) rfl ?_; clear S a w; intro a w S)
      (refine st_yt S rfl rfl (Yr.ys (ys_move (Ev.t rfl))) rfl ?_; clear S a w; intro a w S)
      (refine st_yt S rfl rfl (Yr.ys (ys_T (by omega) (ys_neq (Ev.t rfl) (Ev.t rfl)))) rfl ?_; clear S a w; intro a w S)
      (refine st_y S (Yr.ys (ys_pickT (Ev.t rfl) (Ev.t rfl))) rfl ?_; clear S a w; intro a w S)
      refine st_nil ?_
      (refine (then_normal (hK3 _ _ ?_)); clear hK3)
      refine st_then S (Ev.t rfl) ?_
      refine wp_region_lit ?_
      (refine st_y S (Yr.ys (ys_move (Ev.t rfl))) rfl ?_; clear S a w; intro a w S)
      (refine st_y S (Yr.ys (ys_move (Ev.t rfl))) rfl ?_; clear S a w; intro a w S)
      (refine st_m (op_mapUpd S mapT51 (Ev.t rfl) (Ev.t rfl) Ev.c (j := 0) rfl ?_); clear S a w; intro a w S)
      refine st_nil ?_
      (refine (in_normal (then_normal (hK2 _ _ ?_))); clear hK2)
      refine wp_region_lit ?_
      (refine st_y S (Yr.ys (ys_addI (Ev.t rfl) Ev.c (fun _ => by unfold I64; omega))) rfl ?_; clear S a w; intro a w S)
      (refine st_y S (Yr.ys (ys_move (Ev.t rfl))) rfl ?_; clear S a w; intro a w S)
      refine st_nil ?_
      refine (then_normal ?_)
      rw [← hst] at S
      exact ⟨k + 1, by omega, by omega, S.picks (by repeat (first | exact Fits.nil | refine Fits.skip rfl ?_ | refine Fits.cons rfl ?_)) (by repeat (first | exact Picks.nil | (refine Picks.rest ?_; (repeat (first | exact List.Sublist.refl _ | refine List.Sublist.cons_cons _ ?_ | refine List.Sublist.cons _ ?_)); done) | refine Picks.take 0 rfl ?_ | refine Picks.take 1 rfl ?_ | refine Picks.take 2 rfl ?_ | refine Picks.take 3 rfl ?_ | refine Picks.take 4 rfl ?_ | refine Picks.take 5 rfl ?_ | refine Picks.take 6 rfl ?_ | refine Picks.take 7 rfl ?_ | refine Picks.take 8 rfl ?_ | refine Picks.take 9 rfl ?_ | refine Picks.take 10 rfl ?_ | refine Picks.take 11 rfl ?_))⟩
    | false =>
      rw [hok] at hst
      simp only [Bool.false_eq_true, if_false] at hst
      have rw_o : ((decide (0 ≤ n) && decide (n < 8)) && decide (n ≠ s)) = false := by rw [← hok]; unfold okN; rw [Bool.and_comm]
      refine wp_seq_k fun _ hK2 => ?_
      refine wp_region_lit ?_
      (refine st_y S (Yr.ys (ys_T (by omega) (ys_lss (Ev.t rfl) (Ev.t rfl)))) rfl ?_; clear S a w; intro a w S)
      refine st_nil ?_
      (refine (then_normal (hK2 _ _ ?_)); clear hK2)
      refine wp_seq_k fun _ hK2 => ?_
      refine st_then S (Ev.t rfl) ?_
      refine wp_skip ?_
      (refine (then_normal (hK2 _ _ ?_)); clear hK2)
      refine wp_seq_k fun _ hK2 => ?_
      refine wp_block ?_
      refine wp_seq_k fun _ hK3 => ?_
      refine wp_region_lit ?_
      (refine st_y S (Yr.ys (ys_ixS Try.underlying45 Try.sizeOf3 (Ev.t rfl) (Ev.t rfl) (fun _ => by omega))) rfl ?_; clear S a w; intro a w S)
      (refine st_y S (Yr.ys (ys_ldO ⟨Try.isAgg3, Try.sizeOf3⟩ (Ev.t rfl) (fun _ => hc 0 _ rfl))) rfl ?_; clear S a w; intro a w S)
      (refine st_y S (Yr.ys (ys_assign (Ev.t rfl))) rfl ?_; clear S a w; intro a w S)
      refine st_nil ?_
      (refine (then_normal (hK3 _ _ ?_)); clear hK3)
      refine wp_seq_k fun _ hK3 => ?_
      refine wp_region_lit ?_
      (refine st_y S (Yr.ys (ys_move (Ev.t rfl))) rfl ?_; clear S a w; intro a w S)
      (refine st_y S (Yr.ys (ys_geq (Ev.t rfl) Ev.c)) rfl ?_; clear S a w; intro a w S)
      (refine st_y S (Yr.ys (ys_move (Ev.t rfl))) rfl ?_; clear S a w; intro a w S)
      (refine st_yg S rfl rfl (Yr.ys (ys_move (Ev.t rfl))) rfl ?_; clear S a w; intro a w S)
      (refine st_yg S rfl rfl (Yr.ys (ys_lss (Ev.g rfl) Ev.c)) rfl ?_; clear S a w; intro a w S)
      (refine st_y S (Yr.ys (ys_and (Ev.t rfl) (Ev.g rfl) Ev.c)) rfl ?_; clear S a w; intro a w S)
      (refine st_y S (Yr.ys (ys_move (Ev.t rfl))) rfl ?_; clear S a w; intro a w S)
      (refine st_yg S rfl rfl (Yr.ys (ys_move (Ev.t rfl))) rfl ?_; clear S a w; intro a w S)
      (refine st_yg S rfl rfl (Yr.ys (ys_move (Ev.t rfl))) rfl ?_; clear S a w; intro a w S)
      (refine st_yg S rfl rfl (Yr.ys (ys_neq (Ev.g rfl) (Ev.g rfl))) rfl ?_; clear S a w; intro a w S)
      (refine st_y S (Yr.ys (ys_and (Ev.t rfl) (Ev.g rfl) Ev.c)) rfl ?_; clear S a w; intro a w S)
      rw [rw_o] at S
      refine st_nil ?_
      (refine (then_normal (hK3 _ _ ?_)); clear hK3)
      refine st_else S (Ev.t rfl) ?_
      refine wp_skip ?_
      (refine (in_normal (then_normal (hK2 _ _ ?_))); clear hK2)
      refine wp_region_lit ?_
      (refine st_y S (Yr.ys (ys_addI (Ev.t rfl) Ev.c (fun _ => by unfold I64; omega))) rfl ?_; clear S a w; intro a w S)
      (refine st_y S (Yr.ys (ys_move (Ev.t rfl))) rfl ?_; clear S a w; intro a w S)
      refine st_nil ?_
      refine (then_normal ?_)
      rw [← hst] at S
      exact ⟨k + 1, by omega, by omega, S.picks (by repeat (first | exact Fits.nil | refine Fits.skip rfl ?_ | refine Fits.cons rfl ?_)) (by repeat (first | exact Picks.nil | (refine Picks.rest ?_; (repeat (first | exact List.Sublist.refl _ | refine List.Sublist.cons_cons _ ?_ | refine List.Sublist.cons _ ?_)); done) | refine Picks.take 0 rfl ?_ | refine Picks.take 1 rfl ?_ | refine Picks.take 2 rfl ?_ | refine Picks.take 3 rfl ?_ | refine Picks.take 4 rfl ?_ | refine Picks.take 5 rfl ?_ | refine Picks.take 6 rfl ?_ | refine Picks.take 7 rfl ?_ | refine Picks.take 8 rfl ?_ | refine Picks.take 9 rfl ?_ | refine Picks.take 10 rfl ?_ | refine Picks.take 11 rfl ?_))⟩
  have hend : k = l.length := by omega
  subst hend
  rw [List.take_length] at S
  clear hlt
  have hm8 := want_len s l
  have hML := wantM_len s l
  generalize hm : (wantL s l).length = m at hm8 hML
  refine wp_seq_k fun _ hK2 => ?_
  refine wp_region_lit ?_
  (refine st_y S (Yr.ys (ys_F (by omega) (ys_lss (Ev.t rfl) (Ev.t rfl)))) rfl ?_; clear S a w; intro a w S)
  refine st_nil ?_
  (refine (then_normal (hK2 _ _ ?_)); clear hK2)
  refine wp_seq_k fun _ hK2 => ?_
  refine st_else S (Ev.t rfl) ?_
  refine wp_exit ?_
  (refine (then_exit (then_exit (in_here (then_normal (hK1 _ _ ?_))))); clear hK1)
  refine wp_seq_k fun _ hK1 => ?_
  refine wp_region_lit ?_
  (refine st_y S (Yr.ys (ys_assign Ev.c)) rfl ?_; clear S a w; intro a w S)
  refine st_nil ?_
  (refine (then_normal (hK1 _ _ ?_)); clear hK1)
  refine wp_seq_k fun _ hK1 => ?_
  refine wp_seq_k fun _ hK3 => ?_
  refine wp_region_lit ?_
  (refine st_y S (Yr.ys (ys_move (Ev.t rfl))) rfl ?_; clear S a w; intro a w S)
  (refine st_y S (Yr.ys (ys_cv Try.underlying3 Try.underlying46 (Ev.t rfl))) rfl ?_; clear S a w; intro a w S)
  (refine st_y S (Yr.ys (ys_rem (Ev.t rfl) Ev.c (fun _ => by omega))) rfl ?_; clear S a w; intro a w S)
  (refine st_y S (Yr.ys (ys_cv Try.underlying46 Try.underlying3 (Ev.t rfl))) rfl ?_; clear S a w; intro a w S)
  (refine st_y S (Yr.ys (ys_addI Ev.c (Ev.t rfl) (fun _ => by unfold I64; omega))) rfl ?_; clear S a w; intro a w S)
  rw [rw_R] at S
  (refine st_y S (Yr.ys (ys_move Ev.c)) rfl ?_; clear S a w; intro a w S)
  refine st_nil ?_
  (refine (then_normal (hK3 _ _ ?_)); clear hK3)
  refine wp_block ?_
  refine st_loopM S [6, 12, 52] (X := Nat × Nat × Bool × Int × Int) (fun q => [(52, true, .int .i64 (q.1 : Int)), (12, true, .int .i64 ((100 * q.2.1 : Nat) : Int))]) (fun q => .blk g2 (mapK kv51 vv51 (wantM s l)) :: boxK g1 gf1 s none 0 [] q.2.2.1 q.2.2.2.1 q.2.2.2.2 [])
    (fun q => q.1 ≤ R ∧ q.2.1 = q.1 * m ∧ ((q.2.1 = 0 ∧ q.2.2.1 = false) ∨ (0 < q.2.1 ∧ q.2.2.1 = true ∧ q.2.2.2.1 = 100 * (q.2.1 : Int) - 100 ∧ (wantL s l)[m - 1]? = some q.2.2.2.2))) (fun q => R - q.1) (0, 0, false, 0, 0) ⟨Nat.zero_le _, by simp, .inl ⟨rfl, rfl⟩⟩ (by repeat (first | exact Fits.nil | refine Fits.skip rfl ?_ | refine Fits.cons rfl ?_)) (by repeat (first | exact Picks.nil | (refine Picks.rest ?_; (repeat (first | exact List.Sublist.refl _ | refine List.Sublist.cons_cons _ ?_ | refine List.Sublist.cons _ ?_)); done) | refine Picks.take 0 rfl ?_ | refine Picks.take 1 rfl ?_ | refine Picks.take 2 rfl ?_ | refine Picks.take 3 rfl ?_ | refine Picks.take 4 rfl ?_ | refine Picks.take 5 rfl ?_ | refine Picks.take 6 rfl ?_ | refine Picks.take 7 rfl ?_ | refine Picks.take 8 rfl ?_ | refine Picks.take 9 rfl ?_ | refine Picks.take 10 rfl ?_ | refine Picks.take 11 rfl ?_)) ?_
  clear S
  intro ⟨r, T, told, last, to⟩ a w ⟨hr, hT, hst⟩ S
  dsimp only at hr hT hst S
  have hT32 : T ≤ 32 := by
    have : r * m ≤ 4 * 8 := Nat.mul_le_mul (by omega) hm8
    omega
  have hb0 : ∀ x ∈ ([] : List Rum), 0 ≤ x.sent ∧ x.sent ≤ 1000 := fun x hx => by cases hx
  have hr0 : ([] : List Rum).length ≤ 8 := by decide
  by_cases hlt : r < R
  · refine wp_seq_k fun _ hK3 => ?_
    refine wp_region_lit ?_
    (refine st_y S (Yr.ys (ys_T (by omega) (ys_lss (Ev.t rfl) (Ev.t rfl)))) rfl ?_; clear S a w; intro a w S)
    refine st_nil ?_
    (refine (then_normal (hK3 _ _ ?_)); clear hK3)
    refine wp_seq_k fun _ hK3 => ?_
    refine st_then S (Ev.t rfl) ?_
    refine wp_skip ?_
    (refine (then_normal (hK3 _ _ ?_)); clear hK3)
    refine wp_seq_k fun _ hK3 => ?_
    refine wp_block ?_
    refine wp_seq_k fun _ hK4 => ?_
    refine wp_region_lit ?_
    (refine st_m (op_makeMap kv51 vv51 S rfl ?_); clear S a w; intro g3 a w S)
    (refine st_y S (Yr.ys (ys_assign (Ev.t rfl))) rfl ?_; clear S a w; intro a w S)
    refine st_nil ?_
    (refine (then_normal (hK4 _ _ ?_)); clear hK4)
    refine wp_seq_k fun _ hK4 => ?_
    refine wp_region_lit ?_
    (refine st_y S (Yr.ys (ys_move (Ev.t rfl))) rfl ?_; clear S a w; intro a w S)
    (refine st_m (op_range S Try.underlying51 (Ev.t rfl) (j := 1) rfl rfl ?_); clear S a w; intro g4 a w S)
    refine st_nil ?_
    (refine (then_normal (hK4 _ _ ?_)); clear hK4)
    refine wp_block ?_
    refine st_loopM S [12] (X := Nat × Array Nat × List (Int × Bool) × Bool × Int × Int) (fun q => [(12, true, .int .i64 ((100 * (T + q.1) : Nat) : Int))]) (fun q => .blk g4 (.mapIter (some g2) (wantM s l).length q.2.1 (wantM s l).length) :: .blk g3 (mapK kv51 vv51 q.2.2.1) :: .blk g2 (mapK kv51 vv51 (wantM s l)) :: boxK g1 gf1 s none 0 [] q.2.2.2.1 q.2.2.2.2.1 q.2.2.2.2.2 [])
      (fun q => (q.1 = q.2.1.size ∧ q.1 ≤ m ∧ q.2.1.toList.Nodup ∧ ∀ x ∈ q.2.1, x < m) ∧ (∀ n, aget q.2.2.1 n = if n ∈ (wantL s l).take q.1 then some true else none) ∧
        ((T + q.1 = 0 ∧ q.2.2.2.1 = false) ∨ (0 < T + q.1 ∧ q.2.2.2.1 = true ∧ q.2.2.2.2.1 = 100 * ((T + q.1 : Nat) : Int) - 100)) ∧ (0 < q.1 → (wantL s l)[q.1 - 1]? = some q.2.2.2.2.2) ∧ (q.1 = 0 → 0 < T → (wantL s l)[m - 1]? = some q.2.2.2.2.2)) (fun q => m - q.1) (0, #[], [], told, last, to)
      ⟨⟨rfl, Nat.zero_le _, List.nodup_nil, fun x hx => by simp at hx⟩, fun n => by simp [aget], by
        rcases hst with ⟨h1, h2⟩ | ⟨h1, h2, h3, _⟩
        · exact .inl ⟨h1, h2⟩
        · exact .inr ⟨h1, h2, h3⟩, fun h => absurd h (by simp), fun _ hT0 => by
        rcases hst with ⟨h1, h2⟩ | ⟨h1, h2, h3, h4⟩
        · omega
        · exact h4⟩ (by repeat (first | exact Fits.nil | refine Fits.skip rfl ?_ | refine Fits.cons rfl ?_)) (by repeat (first | exact Picks.nil | (refine Picks.rest ?_; (repeat (first | exact List.Sublist.refl _ | refine List.Sublist.cons_cons _ ?_ | refine List.Sublist.cons _ ?_)); done) | refine Picks.take 0 rfl ?_ | refine Picks.take 1 rfl ?_ | refine Picks.take 2 rfl ?_ | refine Picks.take 3 rfl ?_ | refine Picks.take 4 rfl ?_ | refine Picks.take 5 rfl ?_ | refine Picks.take 6 rfl ?_ | refine Picks.take 7 rfl ?_ | refine Picks.take 8 rfl ?_ | refine Picks.take 9 rfl ?_ | refine Picks.take 10 rfl ?_ | refine Picks.take 11 rfl ?_)) ?_
    clear S
    intro ⟨i, seen, M, told, last, to⟩ a w ⟨⟨h1, h2, h3, h4⟩, h5, h6, h7, h8⟩ S
    dsimp only at h1 h2 h3 h4 h5 h6 h7 h8 S
    refine wp_seq_k fun _ hK4 => ?_
    refine wp_region_lit ?_
    refine st_m (op_next (kv := kv51) (vv := vv51) (l := wantM s l) S (Ev.t rfl) (i := 0) rfl (j := 2) rfl rfl ?_ ?_)
    · intro hall
      clear S
      intro a w S
      have hi : i = m := by
        have := seen_all (N := m) (fun x hx => hall x (by omega)) h4 h3
        omega
      subst hi
      have rw_r : (r : Int) + 1 = ((r + 1 : Nat) : Int) := by omega
      (refine st_y S (Yr.ys (ys_ext (Ev.t rfl) rfl)) rfl ?_; clear S a w; intro a w S)
      refine st_nil ?_
      (refine (then_normal (hK4 _ _ ?_)); clear hK4)
      refine wp_seq_k fun _ hK4 => ?_
      refine st_else S (Ev.t rfl) ?_
      refine wp_exit ?_
      (refine (then_exit (then_exit (in_here (in_normal (then_normal (hK3 _ _ ?_)))))); clear hK3)
      refine wp_region_lit ?_
      (refine st_y S (Yr.ys (ys_addI (Ev.t rfl) Ev.c (fun _ => by unfold I64; omega))) rfl ?_; clear S a w; intro a w S)
      rw [rw_r] at S
      (refine st_y S (Yr.ys (ys_move (Ev.t rfl))) rfl ?_; clear S a w; intro a w S)
      refine st_nil ?_
      refine (then_normal ?_)
      refine ⟨(r + 1, T + i, told, last, to), ⟨by dsimp only; omega, by dsimp only; rw [Nat.add_mul]; omega, ?_⟩, by dsimp only; omega, S.picks (by repeat (first | exact Fits.nil | refine Fits.skip rfl ?_ | refine Fits.cons rfl ?_)) (by repeat (first | exact Picks.nil | (refine Picks.rest ?_; (repeat (first | exact List.Sublist.refl _ | refine List.Sublist.cons_cons _ ?_ | refine List.Sublist.cons _ ?_)); done) | refine Picks.take 0 rfl ?_ | refine Picks.take 1 rfl ?_ | refine Picks.take 2 rfl ?_ | refine Picks.take 3 rfl ?_ | refine Picks.take 4 rfl ?_ | refine Picks.take 5 rfl ?_ | refine Picks.take 6 rfl ?_ | refine Picks.take 7 rfl ?_ | refine Picks.take 8 rfl ?_ | refine Picks.take 9 rfl ?_ | refine Picks.take 10 rfl ?_ | refine Picks.take 11 rfl ?_))⟩
      dsimp only
      rcases h6 with ⟨h9, h10⟩ | ⟨h9, h10, h11⟩
      · exact .inl ⟨h9, h10⟩
      · refine .inr ⟨h9, h10, h11, ?_⟩
        rcases Nat.eq_zero_or_pos i with h12 | h12
        · exact h8 h12 (by omega)
        · exact h7 h12
    · intro j n u hj hns
      clear S
      intro a w S
      have hjm : j < m := by have := (List.getElem?_eq_some_iff.1 hj).1; omega
      have him : i < m := by rw [h1]; exact seen_lt h4 h3 hjm hns
      have hnx := next_want (s := s) (l := l) (told := told) (to := to) (i := i) (by omega) (by
        rcases h6 with ⟨h9, h10⟩ | ⟨h9, h10, _⟩
        · exact .inl ⟨h10, by omega⟩
        · exact .inr ⟨h10, fun h0 => by rw [hm]; exact h8 h0 (by omega), h7⟩)
      have htm : (wantL s l)[i] ∈ wantL s l := List.getElem_mem _
      have hgi : (wantL s l)[i]? = some (wantL s l)[i] := by simp
      have hni : (wantL s l)[i] ∉ (wantL s l).take i := fun h => by
        obtain ⟨q, hq, e⟩ := List.getElem_of_mem h
        rw [List.length_take] at hq
        rw [List.getElem_take] at e
        have := List.pairwise_iff_getElem.1 (want_sorted s l) q i (by omega) (by omega) (by omega)
        omega
      have hM1 := h5 (wantL s l)[i]
      rw [if_neg hni] at hM1
      have hW1 := wantM_get htm
      generalize hto : (wantL s l)[i] = t at hnx htm hgi hni hM1 hW1
      have rw_1 : (nextL s told to l).1 = t := by rw [hnx]
      have rw_2 : (nextL s told to l).2 = true := by rw [hnx]
      have hgo := tick_go (c := T + i) (told := told) (last := last) (by omega) h6
      have hsp := tick_stop (c := T + i) (by omega)
      have rw_3 : (aget (wantM s l) t).getD false = true := by rw [hW1]; rfl
      have rw_4 : (aget M t).getD false = false := by rw [hM1]; rfl
      have rw_k : ((100 * (T + i) : Nat) : Int) + 100 = ((100 * (T + (i + 1)) : Nat) : Int) := by omega
      (refine st_y S (Yr.ys (ys_ext (Ev.t rfl) rfl)) rfl ?_; clear S a w; intro a w S)
      refine st_nil ?_
      (refine (then_normal (hK4 _ _ ?_)); clear hK4)
      refine wp_seq_k fun _ hK4 => ?_
      refine st_then S (Ev.t rfl) ?_
      refine wp_skip ?_
      (refine (then_normal (hK4 _ _ ?_)); clear hK4)
      refine wp_block ?_
      refine wp_seq_k fun _ hK4 => ?_
      refine wp_region_lit ?_
      (refine st_y S (Yr.ys (ys_move (Ev.t rfl))) rfl ?_; clear S a w; intro a w S)
      (refine st_y S (Yr.ys (ys_move (Ev.t rfl))) rfl ?_; clear S a w; intro a w S)
      (refine st_y S (Yr.ys (ys_bld (ps := []) (us := [_, _, _, _]) bld56 EvL.nil rfl)) rfl ?_; clear S a w; intro a w S)
      (refine st_y S (Yr.ys (ys_move (Ev.t rfl))) rfl ?_; clear S a w; intro a w S)
      (refine st_m (op_calls S Try.call31 (EvL.cons (Ev.t rfl) EvL.nil) (c31 _ _ _ (by exact .old S.wd (by assumption)) (by omega)) rfl ?_); clear S a w; rintro _ _ ⟨A1, c1, rfl, rfl⟩ a w S)
      (replace S := S.pull 6 rfl; try simp only [List.set_cons_zero, List.set_cons_succ, List.eraseIdx_cons_succ, List.eraseIdx_cons_zero] at S; replace S := S.pull 6 rfl; try simp only [List.set_cons_zero, List.set_cons_succ, List.eraseIdx_cons_succ, List.eraseIdx_cons_zero] at S; replace S := S.pull 6 rfl; try simp only [List.set_cons_zero, List.set_cons_succ, List.eraseIdx_cons_succ, List.eraseIdx_cons_zero] at S; refine st_m (op_callO S Try.call30 (EvL.cons (Ev.t rfl) (EvL.cons (Ev.t rfl) (EvL.cons (Ev.t rfl) (EvL.cons (Ev.t rfl) EvL.nil)))) (c30 S.wd (by first | assumption | omega | exact Sl.nil_ | exact .old S.wd (by assumption) | exact Sl.of_own S.wd (k := 0) rfl (fun _ => rfl) | exact Sl.of_own S.wd (k := 1) rfl (fun _ => rfl) | exact Sl.of_own S.wd (k := 2) rfl (fun _ => rfl) | exact Sl.of_own S.wd (k := 3) rfl (fun _ => rfl) | exact Sl.of_own S.wd (k := 4) rfl (fun _ => rfl) | exact Sl.of_own S.wd (k := 5) rfl (fun _ => rfl) | exact Sl.of_own S.wd (k := 6) rfl (fun _ => rfl) | (intro _ W'; first | exact .old W' (by assumption) | exact Sl.of_own W' (k := 0) rfl (fun _ => rfl) | exact Sl.of_own W' (k := 1) rfl (fun _ => rfl) | exact Sl.of_own W' (k := 2) rfl (fun _ => rfl) | exact Sl.of_own W' (k := 3) rfl (fun _ => rfl) | exact Sl.of_own W' (k := 4) rfl (fun _ => rfl) | exact Sl.of_own W' (k := 5) rfl (fun _ => rfl) | exact Sl.of_own W' (k := 6) rfl (fun _ => rfl)) | (simp at *; omega)) (by first | assumption | omega | exact Sl.nil_ | exact .old S.wd (by assumption) | exact Sl.of_own S.wd (k := 0) rfl (fun _ => rfl) | exact Sl.of_own S.wd (k := 1) rfl (fun _ => rfl) | exact Sl.of_own S.wd (k := 2) rfl (fun _ => rfl) | exact Sl.of_own S.wd (k := 3) rfl (fun _ => rfl) | exact Sl.of_own S.wd (k := 4) rfl (fun _ => rfl) | exact Sl.of_own S.wd (k := 5) rfl (fun _ => rfl) | exact Sl.of_own S.wd (k := 6) rfl (fun _ => rfl) | (simp at *; omega)) (by first | assumption | omega | exact Sl.nil_ | exact .old S.wd (by assumption) | exact Sl.of_own S.wd (k := 0) rfl (fun _ => rfl) | exact Sl.of_own S.wd (k := 1) rfl (fun _ => rfl) | exact Sl.of_own S.wd (k := 2) rfl (fun _ => rfl) | exact Sl.of_own S.wd (k := 3) rfl (fun _ => rfl) | exact Sl.of_own S.wd (k := 4) rfl (fun _ => rfl) | exact Sl.of_own S.wd (k := 5) rfl (fun _ => rfl) | exact Sl.of_own S.wd (k := 6) rfl (fun _ => rfl) | (simp at *; omega)) (by first | assumption | omega | exact Sl.nil_ | exact .old S.wd (by assumption) | exact Sl.of_own S.wd (k := 0) rfl (fun _ => rfl) | exact Sl.of_own S.wd (k := 1) rfl (fun _ => rfl) | exact Sl.of_own S.wd (k := 2) rfl (fun _ => rfl) | exact Sl.of_own S.wd (k := 3) rfl (fun _ => rfl) | exact Sl.of_own S.wd (k := 4) rfl (fun _ => rfl) | exact Sl.of_own S.wd (k := 5) rfl (fun _ => rfl) | exact Sl.of_own S.wd (k := 6) rfl (fun _ => rfl) | (simp at *; omega)) (by first | assumption | omega | exact Sl.nil_ | exact .old S.wd (by assumption) | exact Sl.of_own S.wd (k := 0) rfl (fun _ => rfl) | exact Sl.of_own S.wd (k := 1) rfl (fun _ => rfl) | exact Sl.of_own S.wd (k := 2) rfl (fun _ => rfl) | exact Sl.of_own S.wd (k := 3) rfl (fun _ => rfl) | exact Sl.of_own S.wd (k := 4) rfl (fun _ => rfl) | exact Sl.of_own S.wd (k := 5) rfl (fun _ => rfl) | exact Sl.of_own S.wd (k := 6) rfl (fun _ => rfl) | (intro _ W'; first | exact .old W' (by assumption) | exact Sl.of_own W' (k := 0) rfl (fun _ => rfl) | exact Sl.of_own W' (k := 1) rfl (fun _ => rfl) | exact Sl.of_own W' (k := 2) rfl (fun _ => rfl) | exact Sl.of_own W' (k := 3) rfl (fun _ => rfl) | exact Sl.of_own W' (k := 4) rfl (fun _ => rfl) | exact Sl.of_own W' (k := 5) rfl (fun _ => rfl) | exact Sl.of_own W' (k := 6) rfl (fun _ => rfl)) | (simp at *; omega))) rfl ?_) <;> clear S a w)
      rintro _ _ ⟨gm1, B1, c2, rfl, rfl⟩ a w S
      rw [rw_1] at S
      (refine st_y S (Yr.ys (ys_assign (Ev.t rfl))) rfl ?_; clear S a w; intro a w S)
      refine st_nil ?_
      (refine (then_normal (hK4 _ _ ?_)); clear hK4)
      refine wp_seq_k fun _ hK4 => ?_
      refine wp_seq_k fun _ hK5 => ?_
      refine wp_region_lit ?_
      (refine st_y S (Yr.ys (ys_move (Ev.t rfl))) rfl ?_; clear S a w; intro a w S)
      (refine st_y S (Yr.ys (ys_lenS Try.underlying52 (Ev.t rfl))) rfl ?_; clear S a w; intro a w S)
      (refine st_y S (Yr.ys (ys_F (by omega) (ys_neq (Ev.t rfl) Ev.c))) rfl ?_; clear S a w; intro a w S)
      (refine st_y S (Yr.ys (ys_move (Ev.t rfl))) rfl ?_; clear S a w; intro a w S)
      (refine st_yt S rfl rfl (Yr.ys (ys_move (Ev.t rfl))) rfl ?_; clear S a w; intro a w S)
      (refine st_yt S rfl rfl (Yr.ys (ys_ixS (j := 0) Try.underlying52 Try.sizeOf64 (Ev.t rfl) Ev.c (fun _ => by omega))) rfl ?_; clear S a w; intro a w S)
      (refine st_yt S rfl rfl (Yr.ys (ys_field (FieldT.mk Try.underlying64 rfl Try.sizeOf3 rfl) (Ev.t rfl))) rfl ?_; clear S a w; intro a w S)
      (refine st_yt S rfl rfl (Yr.ys (ys_ld ⟨Try.isAgg3, Try.sizeOf3⟩ (Ev.t rfl) (k := 3) rfl rfl)) rfl ?_; clear S a w; intro a w S)
      (refine st_yt S rfl rfl (Yr.ys (ys_F (by omega) (ys_neq (Ev.t rfl) Ev.c))) rfl ?_; clear S a w; intro a w S)
      (refine st_y S (Yr.ys (ys_pickF (Ev.t rfl) (Ev.t rfl))) rfl ?_; clear S a w; intro a w S)
      (refine st_y S (Yr.ys (ys_move (Ev.t rfl))) rfl ?_; clear S a w; intro a w S)
      (refine st_yt S rfl rfl (Yr.ys (ys_move (Ev.t rfl))) rfl ?_; clear S a w; intro a w S)
      (refine st_yt S rfl rfl (Yr.ys (ys_ixS (j := 0) Try.underlying52 Try.sizeOf64 (Ev.t rfl) Ev.c (fun _ => by omega))) rfl ?_; clear S a w; intro a w S)
      (refine st_yt S rfl rfl (Yr.ys (ys_field (FieldT.mk Try.underlying64 rfl Try.sizeOf3 rfl) (Ev.t rfl))) rfl ?_; clear S a w; intro a w S)
      (refine st_yt S rfl rfl (Yr.ys (ys_ld ⟨Try.isAgg3, Try.sizeOf3⟩ (Ev.t rfl) (k := 3) rfl rfl)) rfl ?_; clear S a w; intro a w S)
      (refine st_yt S rfl rfl (Yr.ys (ys_move (Ev.t rfl))) rfl ?_; clear S a w; intro a w S)
      (refine st_yt S rfl rfl (Yr.ys (ys_F (by omega) (ys_neq (Ev.t rfl) (Ev.t rfl)))) rfl ?_; clear S a w; intro a w S)
      (refine st_y S (Yr.ys (ys_pickF (Ev.t rfl) (Ev.t rfl))) rfl ?_; clear S a w; intro a w S)
      (refine st_y S (Yr.ys (ys_move (Ev.t rfl))) rfl ?_; clear S a w; intro a w S)
      (refine st_yt S rfl rfl (Yr.ys (ys_move (Ev.t rfl))) rfl ?_; clear S a w; intro a w S)
      (refine st_yt S rfl rfl (Yr.ys (ys_move (Ev.t rfl))) rfl ?_; clear S a w; intro a w S)
      (refine st_yt S rfl rfl (Yr.ys (ys_ixS (j := 0) Try.underlying52 Try.sizeOf64 (Ev.t rfl) Ev.c (fun _ => by omega))) rfl ?_; clear S a w; intro a w S)
      (refine st_yt S rfl rfl (Yr.ys (ys_field (FieldT.mk Try.underlying64 rfl Try.sizeOf3 rfl) (Ev.t rfl))) rfl ?_; clear S a w; intro a w S)
      (refine st_yt S rfl rfl (Yr.ys (ys_ld ⟨Try.isAgg3, Try.sizeOf3⟩ (Ev.t rfl) (k := 3) rfl rfl)) rfl ?_; clear S a w; intro a w S)
      (refine st_yt S rfl rfl (Yr.ys (ys_look mapT51 (Ev.t rfl) (Ev.t rfl) (j := 8) rfl)) rfl ?_; clear S a w; intro a w S)
      rw [rw_3] at S
      (refine st_yt S rfl rfl (Yr.ys (ys_not (Ev.t rfl))) rfl ?_; clear S a w; intro a w S)
      (refine st_y S (Yr.ys (ys_pickF (Ev.t rfl) (Ev.t rfl))) rfl ?_; clear S a w; intro a w S)
      (refine st_y S (Yr.ys (ys_move (Ev.t rfl))) rfl ?_; clear S a w; intro a w S)
      (refine st_yt S rfl rfl (Yr.ys (ys_move (Ev.t rfl))) rfl ?_; clear S a w; intro a w S)
      (refine st_yt S rfl rfl (Yr.ys (ys_move (Ev.t rfl))) rfl ?_; clear S a w; intro a w S)
      (refine st_yt S rfl rfl (Yr.ys (ys_ixS (j := 0) Try.underlying52 Try.sizeOf64 (Ev.t rfl) Ev.c (fun _ => by omega))) rfl ?_; clear S a w; intro a w S)
      (refine st_yt S rfl rfl (Yr.ys (ys_field (FieldT.mk Try.underlying64 rfl Try.sizeOf3 rfl) (Ev.t rfl))) rfl ?_; clear S a w; intro a w S)
      (refine st_yt S rfl rfl (Yr.ys (ys_ld ⟨Try.isAgg3, Try.sizeOf3⟩ (Ev.t rfl) (k := 3) rfl rfl)) rfl ?_; clear S a w; intro a w S)
      (refine st_yt S rfl rfl (Yr.ys (ys_look mapT51 (Ev.t rfl) (Ev.t rfl) (j := 7) rfl)) rfl ?_; clear S a w; intro a w S)
      rw [rw_4] at S
      (refine st_y S (Yr.ys (ys_pickF (Ev.t rfl) (Ev.t rfl))) rfl ?_; clear S a w; intro a w S)
      refine st_nil ?_
      (refine (then_normal (hK5 _ _ ?_)); clear hK5)
      refine st_else S (Ev.t rfl) ?_
      refine wp_skip ?_
      (refine (then_normal (hK4 _ _ ?_)); clear hK4)
      refine wp_seq_k fun _ hK4 => ?_
      refine wp_region_lit ?_
      (refine st_y S (Yr.ys (ys_move (Ev.t rfl))) rfl ?_; clear S a w; intro a w S)
      (refine st_y S (Yr.ys (ys_move (Ev.t rfl))) rfl ?_; clear S a w; intro a w S)
      (refine st_y S (Yr.ys (ys_ixS (j := 0) Try.underlying52 Try.sizeOf64 (Ev.t rfl) Ev.c (fun _ => by omega))) rfl ?_; clear S a w; intro a w S)
      (refine st_y S (Yr.ys (ys_field (FieldT.mk Try.underlying64 rfl Try.sizeOf3 rfl) (Ev.t rfl))) rfl ?_; clear S a w; intro a w S)
      (refine st_y S (Yr.ys (ys_ld ⟨Try.isAgg3, Try.sizeOf3⟩ (Ev.t rfl) (k := 3) rfl rfl)) rfl ?_; clear S a w; intro a w S)
      (refine st_m (op_mapUpd S mapT51 (Ev.t rfl) (Ev.t rfl) Ev.c (j := 7) rfl ?_); clear S a w; intro a w S)
      refine st_nil ?_
      (refine (then_normal (hK4 _ _ ?_)); clear hK4)
      refine wp_seq_k fun _ hK4 => ?_
      refine wp_seq_k fun _ hK5 => ?_
      refine wp_region_lit ?_
      (refine st_y S (Yr.ys (ys_move (Ev.t rfl))) rfl ?_; clear S a w; intro a w S)
      (refine st_y S (Yr.ys (ys_move (Ev.t rfl))) rfl ?_; clear S a w; intro a w S)
      (refine st_y S (Yr.ys (ys_addI (Ev.t rfl) Ev.c (fun _ => by unfold I64; omega))) rfl ?_; clear S a w; intro a w S)
      (refine st_y S (Yr.ys (ys_bld (ps := []) (us := [_, _, _, _]) bld56 EvL.nil rfl)) rfl ?_; clear S a w; intro a w S)
      (refine st_y S (Yr.ys (ys_move (Ev.t rfl))) rfl ?_; clear S a w; intro a w S)
      (refine st_m (op_callO S Try.call30 (EvL.cons (Ev.t rfl) (EvL.cons (Ev.t rfl) (EvL.cons (Ev.t rfl) (EvL.cons (Ev.t rfl) EvL.nil)))) (o30 S.wd (by first | assumption | omega | exact Sl.nil_ | exact .old S.wd (by assumption) | exact Sl.of_own S.wd (k := 0) rfl (fun _ => rfl) | exact Sl.of_own S.wd (k := 1) rfl (fun _ => rfl) | exact Sl.of_own S.wd (k := 2) rfl (fun _ => rfl) | exact Sl.of_own S.wd (k := 3) rfl (fun _ => rfl) | exact Sl.of_own S.wd (k := 4) rfl (fun _ => rfl) | exact Sl.of_own S.wd (k := 5) rfl (fun _ => rfl) | exact Sl.of_own S.wd (k := 6) rfl (fun _ => rfl) | exact Sl.of_own S.wd (k := 7) rfl (fun _ => rfl) | exact Sl.of_own S.wd (k := 8) rfl (fun _ => rfl) | (intro _ W'; first | exact .old W' (by assumption) | exact Sl.of_own W' (k := 0) rfl (fun _ => rfl) | exact Sl.of_own W' (k := 1) rfl (fun _ => rfl) | exact Sl.of_own W' (k := 2) rfl (fun _ => rfl) | exact Sl.of_own W' (k := 3) rfl (fun _ => rfl) | exact Sl.of_own W' (k := 4) rfl (fun _ => rfl) | exact Sl.of_own W' (k := 5) rfl (fun _ => rfl) | exact Sl.of_own W' (k := 6) rfl (fun _ => rfl) | exact Sl.of_own W' (k := 7) rfl (fun _ => rfl) | exact Sl.of_own W' (k := 8) rfl (fun _ => rfl)) | (simp at *; omega)) (by first | assumption | omega | exact Sl.nil_ | exact .old S.wd (by assumption) | exact Sl.of_own S.wd (k := 0) rfl (fun _ => rfl) | exact Sl.of_own S.wd (k := 1) rfl (fun _ => rfl) | exact Sl.of_own S.wd (k := 2) rfl (fun _ => rfl) | exact Sl.of_own S.wd (k := 3) rfl (fun _ => rfl) | exact Sl.of_own S.wd (k := 4) rfl (fun _ => rfl) | exact Sl.of_own S.wd (k := 5) rfl (fun _ => rfl) | exact Sl.of_own S.wd (k := 6) rfl (fun _ => rfl) | exact Sl.of_own S.wd (k := 7) rfl (fun _ => rfl) | exact Sl.of_own S.wd (k := 8) rfl (fun _ => rfl) | (simp at *; omega))) rfl ?_) <;> clear S a w)
      rintro _ _ ⟨rfl, rfl⟩ a w S
      (refine st_y S (Yr.ys (ys_lenS Try.underlying52 (Ev.t rfl))) rfl ?_; clear S a w; intro a w S)
      (refine st_y S (Yr.ys (ys_F (by omega) (ys_gtr (Ev.t rfl) Ev.c))) rfl ?_; clear S a w; intro a w S)
      refine st_nil ?_
      (refine (then_normal (hK5 _ _ ?_)); clear hK5)
      refine st_else S (Ev.t rfl) ?_
      refine wp_skip ?_
      (refine (then_normal (hK4 _ _ ?_)); clear hK4)
      refine wp_region_lit ?_
      (refine st_y S (Yr.ys (ys_move (Ev.t rfl))) rfl ?_; clear S a w; intro a w S)
      (refine st_y S (Yr.ys (ys_addI (Ev.t rfl) Ev.c (fun _ => by unfold I64; omega))) rfl ?_; clear S a w; intro a w S)
      rw [rw_k] at S
      (refine st_y S (Yr.ys (ys_assign (Ev.t rfl))) rfl ?_; clear S a w; intro a w S)
      refine st_nil ?_
      refine (in_normal (then_normal ?_))
      refine ⟨(i + 1, seen.push j, aput M t true, true, ((100 * (T + i) : Nat) : Int), t), ⟨⟨by simp [h1], by dsimp only; omega, ?_, ?_⟩, fun n => ?_, .inr ⟨by dsimp only; omega, rfl, by dsimp only; omega⟩, fun _ => by simpa using hgi, fun h => absurd h (by simp)⟩, by dsimp only; omega, S.picks (by repeat (first | exact Fits.nil | refine Fits.skip rfl ?_ | refine Fits.cons rfl ?_)) (by repeat (first | exact Picks.nil | (refine Picks.rest ?_; (repeat (first | exact List.Sublist.refl _ | refine List.Sublist.cons_cons _ ?_ | refine List.Sublist.cons _ ?_)); done) | refine Picks.take 0 rfl ?_ | refine Picks.take 1 rfl ?_ | refine Picks.take 2 rfl ?_ | refine Picks.take 3 rfl ?_ | refine Picks.take 4 rfl ?_ | refine Picks.take 5 rfl ?_ | refine Picks.take 6 rfl ?_ | refine Picks.take 7 rfl ?_ | refine Picks.take 8 rfl ?_ | refine Picks.take 9 rfl ?_ | refine Picks.take 10 rfl ?_ | refine Picks.take 11 rfl ?_))⟩
      · dsimp only
        rw [Array.toList_push, List.nodup_append]
        exact ⟨h3, by simp, fun a ha b hb => by simp at hb; subst hb; exact fun e => hns (by rw [← e]; simpa using ha)⟩
      · intro x hx
        rcases Array.mem_push.1 hx with hx | rfl
        · exact h4 x hx
        · exact hjm
      · dsimp only
        rw [aget_put, h5, List.take_add_one, hgi]
        by_cases e : n = t
        · subst e; simp
        · simp [e]
  · have hgo := tick_go (c := T) (told := told) (last := last) (by omega) (by
      rcases hst with ⟨h1, h2⟩ | ⟨h1, h2, h3, _⟩
      · exact .inl ⟨h1, h2⟩
      · exact .inr ⟨h1, h2, h3⟩)
    rcases Nat.eq_zero_or_pos m with h0 | h0
    · have hnx := next_none (s := s) (l := l) (told := told) (to := to) (List.eq_nil_of_length_eq_zero (by omega))
      have hn2 : (nextL s told to l).2 = false := by rw [hnx]
      refine wp_seq_k fun _ hK3 => ?_
      refine wp_region_lit ?_
      (refine st_y S (Yr.ys (ys_F (by omega) (ys_lss (Ev.t rfl) (Ev.t rfl)))) rfl ?_; clear S a w; intro a w S)
      refine st_nil ?_
      (refine (then_normal (hK3 _ _ ?_)); clear hK3)
      refine wp_seq_k fun _ hK3 => ?_
      refine st_else S (Ev.t rfl) ?_
      refine wp_exit ?_
      (refine (then_exit (then_exit (in_here (then_normal (hK1 _ _ ?_))))); clear hK1)
      refine wp_seq_k fun _ hK1 => ?_
      refine wp_region_lit ?_
      (refine st_y S (Yr.ys (ys_move (Ev.t rfl))) rfl ?_; clear S a w; intro a w S)
      (refine st_y S (Yr.ys (ys_move (Ev.t rfl))) rfl ?_; clear S a w; intro a w S)
      (refine st_y S (Yr.ys (ys_bld (ps := []) (us := [_, _, _, _]) bld56 EvL.nil rfl)) rfl ?_; clear S a w; intro a w S)
      (refine st_y S (Yr.ys (ys_move (Ev.t rfl))) rfl ?_; clear S a w; intro a w S)
      (replace S := S.pull 3 rfl; try simp only [List.set_cons_zero, List.set_cons_succ, List.eraseIdx_cons_succ, List.eraseIdx_cons_zero] at S; replace S := S.pull 3 rfl; try simp only [List.set_cons_zero, List.set_cons_succ, List.eraseIdx_cons_succ, List.eraseIdx_cons_zero] at S; replace S := S.pull 3 rfl; try simp only [List.set_cons_zero, List.set_cons_succ, List.eraseIdx_cons_succ, List.eraseIdx_cons_zero] at S; refine st_m (op_callO S Try.call30 (EvL.cons (Ev.t rfl) (EvL.cons (Ev.t rfl) (EvL.cons (Ev.t rfl) (EvL.cons (Ev.t rfl) EvL.nil)))) (c30 S.wd (by first | assumption | omega | exact Sl.nil_ | exact .old S.wd (by assumption) | exact Sl.of_own S.wd (k := 0) rfl (fun _ => rfl) | exact Sl.of_own S.wd (k := 1) rfl (fun _ => rfl) | exact Sl.of_own S.wd (k := 2) rfl (fun _ => rfl) | exact Sl.of_own S.wd (k := 3) rfl (fun _ => rfl) | (intro _ W'; first | exact .old W' (by assumption) | exact Sl.of_own W' (k := 0) rfl (fun _ => rfl) | exact Sl.of_own W' (k := 1) rfl (fun _ => rfl) | exact Sl.of_own W' (k := 2) rfl (fun _ => rfl) | exact Sl.of_own W' (k := 3) rfl (fun _ => rfl)) | (simp at *; omega)) (by first | assumption | omega | exact Sl.nil_ | exact .old S.wd (by assumption) | exact Sl.of_own S.wd (k := 0) rfl (fun _ => rfl) | exact Sl.of_own S.wd (k := 1) rfl (fun _ => rfl) | exact Sl.of_own S.wd (k := 2) rfl (fun _ => rfl) | exact Sl.of_own S.wd (k := 3) rfl (fun _ => rfl) | (simp at *; omega)) (by first | assumption | omega | exact Sl.nil_ | exact .old S.wd (by assumption) | exact Sl.of_own S.wd (k := 0) rfl (fun _ => rfl) | exact Sl.of_own S.wd (k := 1) rfl (fun _ => rfl) | exact Sl.of_own S.wd (k := 2) rfl (fun _ => rfl) | exact Sl.of_own S.wd (k := 3) rfl (fun _ => rfl) | (simp at *; omega)) (by first | assumption | omega | exact Sl.nil_ | exact .old S.wd (by assumption) | exact Sl.of_own S.wd (k := 0) rfl (fun _ => rfl) | exact Sl.of_own S.wd (k := 1) rfl (fun _ => rfl) | exact Sl.of_own S.wd (k := 2) rfl (fun _ => rfl) | exact Sl.of_own S.wd (k := 3) rfl (fun _ => rfl) | (simp at *; omega)) (by first | assumption | omega | exact Sl.nil_ | exact .old S.wd (by assumption) | exact Sl.of_own S.wd (k := 0) rfl (fun _ => rfl) | exact Sl.of_own S.wd (k := 1) rfl (fun _ => rfl) | exact Sl.of_own S.wd (k := 2) rfl (fun _ => rfl) | exact Sl.of_own S.wd (k := 3) rfl (fun _ => rfl) | (intro _ W'; first | exact .old W' (by assumption) | exact Sl.of_own W' (k := 0) rfl (fun _ => rfl) | exact Sl.of_own W' (k := 1) rfl (fun _ => rfl) | exact Sl.of_own W' (k := 2) rfl (fun _ => rfl) | exact Sl.of_own W' (k := 3) rfl (fun _ => rfl)) | (simp at *; omega))) rfl ?_) <;> clear S a w)
      (refine st_m (op_callO S Try.call30 (EvL.cons (Ev.t rfl) (EvL.cons (Ev.t rfl) (EvL.cons (Ev.t rfl) (EvL.cons (Ev.t rfl) EvL.nil)))) (p30 S.wd (by first | assumption | omega | exact Sl.nil_ | exact .old S.wd (by assumption) | exact Sl.of_own S.wd (k := 0) rfl (fun _ => rfl) | exact Sl.of_own S.wd (k := 1) rfl (fun _ => rfl) | exact Sl.of_own S.wd (k := 2) rfl (fun _ => rfl) | exact Sl.of_own S.wd (k := 3) rfl (fun _ => rfl) | (intro _ W'; first | exact .old W' (by assumption) | exact Sl.of_own W' (k := 0) rfl (fun _ => rfl) | exact Sl.of_own W' (k := 1) rfl (fun _ => rfl) | exact Sl.of_own W' (k := 2) rfl (fun _ => rfl) | exact Sl.of_own W' (k := 3) rfl (fun _ => rfl)) | (simp at *; omega)) (by first | assumption | omega | exact Sl.nil_ | exact .old S.wd (by assumption) | exact Sl.of_own S.wd (k := 0) rfl (fun _ => rfl) | exact Sl.of_own S.wd (k := 1) rfl (fun _ => rfl) | exact Sl.of_own S.wd (k := 2) rfl (fun _ => rfl) | exact Sl.of_own S.wd (k := 3) rfl (fun _ => rfl) | (simp at *; omega)) (by first | assumption | omega | exact Sl.nil_ | exact .old S.wd (by assumption) | exact Sl.of_own S.wd (k := 0) rfl (fun _ => rfl) | exact Sl.of_own S.wd (k := 1) rfl (fun _ => rfl) | exact Sl.of_own S.wd (k := 2) rfl (fun _ => rfl) | exact Sl.of_own S.wd (k := 3) rfl (fun _ => rfl) | (simp at *; omega))) rfl ?_) <;> clear S a w)
      rintro _ _ ⟨rfl, rfl⟩ a w S
      (refine st_y S (Yr.ys (ys_lenS Try.underlying52 (Ev.t rfl))) rfl ?_; clear S a w; intro a w S)
      (refine st_y S (Yr.ys (ys_move (Ev.t rfl))) rfl ?_; clear S a w; intro a w S)
      (refine st_y S (Yr.ys (ys_lenMap Try.underlying51 (Ev.t rfl) (j := 3) rfl)) rfl ?_; clear S a w; intro a w S)
      (refine st_y S (Yr.ys (ys_min Ev.c (Ev.t rfl))) rfl ?_; clear S a w; intro a w S)
      (refine st_y S (Yr.ys (ys_T (by omega) (ys_eql (Ev.t rfl) (Ev.t rfl)))) rfl ?_; clear S a w; intro a w S)
      (refine st_y S (Yr.ys (ys_assign (Ev.t rfl))) rfl ?_; clear S a w; intro a w S)
      refine st_nil ?_
      (refine (then_normal (hK1 _ _ ?_)); clear hK1)
      refine wp_ret ?_
      refine st_ret S (results1 S Try.results5 (Rv.tmp rfl)) ?_
      exact ⟨rfl, S.wd.below⟩
    · have hnx := next_want (s := s) (l := l) (told := told) (to := to) (i := 0) (by omega) (by
        rcases hst with ⟨h1, h2⟩ | ⟨h1, h2, h3, h4⟩
        · exact .inl ⟨h2, rfl⟩
        · exact .inr ⟨h2, fun _ => by rw [hm]; exact h4, fun h => absurd h (by simp)⟩)
      have hn2 : (nextL s told to l).2 = true := by rw [hnx]
      refine wp_seq_k fun _ hK3 => ?_
      refine wp_region_lit ?_
      (refine st_y S (Yr.ys (ys_F (by omega) (ys_lss (Ev.t rfl) (Ev.t rfl)))) rfl ?_; clear S a w; intro a w S)
      refine st_nil ?_
      (refine (then_normal (hK3 _ _ ?_)); clear hK3)
      refine wp_seq_k fun _ hK3 => ?_
      refine st_else S (Ev.t rfl) ?_
      refine wp_exit ?_
      (refine (then_exit (then_exit (in_here (then_normal (hK1 _ _ ?_))))); clear hK1)
      refine wp_seq_k fun _ hK1 => ?_
      refine wp_region_lit ?_
      (refine st_y S (Yr.ys (ys_move (Ev.t rfl))) rfl ?_; clear S a w; intro a w S)
      (refine st_y S (Yr.ys (ys_move (Ev.t rfl))) rfl ?_; clear S a w; intro a w S)
      (refine st_y S (Yr.ys (ys_bld (ps := []) (us := [_, _, _, _]) bld56 EvL.nil rfl)) rfl ?_; clear S a w; intro a w S)
      (refine st_y S (Yr.ys (ys_move (Ev.t rfl))) rfl ?_; clear S a w; intro a w S)
      (replace S := S.pull 3 rfl; try simp only [List.set_cons_zero, List.set_cons_succ, List.eraseIdx_cons_succ, List.eraseIdx_cons_zero] at S; replace S := S.pull 3 rfl; try simp only [List.set_cons_zero, List.set_cons_succ, List.eraseIdx_cons_succ, List.eraseIdx_cons_zero] at S; replace S := S.pull 3 rfl; try simp only [List.set_cons_zero, List.set_cons_succ, List.eraseIdx_cons_succ, List.eraseIdx_cons_zero] at S; refine st_m (op_callO S Try.call30 (EvL.cons (Ev.t rfl) (EvL.cons (Ev.t rfl) (EvL.cons (Ev.t rfl) (EvL.cons (Ev.t rfl) EvL.nil)))) (c30 S.wd (by first | assumption | omega | exact Sl.nil_ | exact .old S.wd (by assumption) | exact Sl.of_own S.wd (k := 0) rfl (fun _ => rfl) | exact Sl.of_own S.wd (k := 1) rfl (fun _ => rfl) | exact Sl.of_own S.wd (k := 2) rfl (fun _ => rfl) | exact Sl.of_own S.wd (k := 3) rfl (fun _ => rfl) | (intro _ W'; first | exact .old W' (by assumption) | exact Sl.of_own W' (k := 0) rfl (fun _ => rfl) | exact Sl.of_own W' (k := 1) rfl (fun _ => rfl) | exact Sl.of_own W' (k := 2) rfl (fun _ => rfl) | exact Sl.of_own W' (k := 3) rfl (fun _ => rfl)) | (simp at *; omega)) (by first | assumption | omega | exact Sl.nil_ | exact .old S.wd (by assumption) | exact Sl.of_own S.wd (k := 0) rfl (fun _ => rfl) | exact Sl.of_own S.wd (k := 1) rfl (fun _ => rfl) | exact Sl.of_own S.wd (k := 2) rfl (fun _ => rfl) | exact Sl.of_own S.wd (k := 3) rfl (fun _ => rfl) | (simp at *; omega)) (by first | assumption | omega | exact Sl.nil_ | exact .old S.wd (by assumption) | exact Sl.of_own S.wd (k := 0) rfl (fun _ => rfl) | exact Sl.of_own S.wd (k := 1) rfl (fun _ => rfl) | exact Sl.of_own S.wd (k := 2) rfl (fun _ => rfl) | exact Sl.of_own S.wd (k := 3) rfl (fun _ => rfl) | (simp at *; omega)) (by first | assumption | omega | exact Sl.nil_ | exact .old S.wd (by assumption) | exact Sl.of_own S.wd (k := 0) rfl (fun _ => rfl) | exact Sl.of_own S.wd (k := 1) rfl (fun _ => rfl) | exact Sl.of_own S.wd (k := 2) rfl (fun _ => rfl) | exact Sl.of_own S.wd (k := 3) rfl (fun _ => rfl) | (simp at *; omega)) (by first | assumption | omega | exact Sl.nil_ | exact .old S.wd (by assumption) | exact Sl.of_own S.wd (k := 0) rfl (fun _ => rfl) | exact Sl.of_own S.wd (k := 1) rfl (fun _ => rfl) | exact Sl.of_own S.wd (k := 2) rfl (fun _ => rfl) | exact Sl.of_own S.wd (k := 3) rfl (fun _ => rfl) | (intro _ W'; first | exact .old W' (by assumption) | exact Sl.of_own W' (k := 0) rfl (fun _ => rfl) | exact Sl.of_own W' (k := 1) rfl (fun _ => rfl) | exact Sl.of_own W' (k := 2) rfl (fun _ => rfl) | exact Sl.of_own W' (k := 3) rfl (fun _ => rfl)) | (simp at *; omega))) rfl ?_) <;> clear S a w)
      rintro _ _ ⟨gm1, B1, c1, rfl, rfl⟩ a w S
      (refine st_y S (Yr.ys (ys_lenS Try.underlying52 (Ev.t rfl))) rfl ?_; clear S a w; intro a w S)
      (refine st_y S (Yr.ys (ys_move (Ev.t rfl))) rfl ?_; clear S a w; intro a w S)
      (refine st_y S (Yr.ys (ys_lenMap Try.underlying51 (Ev.t rfl) (j := 5) rfl)) rfl ?_; clear S a w; intro a w S)
      (refine st_y S (Yr.ys (ys_min Ev.c (Ev.t rfl))) rfl ?_; clear S a w; intro a w S)
      (refine st_y S (Yr.ys (ys_T (by omega) (ys_eql (Ev.t rfl) (Ev.t rfl)))) rfl ?_; clear S a w; intro a w S)
      (refine st_y S (Yr.ys (ys_assign (Ev.t rfl))) rfl ?_; clear S a w; intro a w S)
      refine st_nil ?_
      (refine (then_normal (hK1 _ _ ?_)); clear hK1)
      refine wp_ret ?_
      refine st_ret S (results1 S Try.results5 (Rv.tmp rfl)) ?_
      exact ⟨rfl, S.wd.below⟩
end Go.Proofs.Ytjfeeiljinbmjaa
