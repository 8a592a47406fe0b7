/- Layer 1: readings that may be given up, walked. -/
import Derived.Test.YtjfeeiljinbmjaaWire2
import Derived.Test.YtjfeeiljinbmjaaMore10
set_option linter.unusedVariables false
set_option linter.unusedSimpArgs false
set_option maxRecDepth 100000
set_option maxHeartbeats 4000000
namespace Go.Proofs.Ytjfeeiljinbmjaa
open Go.Fw Go.Proofs Go.RowKit

/-- the deferred function of a reading that was given up -/
theorem caught {w0 : World} {L : List Chunk} (g : Nat) (e : Int) (w : World) (W : Wd w0 (.blk g (.cells #[.int .i64 0] 48) :: L) w) :
    CallsD Try.prog 116 #[.pointer (some ⟨g, 0, none⟩)] (.panicking (Pan 48 e)) w fun r u' w' =>
      r = .returned (.tuple #[]) ∧ u' = .panicking [{ v := .iface 48 (.int .i64 e), recovered := true }] ∧ Wd w0 (.blk g (.cells #[.int .i64 e] 48) :: L) w' := by
  refine callsD_of_wpS Try.func116 rfl fun c₀ cs hu => ?_
  have kn := kn_start (args := [.pointer (some ⟨g, 0, none⟩)]) Try.ntmps116 rfl
  generalize ({ tmps := _, defers := [] } : Act) = a at kn ⊢
  apply wpS_seq
  refine wpS_recover (cs' := { c₀ with mode := .panicking [{ v := .iface 48 (.int .i64 e), recovered := true }] } :: cs) (v := .iface 48 (.int .i64 e)) kn rfl (by simp [recoverD, hu]) ?_
  have S : St 18 w0 _ _ _ w := ⟨(kn.put (d := 4) rfl (.iface 48 (.int .i64 e))).put (d := 1) rfl (.iface 48 (.int .i64 e)), W⟩
  generalize ((a.put (some 4) _).put (some 1) _ : Act) = a at S ⊢
  refine wpS_of_wp ?_
  refine wp_seq_k fun _ hK1 => ?_
  refine wp_region_lit ?_
  (refine st_y S (Yr.ys (ys_move (Ev.t rfl))) rfl ?_; clear S a; intro a w S)
  (refine st_y S (Yr.ys (ys_tassHit Try.underlying48 (Ev.t rfl))) rfl ?_; clear S a w; intro a w S)
  (refine st_y S (Yr.ys (ys_move (Ev.t rfl))) rfl ?_; clear S a w; intro a w S)
  (refine st_y S (Yr.ys (ys_ext (Ev.t rfl) rfl)) rfl ?_; clear S a w; intro a w S)
  (refine st_y S (Yr.ys (ys_ext (Ev.t rfl) rfl)) rfl ?_; clear S a w; intro a w S)
  (refine st_y S (Yr.ys (ys_assign (Ev.t rfl))) rfl ?_; clear S a w; intro a w S)
  (refine st_y S (Yr.ys (ys_assign (Ev.t rfl))) rfl ?_; clear S a w; intro a w S)
  refine st_nil ?_
  (refine (then_normal (hK1 _ _ ?_)); clear hK1)
  refine wp_seq_k fun _ hK1 => ?_
  refine wp_seq_k fun _ hK2 => ?_
  refine wp_region_lit ?_
  (refine st_y S (Yr.ys (ys_move (Ev.t rfl))) rfl ?_; clear S a w; intro a w S)
  (refine st_y S (Yr.ys (ys_iNotV (Try.underlying20.trans (by kernel_rfl)) (Ev.t rfl) Ev.c)) rfl ?_; clear S a w; intro a w S)
  (refine st_y S (Yr.ys (ys_move (Ev.t rfl))) rfl ?_; clear S a w; intro a w S)
  (refine st_yt S rfl rfl (Yr.ys (ys_move (Ev.t rfl))) rfl ?_; clear S a w; intro a w S)
  (refine st_yt S rfl rfl (Yr.ys (ys_not (Ev.t rfl))) rfl ?_; clear S a w; intro a w S)
  (refine st_y S (Yr.ys (ys_pickT (Ev.t rfl) (Ev.t rfl))) rfl ?_; clear S a w; intro a w S)
  refine st_nil ?_
  (refine (then_normal (hK2 _ _ ?_)); clear hK2)
  refine st_else S (Ev.t rfl) ?_
  refine wp_skip ?_
  (refine (then_normal (hK1 _ _ ?_)); clear hK1)
  refine wp_region_lit ?_
  (refine st_y S (Yr.ys (ys_move (Ev.t rfl))) rfl ?_; clear S a w; intro a w S)
  (refine st_m (op_st S Try.sizeOf48 (Ev.t rfl) (Ev.t rfl) (k := 0) rfl rfl (by simp) ?_); clear S a w; intro a w S)
  refine st_nil ?_
  exact ⟨S.kn.defers, _, rfl, _, results0 Try.results116, rfl, rfl, S.wd⟩
/-- .. of one that was not -/
theorem idle {w0 : World} {L : List Chunk} (g : Nat) (w : World) (W : Wd w0 (.blk g (.cells #[.int .i64 0] 48) :: L) w) :
    CallsD Try.prog 116 #[.pointer (some ⟨g, 0, none⟩)] .returning w fun r u' w' =>
      r = .returned (.tuple #[]) ∧ u' = .returning ∧ Wd w0 (.blk g (.cells #[.int .i64 0] 48) :: L) w' := by
  refine callsD_of_wpS Try.func116 rfl fun c₀ cs hu => ?_
  have kn := kn_start (args := [.pointer (some ⟨g, 0, none⟩)]) Try.ntmps116 rfl
  generalize ({ tmps := _, defers := [] } : Act) = a at kn ⊢
  apply wpS_seq
  refine wpS_recoverN kn rfl (by simp [recoverD, hu]) ?_
  have S : St 18 w0 _ _ _ w := ⟨(kn.put (d := 4) rfl .nilIface).put (d := 1) rfl .nilIface, W⟩
  generalize ((a.put (some 4) _).put (some 1) _ : Act) = a at S ⊢
  refine wpS_of_wp ?_
  refine wp_seq_k fun _ hK1 => ?_
  refine wp_region_lit ?_
  (refine st_y S (Yr.ys (ys_move (Ev.t rfl))) rfl ?_; clear S a; intro a w S)
  (refine st_y S (Yr.ys (ys_tassNil Try.underlying48 Try.zeroValue48 (Ev.t rfl))) rfl ?_; clear S a w; intro a w S)
  (refine st_y S (Yr.ys (ys_move (Ev.t rfl))) rfl ?_; clear S a w; intro a w S)
  (refine st_y S (Yr.ys (ys_ext (Ev.t rfl) rfl)) rfl ?_; clear S a w; intro a w S)
  (refine st_y S (Yr.ys (ys_ext (Ev.t rfl) rfl)) rfl ?_; clear S a w; intro a w S)
  (refine st_y S (Yr.ys (ys_assign (Ev.t rfl))) rfl ?_; clear S a w; intro a w S)
  (refine st_y S (Yr.ys (ys_assign (Ev.t rfl))) rfl ?_; clear S a w; intro a w S)
  refine st_nil ?_
  (refine (then_normal (hK1 _ _ ?_)); clear hK1)
  refine wp_seq_k fun _ hK1 => ?_
  refine wp_seq_k fun _ hK2 => ?_
  refine wp_region_lit ?_
  (refine st_y S (Yr.ys (ys_move (Ev.t rfl))) rfl ?_; clear S a w; intro a w S)
  (refine st_y S (Yr.ys (ys_iNotN (Try.underlying20.trans (by kernel_rfl)) (Ev.t rfl))) rfl ?_; clear S a w; intro a w S)
  (refine st_y S (Yr.ys (ys_move (Ev.t rfl))) rfl ?_; clear S a w; intro a w S)
  (refine st_skip S rfl rfl rfl rfl ?_; clear S a w; intro a w S)
  (refine st_skip S rfl rfl rfl rfl ?_; clear S a w; intro a w S)
  (refine st_y S (Yr.ys (ys_pickF (Ev.t rfl) Ev.c)) rfl ?_; clear S a w; intro a w S)
  refine st_nil ?_
  (refine (then_normal (hK2 _ _ ?_)); clear hK2)
  refine st_else S (Ev.t rfl) ?_
  refine wp_skip ?_
  (refine (then_normal (hK1 _ _ ?_)); clear hK1)
  refine wp_region_lit ?_
  (refine st_y S (Yr.ys (ys_move (Ev.t rfl))) rfl ?_; clear S a w; intro a w S)
  (refine st_m (op_st S Try.sizeOf48 (Ev.t rfl) (Ev.t rfl) (k := 0) rfl rfl (by simp) ?_); clear S a w; intro a w S)
  refine st_nil ?_
  exact ⟨S.kn.defers, .returning, by cases c₀; simp_all, _, results0 Try.results116, rfl, rfl, S.wd⟩
theorem tryW {w0 w : World} {L : List Chunk} {f : FuncId} {cs : List Value} {R : Int → List Chunk → Prop} (W : Wd w0 L w) (hf : ∀ args w, (callFunc f args).run Try.prog w = .ok (.enter f args) w)
    (hc : ∀ C w1, Wd w0 (C :: L) w1 → RetsP Try.prog f cs.toArray 48 w0 w1 (fun v L' => ∃ L'', L' = C :: L'' ∧ v = .tuple #[] ∧ R 0 L'') (fun x L' => ∃ L'', L' = C :: L'' ∧ R x L'')) :
    RetsO Try.prog 106 #[.func (.func f) #[] cs.toArray] w0 w fun v L' => ∃ x, v = .int .i64 x ∧ R x L' := by
  unfold RetsO
  refine enterD (args := [_]) W Try.func106 rfl Try.ntmps106 rfl fun a S => ?_
  refine wp_seq_k fun _ hK1 => ?_
  refine wp_region_lit ?_
  (refine st_m (op_alloc S Try.zeroValue48 (cs := _) rfl rfl ?_); clear S a; intro g1 a w S)
  refine st_nil ?_
  (refine (then_normal (hK1 _ _ ?_)); clear hK1)
  refine wp_seq_k fun _ hK1 => ?_
  refine wp_region_lit ?_
  (refine st_y S (Yr.ys (ys_mkFunc (EvL.cons (Ev.t rfl) EvL.nil))) rfl ?_; clear S a w; intro a w S)
  refine st_m (op_defer (cs := [_]) S (Ev.t rfl) ?_)
  refine st_nil ?_
  (refine (then_normal (hK1 _ _ ?_)); clear hK1)
  refine wp_seq_k fun _ hK1 => ?_
  refine wp_region_lit ?_
  refine st_m (op_dfr ?_)
  (refine op_y S (Yr.ys (ys_move (Ev.t rfl))) rfl ?_; clear S a w; intro a w S)
  refine st_m (op_dfr ?_)
  refine op_callRPV S (Ev.t rfl) hf EvL.nil (hc _ _ S.wd) rfl ?_ ?_
  · clear S
    rintro _ _ ⟨L1, rfl, rfl, hR⟩ a w S
    refine st_nil ?_
    (refine (then_normal (hK1 _ _ ?_)); clear hK1)
    refine wp_seq_k fun _ hK1 => ?_
    refine wp_region_lit ?_
    refine st_m (op_dfr ?_)
    (refine op_st S Try.sizeOf48 (Ev.t rfl) Ev.c (k := 0) rfl rfl (by simp) ?_; clear S a w; intro a w S)
    refine st_nil ?_
    (refine (then_normal (hK1 _ _ ?_)); clear hK1)
    refine wp_ret ?_
    show Leaves _ _ _ _ (a.defers ++ _) _ _
    rw [S.kn.defers]
    refine leaves_cons (f := 116) (args := #[.pointer (some ⟨g1, 0, none⟩)]) (by simp) (by simp [go_sem]) ?_
    refine (idle (w0 := w0) (L := L1) g1 w (S.wd.sub (List.Sublist.refl _))).mono ?_
    rintro r u' w' ⟨rfl, rfl, W'⟩
    have S' : St 6 w0 _ _ a w' := ⟨S.kn, W'⟩
    have hres := results1 S' Try.results106 (Rv.cell1 (k := 0) ⟨Try.isAgg48, Try.sizeOf48⟩ rfl rfl)
    exact ⟨_, hres, _, L1, rfl, W'.sub (List.sublist_cons_self _ _), 0, rfl, hR⟩
  · clear S
    rintro x _ ⟨L1, rfl, hR⟩ a w S
    refine (then_panic ?_)
    show Leaves _ _ _ _ (a.defers ++ _) _ _
    rw [S.kn.defers]
    refine leaves_cons (f := 116) (args := #[.pointer (some ⟨g1, 0, none⟩)]) (by simp) (by simp [go_sem]) ?_
    refine (caught (w0 := w0) (L := L1) g1 x w (S.wd.sub (List.Sublist.refl _))).mono ?_
    rintro r u' w' ⟨rfl, rfl, W'⟩
    have S' : St 6 w0 _ _ a w' := ⟨S.kn, W'⟩
    have hres := results1 S' Try.results106 (Rv.cell1 (k := 0) ⟨Try.isAgg48, Try.sizeOf48⟩ rfl rfl)
    exact ⟨_, hres, _, L1, rfl, W'.sub (List.sublist_cons_self _ _), x, rfl, hR⟩
/-- a reading at the face -/
theorem triedW {w0 w : World} {L : List Chunk} {g cap k : Nat} {A : Option Addr} {b : List UInt8} {f : FuncId} {cs : List Value} {R : List Chunk → Prop} {E : Int → List Chunk → Prop} (W : Wd w0 (rdr g A cap b k L) w) (hf : ∀ args w, (callFunc f args).run Try.prog w = .ok (.enter f args) w)
    (hc : ∀ C w1, Wd w0 (C :: rdr g A cap b k L) w1 → RetsP Try.prog f cs.toArray 48 w0 w1 (fun v L' => v = .tuple #[] ∧ ∃ k' L'', L' = C :: rdr g A cap b k' L'' ∧ R (rdr g A cap b k' L'')) (fun x L' => x ≠ 0 ∧ ∃ k' L'', L' = C :: rdr g A cap b k' L'' ∧ E x (rdr g A cap b k L''))) :
    RetsO Try.prog 81 #[.pointer (some ⟨g, 0, none⟩), .func (.func f) #[] cs.toArray] w0 w fun v L' => ∃ x, v = .int .i64 x ∧ (x = 0 ∧ R L' ∨ x ≠ 0 ∧ E x L') := by
  unfold Go.Fw.RetsO
  refine enterW2 W Try.func81 rfl Try.ntmps81 rfl fun a S => ?_
  refine wp_seq_k fun _ hK1 => ?_
  refine wp_region_lit ?_
  (refine st_y S (Yr.ys (ys_assign Ev.c)) rfl ?_; clear S a; intro a w S)
  refine st_nil ?_
  (refine (then_normal (hK1 _ _ ?_)); clear hK1)
  refine wp_seq_k fun _ hK1 => ?_
  refine wp_seq_k fun _ hK2 => ?_
  refine wp_region_lit ?_
  (refine st_y S (Yr.ys (ys_move (Ev.t rfl))) rfl ?_; clear S a w; intro a w S)
  (refine st_y S (ys_call Try.call77 (EvL.cons (Ev.t rfl) EvL.nil) (fun hp w W => c77 _ _ (by exact Wd.cell W (k := 0) rfl rfl))) rfl ?_; clear S a w; intro a w S)
  (refine st_y S (Yr.ys (ys_not (Ev.t rfl))) rfl ?_; clear S a w; intro a w S)
  refine st_nil ?_
  (refine (then_normal (hK2 _ _ ?_)); clear hK2)
  refine st_else S (Ev.t rfl) ?_
  refine wp_skip ?_
  (refine (then_normal (hK1 _ _ ?_)); clear hK1)
  refine wp_seq_k fun _ hK1 => ?_
  refine wp_region_lit ?_
  (refine st_y S (Yr.ys (ys_move (Ev.t rfl))) rfl ?_; clear S a w; intro a w S)
  (refine st_y S (Yr.ys (ys_nilc (Ev.t rfl))) rfl ?_; clear S a w; intro a w S)
  (refine st_y S (Yr.ys (ys_fieldN (FieldT.mk Try.underlying134 rfl Try.sizeOf3 rfl) (Ev.t rfl) (i' := 1) rfl)) rfl ?_; clear S a w; intro a w S)
  (refine st_y S (Yr.ys (ys_ld ⟨Try.isAgg3, Try.sizeOf3⟩ (Ev.t rfl) (k := 0) rfl rfl)) rfl ?_; clear S a w; intro a w S)
  (refine st_y S (Yr.ys (ys_assign (Ev.t rfl))) rfl ?_; clear S a w; intro a w S)
  refine st_nil ?_
  (refine (then_normal (hK1 _ _ ?_)); clear hK1)
  refine wp_seq_k fun _ hK1 => ?_
  refine wp_region_lit ?_
  (refine st_y S (Yr.ys (ys_move (Ev.t rfl))) rfl ?_; clear S a w; intro a w S)
  refine st_m (op_callO S Try.call106 (EvL.cons (Ev.t rfl) EvL.nil) (tryW (R := fun x L' => ∃ k' L'', L' = rdr g A cap b k' L'' ∧ (x = 0 ∧ R L' ∨ x ≠ 0 ∧ E x (rdr g A cap b k L''))) S.wd hf fun C w1 W1 => (hc C w1 W1).mono ?_) rfl ?_)
  · intro e w' h
    rcases h with ⟨v, L', rfl, hw, rfl, k', L'', rfl, hR⟩ | ⟨x, L', rfl, hw, hx, k', L'', rfl, hE⟩
    · exact .inl ⟨_, _, rfl, hw, _, rfl, rfl, k', L'', rfl, .inl ⟨rfl, hR⟩⟩
    · exact .inr ⟨_, _, rfl, hw, _, rfl, k', L'', rfl, .inr ⟨hx, hE⟩⟩
  clear S
  rintro _ _ ⟨x, rfl, k', L'', rfl, hh⟩ a w S
  rcases hh with ⟨rfl, hR⟩ | ⟨hx, hE⟩
  · (refine st_y S (Yr.ys (ys_assign (Ev.t rfl))) rfl ?_; clear S a w; intro a w S)
    refine st_nil ?_
    (refine (then_normal (hK1 _ _ ?_)); clear hK1)
    refine wp_seq_k fun _ hK1 => ?_
    refine wp_seq_k fun _ hK2 => ?_
    refine wp_region_lit ?_
    (refine st_y S (Yr.ys (ys_move (Ev.t rfl))) rfl ?_; clear S a w; intro a w S)
    (refine st_y S (Yr.ys (ys_F (by omega) (ys_neq (Ev.t rfl) Ev.c))) rfl ?_; clear S a w; intro a w S)
    refine st_nil ?_
    (refine (then_normal (hK2 _ _ ?_)); clear hK2)
    refine st_else S (Ev.t rfl) ?_
    refine wp_skip ?_
    (refine (then_normal (hK1 _ _ ?_)); clear hK1)
    refine wp_seq_k fun _ hK1 => ?_
    refine wp_region_lit ?_
    (refine st_y S (Yr.ys (ys_move (Ev.t rfl))) rfl ?_; clear S a w; intro a w S)
    (refine st_y S (Yr.ys (ys_assign (Ev.t rfl))) rfl ?_; clear S a w; intro a w S)
    refine st_nil ?_
    (refine (then_normal (hK1 _ _ ?_)); clear hK1)
    refine wp_ret ?_
    refine st_ret S (results1 S Try.results81 (Rv.tmp rfl)) ?_
    exact ⟨_, _, rfl, S.wd, _, rfl, .inl ⟨rfl, hR⟩⟩
  · (refine st_y S (Yr.ys (ys_assign (Ev.t rfl))) rfl ?_; clear S a w; intro a w S)
    refine st_nil ?_
    (refine (then_normal (hK1 _ _ ?_)); clear hK1)
    refine wp_seq_k fun _ hK1 => ?_
    refine wp_seq_k fun _ hK2 => ?_
    refine wp_region_lit ?_
    (refine st_y S (Yr.ys (ys_move (Ev.t rfl))) rfl ?_; clear S a w; intro a w S)
    (refine st_y S (Yr.ys (ys_T (by omega) (ys_neq (Ev.t rfl) Ev.c))) rfl ?_; clear S a w; intro a w S)
    refine st_nil ?_
    (refine (then_normal (hK2 _ _ ?_)); clear hK2)
    refine st_then S (Ev.t rfl) ?_
    refine wp_region_lit ?_
    (refine st_y S (Yr.ys (ys_move (Ev.t rfl))) rfl ?_; clear S a w; intro a w S)
    (refine st_y S (Yr.ys (ys_move (Ev.t rfl))) rfl ?_; clear S a w; intro a w S)
    (refine st_y S (Yr.ys (ys_nilc (Ev.t rfl))) rfl ?_; clear S a w; intro a w S)
    (refine st_y S (Yr.ys (ys_fieldN (FieldT.mk Try.underlying134 rfl Try.sizeOf3 rfl) (Ev.t rfl) (i' := 1) rfl)) rfl ?_; clear S a w; intro a w S)
    (refine st_m (op_st S Try.sizeOf3 (Ev.t rfl) (Ev.t rfl) (k := 0) rfl rfl (by simp) ?_); clear S a w; intro a w S)
    refine st_nil ?_
    (refine (then_normal (hK1 _ _ ?_)); clear hK1)
    refine wp_seq_k fun _ hK1 => ?_
    refine wp_region_lit ?_
    (refine st_y S (Yr.ys (ys_move (Ev.t rfl))) rfl ?_; clear S a w; intro a w S)
    (refine st_y S (Yr.ys (ys_assign (Ev.t rfl))) rfl ?_; clear S a w; intro a w S)
    refine st_nil ?_
    (refine (then_normal (hK1 _ _ ?_)); clear hK1)
    refine wp_ret ?_
    refine st_ret S (results1 S Try.results81 (Rv.tmp rfl)) ?_
    exact ⟨_, _, rfl, S.wd, _, rfl, .inr ⟨hx, hE⟩⟩
theorem q124 {w0 w : World} {L : List Chunk} {g g1 g2 cap k : Nat} {A : Option Addr} {b : List UInt8} {z : Int} (W : Wd w0 (rdr g A cap b k (.blk g1 (.cells #[.pointer (some ⟨g, 0, none⟩)] 70) :: .blk g2 (.cells #[.int .i64 z] 3) :: L)) w) (hk : k ≤ b.length) (hb : b.length ≤ 16777216) :
    RetsP Try.prog 124 #[.pointer (some ⟨g1, 0, none⟩), .pointer (some ⟨g2, 0, none⟩)] 48 w0 w (fun v L' => (numR 0 0 (b.drop k)).2.2 = 0 ∧ v = .tuple #[] ∧ L' = rdr g A cap b (k + (numR 0 0 (b.drop k)).2.1) (.blk g1 (.cells #[.pointer (some ⟨g, 0, none⟩)] 70) :: .blk g2 (.cells #[.int .i64 (numR 0 0 (b.drop k)).1] 3) :: L))
      (fun x L' => x = (numR 0 0 (b.drop k)).2.2 ∧ x ≠ 0 ∧ L' = rdr g A cap b k (.blk g1 (.cells #[.pointer (some ⟨g, 0, none⟩)] 70) :: .blk g2 (.cells #[.int .i64 z] 3) :: L)) := by
  unfold Go.Fw.RetsP
  refine enterW2 W Try.func124 rfl Try.ntmps124 rfl fun a S => ?_
  refine wp_region_lit ?_
  (refine st_y S (Yr.ys (ys_ld ⟨Try.isAgg70, Try.sizeOf70⟩ (Ev.t rfl) (k := 2) rfl rfl)) rfl ?_; clear S a; intro a w S)
  (refine st_m (op_callRP S Try.call125 (EvL.cons (Ev.t rfl) EvL.nil) (c125 S.wd (by first | assumption | omega | exact Sl.nil_ | exact .old S.wd (by assumption) | exact Sl.of_own S.wd (k := 0) rfl (fun _ => rfl) | exact Sl.of_own S.wd (k := 1) rfl (fun _ => rfl) | exact Sl.of_own S.wd (k := 2) rfl (fun _ => rfl) | exact Sl.of_own S.wd (k := 3) rfl (fun _ => rfl) | (simp at *; omega)) (by first | assumption | omega | exact Sl.nil_ | exact .old S.wd (by assumption) | exact Sl.of_own S.wd (k := 0) rfl (fun _ => rfl) | exact Sl.of_own S.wd (k := 1) rfl (fun _ => rfl) | exact Sl.of_own S.wd (k := 2) rfl (fun _ => rfl) | exact Sl.of_own S.wd (k := 3) rfl (fun _ => rfl) | (simp at *; omega))) rfl ?_ ?_) <;> clear S a w)
  rintro _ _ ⟨hr1, rfl, rfl⟩ a w S
  (refine st_m (op_st S Try.sizeOf3 (Ev.t rfl) (Ev.t rfl) (k := 3) rfl rfl (by simp) ?_); clear S a w; intro a w S)
  refine st_nil ?_
  refine st_end S (results0 Try.results124) ?_
  rotate_left
  rintro _ _ ⟨rfl, hr1, rfl⟩ a w S
  refine post_panic S ?_
  rotate_left
  · exact .inl ⟨_, _, rfl, S.wd, hr1, rfl, rfl⟩
  · exact .inr ⟨_, _, rfl, S.wd, rfl, hr1, rfl⟩
theorem u115 {w0 w : World} {L : List Chunk} {g cap k : Nat} {A : Option Addr} {b : List UInt8} (W : Wd w0 (rdr g A cap b k L) w) (hk : k ≤ b.length) (hb : b.length ≤ 16777216) :
    RetsO Try.prog 115 #[.pointer (some ⟨g, 0, none⟩)] w0 w (fun v L' => v = .tuple #[.int .i64 (numR 0 0 (b.drop k)).1, .int .i64 (numR 0 0 (b.drop k)).2.2] ∧ L' = rdr g A cap b (k + (numR 0 0 (b.drop k)).2.1) L) := by
  unfold Go.Fw.RetsO
  refine enterW1 W Try.func115 rfl Try.ntmps115 rfl fun a S => ?_
  refine wp_seq_k fun _ hK1 => ?_
  refine wp_region_lit ?_
  (refine st_m (op_box1 S (Ev.t rfl) rfl rfl ?_); clear S a; intro g1 a w S)
  (refine st_y S (Yr.ys (ys_assign Ev.c)) rfl ?_; clear S a w; intro a w S)
  (refine st_y S (Yr.ys (ys_assign Ev.c)) rfl ?_; clear S a w; intro a w S)
  refine st_nil ?_
  (refine (then_normal (hK1 _ _ ?_)); clear hK1)
  refine wp_seq_k fun _ hK1 => ?_
  refine wp_region_lit ?_
  (refine st_m (op_alloc S Try.zeroValue3 (cs := _) rfl rfl ?_); clear S a w; intro g2 a w S)
  (refine st_m (op_st S Try.sizeOf3 (Ev.t rfl) Ev.c (k := 0) rfl rfl (by simp) ?_); clear S a w; intro a w S)
  refine st_nil ?_
  (refine (then_normal (hK1 _ _ ?_)); clear hK1)
  refine wp_seq_k fun _ hK1 => ?_
  refine wp_region_lit ?_
  (refine st_y S (Yr.ys (ys_ld ⟨Try.isAgg70, Try.sizeOf70⟩ (Ev.t rfl) (k := 1) rfl rfl)) rfl ?_; clear S a w; intro a w S)
  (refine st_y S (Yr.ys (ys_mkFunc (EvL.cons (Ev.t rfl) (EvL.cons (Ev.t rfl) EvL.nil)))) rfl ?_; clear S a w; intro a w S)
  have W2 := S.wd.picks (L' := rdr g A cap b k (.blk g1 (.cells #[.pointer (some ⟨g, 0, none⟩)] 70) :: .blk g2 (.cells #[.int .i64 0] 3) :: L)) (by repeat (first | exact Picks.nil | (refine Picks.rest ?_; (repeat (first | exact List.Sublist.refl _ | refine List.Sublist.cons_cons _ ?_ | refine List.Sublist.cons _ ?_)); done) | refine Picks.take 0 rfl ?_ | refine Picks.take 1 rfl ?_ | refine Picks.take 2 rfl ?_ | refine Picks.take 3 rfl ?_ | refine Picks.take 4 rfl ?_ | refine Picks.take 5 rfl ?_ | refine Picks.take 6 rfl ?_ | refine Picks.take 7 rfl ?_ | refine Picks.take 8 rfl ?_ | refine Picks.take 9 rfl ?_ | refine Picks.take 10 rfl ?_ | refine Picks.take 11 rfl ?_))
  replace S := St.mk S.kn W2
  refine st_m (op_callO S Try.call81 (EvL.cons (Ev.t rfl) (EvL.cons (Ev.t rfl) EvL.nil)) (triedW (f := 124) (cs := [.pointer (some ⟨g1, 0, none⟩), .pointer (some ⟨g2, 0, none⟩)])
    (R := fun L' => (numR 0 0 (b.drop k)).2.2 = 0 ∧ L' = rdr g A cap b (k + (numR 0 0 (b.drop k)).2.1) (.blk g1 (.cells #[.pointer (some ⟨g, 0, none⟩)] 70) :: .blk g2 (.cells #[.int .i64 (numR 0 0 (b.drop k)).1] 3) :: L))
    (E := fun x L' => x = (numR 0 0 (b.drop k)).2.2 ∧ L' = rdr g A cap b k (.blk g1 (.cells #[.pointer (some ⟨g, 0, none⟩)] 70) :: .blk g2 (.cells #[.int .i64 0] 3) :: L))
    S.wd Try.call124 fun C w1 W1 => Calls.mono (q124 (L := C :: L) (W1.picks (by repeat (first | exact Picks.nil | (refine Picks.rest ?_; (repeat (first | exact List.Sublist.refl _ | refine List.Sublist.cons_cons _ ?_ | refine List.Sublist.cons _ ?_)); done) | refine Picks.take 0 rfl ?_ | refine Picks.take 1 rfl ?_ | refine Picks.take 2 rfl ?_ | refine Picks.take 3 rfl ?_ | refine Picks.take 4 rfl ?_ | refine Picks.take 5 rfl ?_ | refine Picks.take 6 rfl ?_ | refine Picks.take 7 rfl ?_ | refine Picks.take 8 rfl ?_ | refine Picks.take 9 rfl ?_ | refine Picks.take 10 rfl ?_ | refine Picks.take 11 rfl ?_))) hk hb) ?_) rfl ?_)
  · intro e w' h
    rcases h with ⟨v, L', rfl, hw, h1, rfl, rfl⟩ | ⟨x, L', rfl, hw, rfl, h1, rfl⟩
    · exact .inl ⟨_, _, rfl, hw.picks (L' := C :: rdr g A cap b (k + (numR 0 0 (b.drop k)).2.1) (.blk g1 (.cells #[.pointer (some ⟨g, 0, none⟩)] 70) :: .blk g2 (.cells #[.int .i64 (numR 0 0 (b.drop k)).1] 3) :: L)) (by repeat (first | exact Picks.nil | (refine Picks.rest ?_; (repeat (first | exact List.Sublist.refl _ | refine List.Sublist.cons_cons _ ?_ | refine List.Sublist.cons _ ?_)); done) | refine Picks.take 0 rfl ?_ | refine Picks.take 1 rfl ?_ | refine Picks.take 2 rfl ?_ | refine Picks.take 3 rfl ?_ | refine Picks.take 4 rfl ?_ | refine Picks.take 5 rfl ?_ | refine Picks.take 6 rfl ?_ | refine Picks.take 7 rfl ?_ | refine Picks.take 8 rfl ?_ | refine Picks.take 9 rfl ?_ | refine Picks.take 10 rfl ?_ | refine Picks.take 11 rfl ?_)), rfl, _, _, rfl, h1, rfl⟩
    · exact .inr ⟨_, _, rfl, hw.picks (L' := C :: rdr g A cap b k (.blk g1 (.cells #[.pointer (some ⟨g, 0, none⟩)] 70) :: .blk g2 (.cells #[.int .i64 0] 3) :: L)) (by repeat (first | exact Picks.nil | (refine Picks.rest ?_; (repeat (first | exact List.Sublist.refl _ | refine List.Sublist.cons_cons _ ?_ | refine List.Sublist.cons _ ?_)); done) | refine Picks.take 0 rfl ?_ | refine Picks.take 1 rfl ?_ | refine Picks.take 2 rfl ?_ | refine Picks.take 3 rfl ?_ | refine Picks.take 4 rfl ?_ | refine Picks.take 5 rfl ?_ | refine Picks.take 6 rfl ?_ | refine Picks.take 7 rfl ?_ | refine Picks.take 8 rfl ?_ | refine Picks.take 9 rfl ?_ | refine Picks.take 10 rfl ?_ | refine Picks.take 11 rfl ?_)), h1, _, _, rfl, rfl, rfl⟩
  clear S W2
  rintro _ _ ⟨x, rfl, h⟩ a w S
  rcases h with ⟨rfl, h1, rfl⟩ | ⟨hx, rfl, rfl⟩
  · (refine st_y S (Yr.ys (ys_assign (Ev.t rfl))) rfl ?_; clear S a w; intro a w S)
    refine st_nil ?_
    (refine (then_normal (hK1 _ _ ?_)); clear hK1)
    refine wp_seq_k fun _ hK1 => ?_
    refine wp_region_lit ?_
    (refine st_y S (Yr.ys (ys_ld ⟨Try.isAgg3, Try.sizeOf3⟩ (Ev.t rfl) (k := 3) rfl rfl)) rfl ?_; clear S a w; intro a w S)
    (refine st_y S (Yr.ys (ys_move (Ev.t rfl))) rfl ?_; clear S a w; intro a w S)
    (refine st_y S (Yr.ys (ys_assign (Ev.t rfl))) rfl ?_; clear S a w; intro a w S)
    (refine st_y S (Yr.ys (ys_assign (Ev.t rfl))) rfl ?_; clear S a w; intro a w S)
    refine st_nil ?_
    (refine (then_normal (hK1 _ _ ?_)); clear hK1)
    refine wp_ret ?_
    refine st_ret S (results2 S Try.results115 (Rv.tmp rfl) (Rv.tmp rfl)) ?_
    rw [h1]
    exact ⟨_, _, rfl, S.wd.picks (L' := rdr g A cap b (k + (numR 0 0 (b.drop k)).2.1) L) (by repeat (first | exact Picks.nil | (refine Picks.rest ?_; (repeat (first | exact List.Sublist.refl _ | refine List.Sublist.cons_cons _ ?_ | refine List.Sublist.cons _ ?_)); done) | refine Picks.take 0 rfl ?_ | refine Picks.take 1 rfl ?_ | refine Picks.take 2 rfl ?_ | refine Picks.take 3 rfl ?_ | refine Picks.take 4 rfl ?_ | refine Picks.take 5 rfl ?_ | refine Picks.take 6 rfl ?_ | refine Picks.take 7 rfl ?_ | refine Picks.take 8 rfl ?_ | refine Picks.take 9 rfl ?_ | refine Picks.take 10 rfl ?_ | refine Picks.take 11 rfl ?_)), rfl, rfl⟩
  · (refine st_y S (Yr.ys (ys_assign (Ev.t rfl))) rfl ?_; clear S a w; intro a w S)
    refine st_nil ?_
    (refine (then_normal (hK1 _ _ ?_)); clear hK1)
    refine wp_seq_k fun _ hK1 => ?_
    refine wp_region_lit ?_
    (refine st_y S (Yr.ys (ys_ld ⟨Try.isAgg3, Try.sizeOf3⟩ (Ev.t rfl) (k := 3) rfl rfl)) rfl ?_; clear S a w; intro a w S)
    (refine st_y S (Yr.ys (ys_move (Ev.t rfl))) rfl ?_; clear S a w; intro a w S)
    (refine st_y S (Yr.ys (ys_assign (Ev.t rfl))) rfl ?_; clear S a w; intro a w S)
    (refine st_y S (Yr.ys (ys_assign (Ev.t rfl))) rfl ?_; clear S a w; intro a w S)
    refine st_nil ?_
    (refine (then_normal (hK1 _ _ ?_)); clear hK1)
    refine wp_ret ?_
    refine st_ret S (results2 S Try.results115 (Rv.tmp rfl) (Rv.tmp rfl)) ?_
    have hz := numR_bad hx
    rw [hz.1, hz.2, Nat.add_zero]
    exact ⟨_, _, rfl, S.wd.picks (L' := rdr g A cap b k L) (by repeat (first | exact Picks.nil | (refine Picks.rest ?_; (repeat (first | exact List.Sublist.refl _ | refine List.Sublist.cons_cons _ ?_ | refine List.Sublist.cons _ ?_)); done) | refine Picks.take 0 rfl ?_ | refine Picks.take 1 rfl ?_ | refine Picks.take 2 rfl ?_ | refine Picks.take 3 rfl ?_ | refine Picks.take 4 rfl ?_ | refine Picks.take 5 rfl ?_ | refine Picks.take 6 rfl ?_ | refine Picks.take 7 rfl ?_ | refine Picks.take 8 rfl ?_ | refine Picks.take 9 rfl ?_ | refine Picks.take 10 rfl ?_ | refine Picks.take 11 rfl ?_)), rfl, rfl⟩
/-- the next number -/
theorem c115 {w0 w : World} {L : List Chunk} {g cap k : Nat} {A : Option Addr} {b : List UInt8} (W : Wd w0 (rdr g A cap b k L) w) (hk : k ≤ b.length) (hb : b.length ≤ 16777216) :
    RetsO Try.prog 115 #[.pointer (some ⟨g, 0, none⟩)] w0 w (fun v L' => v = .tuple #[.int .i64 (numAt b k).1, .int .i64 (numAt b k).2.2] ∧ L' = rdr g A cap b (numAt b k).2.1 L) := u115 W hk hb
theorem q82 {w0 w : World} {L : List Chunk} {g g1 g2 cap k : Nat} {A : Option Addr} {b : List UInt8} {z : Int} (W : Wd w0 (rdr g A cap b k (.blk g1 (.cells #[.pointer (some ⟨g, 0, none⟩)] 70) :: .blk g2 (.cells #[.int .i64 z] 3) :: L)) w) (hk : k ≤ b.length) (hb : b.length ≤ 16777216) :
    RetsP Try.prog 82 #[.pointer (some ⟨g1, 0, none⟩), .pointer (some ⟨g2, 0, none⟩)] 48 w0 w (fun v L' => ∃ x : UInt8, b[k]? = some x ∧ v = .tuple #[] ∧ L' = rdr g A cap b (k + 1) (.blk g1 (.cells #[.pointer (some ⟨g, 0, none⟩)] 70) :: .blk g2 (.cells #[.int .i64 (x.toNat : Int)] 3) :: L))
      (fun x L' => x = 2 ∧ k = b.length ∧ L' = rdr g A cap b k (.blk g1 (.cells #[.pointer (some ⟨g, 0, none⟩)] 70) :: .blk g2 (.cells #[.int .i64 z] 3) :: L)) := by
  by_cases hlt : k < b.length
  · obtain ⟨x, hx⟩ : ∃ x, b[k]? = some x := ⟨b[k], by simp⟩
    have hd : (b.drop k).take 1 = [x] := by
      obtain ⟨h, rfl⟩ := List.getElem?_eq_some_iff.1 hx
      rw [List.drop_eq_getElem_cons h]; rfl
    have rw_d := hd
    unfold Go.Fw.RetsP
    refine enterW2 W Try.func82 rfl Try.ntmps82 rfl fun a S => ?_
    refine wp_seq_k fun _ hK1 => ?_
    refine wp_seq_k fun _ hK2 => ?_
    refine wp_region_lit ?_
    (refine st_y S (Yr.ys (ys_ld ⟨Try.isAgg70, Try.sizeOf70⟩ (Ev.t rfl) (k := 2) rfl rfl)) rfl ?_; clear S a; intro a w S)
    (refine st_y S (ys_call Try.call37 (EvL.cons (Ev.t rfl) EvL.nil) (fun hp w W => c37 _ _ _ _ _ _ (by exact Wd.cell W (k := 0) rfl rfl) (by exact Wd.cell W (k := 0) rfl rfl) (by exact Wd.cell W (k := 0) rfl rfl) (by assumption) (by assumption))) rfl ?_; clear S a w; intro a w S)
    (refine st_y S (Yr.ys (ys_F (by omega) (ys_eql (Ev.t rfl) Ev.c))) rfl ?_; clear S a w; intro a w S)
    refine st_nil ?_
    (refine (then_normal (hK2 _ _ ?_)); clear hK2)
    refine st_else S (Ev.t rfl) ?_
    refine wp_skip ?_
    (refine (then_normal (hK1 _ _ ?_)); clear hK1)
    refine wp_region_lit ?_
    (refine st_y S (Yr.ys (ys_ld ⟨Try.isAgg70, Try.sizeOf70⟩ (Ev.t rfl) (k := 2) rfl rfl)) rfl ?_; clear S a w; intro a w S)
    (refine st_m (op_callO S Try.call84 (EvL.cons (Ev.t rfl) (EvL.cons Ev.c EvL.nil)) (c84 S.wd _ (by first | assumption | omega | exact Sl.nil_ | exact .old S.wd (by assumption) | exact Sl.of_own S.wd (k := 0) rfl (fun _ => rfl) | exact Sl.of_own S.wd (k := 1) rfl (fun _ => rfl) | exact Sl.of_own S.wd (k := 2) rfl (fun _ => rfl) | exact Sl.of_own S.wd (k := 3) rfl (fun _ => rfl) | (simp at *; omega)) (by first | assumption | omega | exact Sl.nil_ | exact .old S.wd (by assumption) | exact Sl.of_own S.wd (k := 0) rfl (fun _ => rfl) | exact Sl.of_own S.wd (k := 1) rfl (fun _ => rfl) | exact Sl.of_own S.wd (k := 2) rfl (fun _ => rfl) | exact Sl.of_own S.wd (k := 3) rfl (fun _ => rfl) | (simp at *; omega))) rfl ?_) <;> clear S a w)
    rintro _ _ ⟨A11, c11, rfl, rfl⟩ a w S
    rw [rw_d] at S
    obtain ⟨ga, rfl⟩ := S.wd.row_at (k := 2) rfl (by have := (S.wd.room (k := 2) rfl).1; simp at this; omega)
    have hq : ([x] : List UInt8)[0]? = some x := rfl
    simp only [List.length_singleton] at S
    have hx8 : x.toNat < 256 := x.toNat_lt
    (refine st_y S (Yr.ys (ys_ixS (j := 0) Try.underlying22 Try.sizeOf5 (Ev.t rfl) Ev.c (fun _ => by omega))) rfl ?_; clear S a w; intro a w S)
    (refine st_y S (Yr.ys (ys_ldW ⟨Try.isAgg5, Try.sizeOf5⟩ (Ev.t rfl) (k := 2) rfl hq (fun _ => rfl) rfl)) rfl ?_; clear S a w; intro a w S)
    (refine st_y S (Yr.ys (ys_cvI Try.underlying5 Try.underlying3 (Ev.t rfl) (fun _ => by unfold I64; omega))) rfl ?_; clear S a w; intro a w S)
    (refine st_m (op_st S Try.sizeOf3 (Ev.t rfl) (Ev.t rfl) (k := 4) rfl rfl (by simp) ?_); clear S a w; intro a w S)
    refine st_nil ?_
    refine st_end S (results0 Try.results82) ?_
    exact .inl ⟨_, _, rfl, S.wd.picks (L' := rdr g A cap b (k + 1) (.blk g1 (.cells #[.pointer (some ⟨g, 0, none⟩)] 70) :: .blk g2 (.cells #[.int .i64 (x.toNat : Int)] 3) :: L)) (by repeat (first | exact Picks.nil | (refine Picks.rest ?_; (repeat (first | exact List.Sublist.refl _ | refine List.Sublist.cons_cons _ ?_ | refine List.Sublist.cons _ ?_)); done) | refine Picks.take 0 rfl ?_ | refine Picks.take 1 rfl ?_ | refine Picks.take 2 rfl ?_ | refine Picks.take 3 rfl ?_ | refine Picks.take 4 rfl ?_ | refine Picks.take 5 rfl ?_ | refine Picks.take 6 rfl ?_ | refine Picks.take 7 rfl ?_ | refine Picks.take 8 rfl ?_ | refine Picks.take 9 rfl ?_ | refine Picks.take 10 rfl ?_ | refine Picks.take 11 rfl ?_)), x, hx, rfl, rfl⟩
  · unfold Go.Fw.RetsP
    refine enterW2 W Try.func82 rfl Try.ntmps82 rfl fun a S => ?_
    refine wp_seq_k fun _ hK1 => ?_
    refine wp_seq_k fun _ hK2 => ?_
    refine wp_region_lit ?_
    (refine st_y S (Yr.ys (ys_ld ⟨Try.isAgg70, Try.sizeOf70⟩ (Ev.t rfl) (k := 2) rfl rfl)) rfl ?_; clear S a; intro a w S)
    (refine st_y S (ys_call Try.call37 (EvL.cons (Ev.t rfl) EvL.nil) (fun hp w W => c37 _ _ _ _ _ _ (by exact Wd.cell W (k := 0) rfl rfl) (by exact Wd.cell W (k := 0) rfl rfl) (by exact Wd.cell W (k := 0) rfl rfl) (by assumption) (by assumption))) rfl ?_; clear S a w; intro a w S)
    (refine st_y S (Yr.ys (ys_T (by omega) (ys_eql (Ev.t rfl) Ev.c))) rfl ?_; clear S a w; intro a w S)
    refine st_nil ?_
    (refine (then_normal (hK2 _ _ ?_)); clear hK2)
    refine st_then S (Ev.t rfl) ?_
    refine wp_region_lit ?_
    (refine st_m (op_callRP S Try.call83 (EvL.cons Ev.c EvL.nil) (c83 S.wd _) rfl ?_ ?_) <;> clear S a w)
    (intro _ _ h; exact h.elim)
    rintro _ _ ⟨rfl, rfl⟩ a w S
    refine (then_panic ?_)
    refine post_panic S ?_
    have : k = b.length := by omega
    exact .inr ⟨_, _, rfl, S.wd, rfl, this, rfl⟩
theorem c42 {w0 w : World} {L : List Chunk} {g cap k : Nat} {A : Option Addr} {b : List UInt8} (W : Wd w0 (rdr g A cap b k L) w) (hk : k ≤ b.length) (hb : b.length ≤ 16777216) :
    RetsO Try.prog 42 #[.pointer (some ⟨g, 0, none⟩)] w0 w (fun v L' => v = .tuple #[.int .i64 (byteR b k).1, .int .i64 (byteR b k).2.2] ∧ L' = rdr g A cap b (k + (byteR b k).2.1) L) := by
  unfold Go.Fw.RetsO
  refine enterW1 W Try.func42 rfl Try.ntmps42 rfl fun a S => ?_
  refine wp_seq_k fun _ hK1 => ?_
  refine wp_region_lit ?_
  (refine st_m (op_box1 S (Ev.t rfl) rfl rfl ?_); clear S a; intro g1 a w S)
  (refine st_y S (Yr.ys (ys_assign Ev.c)) rfl ?_; clear S a w; intro a w S)
  (refine st_y S (Yr.ys (ys_assign Ev.c)) rfl ?_; clear S a w; intro a w S)
  refine st_nil ?_
  (refine (then_normal (hK1 _ _ ?_)); clear hK1)
  refine wp_seq_k fun _ hK1 => ?_
  refine wp_region_lit ?_
  (refine st_m (op_alloc S Try.zeroValue3 (cs := _) rfl rfl ?_); clear S a w; intro g2 a w S)
  (refine st_m (op_st S Try.sizeOf3 (Ev.t rfl) Ev.c (k := 0) rfl rfl (by simp) ?_); clear S a w; intro a w S)
  refine st_nil ?_
  (refine (then_normal (hK1 _ _ ?_)); clear hK1)
  refine wp_seq_k fun _ hK1 => ?_
  refine wp_region_lit ?_
  (refine st_y S (Yr.ys (ys_ld ⟨Try.isAgg70, Try.sizeOf70⟩ (Ev.t rfl) (k := 1) rfl rfl)) rfl ?_; clear S a w; intro a w S)
  (refine st_y S (Yr.ys (ys_mkFunc (EvL.cons (Ev.t rfl) (EvL.cons (Ev.t rfl) EvL.nil)))) rfl ?_; clear S a w; intro a w S)
  have W2 := S.wd.picks (L' := rdr g A cap b k (.blk g1 (.cells #[.pointer (some ⟨g, 0, none⟩)] 70) :: .blk g2 (.cells #[.int .i64 0] 3) :: L)) (by repeat (first | exact Picks.nil | (refine Picks.rest ?_; (repeat (first | exact List.Sublist.refl _ | refine List.Sublist.cons_cons _ ?_ | refine List.Sublist.cons _ ?_)); done) | refine Picks.take 0 rfl ?_ | refine Picks.take 1 rfl ?_ | refine Picks.take 2 rfl ?_ | refine Picks.take 3 rfl ?_ | refine Picks.take 4 rfl ?_ | refine Picks.take 5 rfl ?_ | refine Picks.take 6 rfl ?_ | refine Picks.take 7 rfl ?_ | refine Picks.take 8 rfl ?_ | refine Picks.take 9 rfl ?_ | refine Picks.take 10 rfl ?_ | refine Picks.take 11 rfl ?_))
  replace S := St.mk S.kn W2
  refine st_m (op_callO S Try.call81 (EvL.cons (Ev.t rfl) (EvL.cons (Ev.t rfl) EvL.nil)) (triedW (f := 82) (cs := [.pointer (some ⟨g1, 0, none⟩), .pointer (some ⟨g2, 0, none⟩)])
    (R := fun L' => ∃ x : UInt8, b[k]? = some x ∧ L' = rdr g A cap b (k + 1) (.blk g1 (.cells #[.pointer (some ⟨g, 0, none⟩)] 70) :: .blk g2 (.cells #[.int .i64 (x.toNat : Int)] 3) :: L))
    (E := fun x L' => x = 2 ∧ k = b.length ∧ L' = rdr g A cap b k (.blk g1 (.cells #[.pointer (some ⟨g, 0, none⟩)] 70) :: .blk g2 (.cells #[.int .i64 0] 3) :: L))
    S.wd Try.call82 fun C w1 W1 => Calls.mono (q82 (L := C :: L) (W1.picks (by repeat (first | exact Picks.nil | (refine Picks.rest ?_; (repeat (first | exact List.Sublist.refl _ | refine List.Sublist.cons_cons _ ?_ | refine List.Sublist.cons _ ?_)); done) | refine Picks.take 0 rfl ?_ | refine Picks.take 1 rfl ?_ | refine Picks.take 2 rfl ?_ | refine Picks.take 3 rfl ?_ | refine Picks.take 4 rfl ?_ | refine Picks.take 5 rfl ?_ | refine Picks.take 6 rfl ?_ | refine Picks.take 7 rfl ?_ | refine Picks.take 8 rfl ?_ | refine Picks.take 9 rfl ?_ | refine Picks.take 10 rfl ?_ | refine Picks.take 11 rfl ?_))) hk hb) ?_) rfl ?_)
  · intro e w' h
    rcases h with ⟨v, L', rfl, hw, x, h1, rfl, rfl⟩ | ⟨x, L', rfl, hw, rfl, h1, rfl⟩
    · exact .inl ⟨_, _, rfl, hw.picks (L' := C :: rdr g A cap b (k + 1) (.blk g1 (.cells #[.pointer (some ⟨g, 0, none⟩)] 70) :: .blk g2 (.cells #[.int .i64 (x.toNat : Int)] 3) :: L)) (by repeat (first | exact Picks.nil | (refine Picks.rest ?_; (repeat (first | exact List.Sublist.refl _ | refine List.Sublist.cons_cons _ ?_ | refine List.Sublist.cons _ ?_)); done) | refine Picks.take 0 rfl ?_ | refine Picks.take 1 rfl ?_ | refine Picks.take 2 rfl ?_ | refine Picks.take 3 rfl ?_ | refine Picks.take 4 rfl ?_ | refine Picks.take 5 rfl ?_ | refine Picks.take 6 rfl ?_ | refine Picks.take 7 rfl ?_ | refine Picks.take 8 rfl ?_ | refine Picks.take 9 rfl ?_ | refine Picks.take 10 rfl ?_ | refine Picks.take 11 rfl ?_)), rfl, _, _, rfl, x, h1, rfl⟩
    · exact .inr ⟨_, _, rfl, hw.picks (L' := C :: rdr g A cap b k (.blk g1 (.cells #[.pointer (some ⟨g, 0, none⟩)] 70) :: .blk g2 (.cells #[.int .i64 0] 3) :: L)) (by repeat (first | exact Picks.nil | (refine Picks.rest ?_; (repeat (first | exact List.Sublist.refl _ | refine List.Sublist.cons_cons _ ?_ | refine List.Sublist.cons _ ?_)); done) | refine Picks.take 0 rfl ?_ | refine Picks.take 1 rfl ?_ | refine Picks.take 2 rfl ?_ | refine Picks.take 3 rfl ?_ | refine Picks.take 4 rfl ?_ | refine Picks.take 5 rfl ?_ | refine Picks.take 6 rfl ?_ | refine Picks.take 7 rfl ?_ | refine Picks.take 8 rfl ?_ | refine Picks.take 9 rfl ?_ | refine Picks.take 10 rfl ?_ | refine Picks.take 11 rfl ?_)), by decide, _, _, rfl, rfl, h1, rfl⟩
  clear S W2
  rintro _ _ ⟨x, rfl, h⟩ a w S
  rcases h with ⟨rfl, x, h1, rfl⟩ | ⟨hx, rfl, h1, rfl⟩
  · (refine st_y S (Yr.ys (ys_assign (Ev.t rfl))) rfl ?_; clear S a w; intro a w S)
    refine st_nil ?_
    (refine (then_normal (hK1 _ _ ?_)); clear hK1)
    refine wp_seq_k fun _ hK1 => ?_
    refine wp_region_lit ?_
    (refine st_y S (Yr.ys (ys_ld ⟨Try.isAgg3, Try.sizeOf3⟩ (Ev.t rfl) (k := 3) rfl rfl)) rfl ?_; clear S a w; intro a w S)
    (refine st_y S (Yr.ys (ys_move (Ev.t rfl))) rfl ?_; clear S a w; intro a w S)
    (refine st_y S (Yr.ys (ys_assign (Ev.t rfl))) rfl ?_; clear S a w; intro a w S)
    (refine st_y S (Yr.ys (ys_assign (Ev.t rfl))) rfl ?_; clear S a w; intro a w S)
    refine st_nil ?_
    (refine (then_normal (hK1 _ _ ?_)); clear hK1)
    refine wp_ret ?_
    refine st_ret S (results2 S Try.results42 (Rv.tmp rfl) (Rv.tmp rfl)) ?_
    rw [byteR_some h1]
    exact ⟨_, _, rfl, S.wd.picks (L' := rdr g A cap b (k + 1) L) (by repeat (first | exact Picks.nil | (refine Picks.rest ?_; (repeat (first | exact List.Sublist.refl _ | refine List.Sublist.cons_cons _ ?_ | refine List.Sublist.cons _ ?_)); done) | refine Picks.take 0 rfl ?_ | refine Picks.take 1 rfl ?_ | refine Picks.take 2 rfl ?_ | refine Picks.take 3 rfl ?_ | refine Picks.take 4 rfl ?_ | refine Picks.take 5 rfl ?_ | refine Picks.take 6 rfl ?_ | refine Picks.take 7 rfl ?_ | refine Picks.take 8 rfl ?_ | refine Picks.take 9 rfl ?_ | refine Picks.take 10 rfl ?_ | refine Picks.take 11 rfl ?_)), rfl, rfl⟩
  · (refine st_y S (Yr.ys (ys_assign (Ev.t rfl))) rfl ?_; clear S a w; intro a w S)
    refine st_nil ?_
    (refine (then_normal (hK1 _ _ ?_)); clear hK1)
    refine wp_seq_k fun _ hK1 => ?_
    refine wp_region_lit ?_
    (refine st_y S (Yr.ys (ys_ld ⟨Try.isAgg3, Try.sizeOf3⟩ (Ev.t rfl) (k := 3) rfl rfl)) rfl ?_; clear S a w; intro a w S)
    (refine st_y S (Yr.ys (ys_move (Ev.t rfl))) rfl ?_; clear S a w; intro a w S)
    (refine st_y S (Yr.ys (ys_assign (Ev.t rfl))) rfl ?_; clear S a w; intro a w S)
    (refine st_y S (Yr.ys (ys_assign (Ev.t rfl))) rfl ?_; clear S a w; intro a w S)
    refine st_nil ?_
    (refine (then_normal (hK1 _ _ ?_)); clear hK1)
    refine wp_ret ?_
    refine st_ret S (results2 S Try.results42 (Rv.tmp rfl) (Rv.tmp rfl)) ?_
    rw [byteR_none h1]
    exact ⟨_, _, rfl, S.wd.picks (L' := rdr g A cap b k L) (by repeat (first | exact Picks.nil | (refine Picks.rest ?_; (repeat (first | exact List.Sublist.refl _ | refine List.Sublist.cons_cons _ ?_ | refine List.Sublist.cons _ ?_)); done) | refine Picks.take 0 rfl ?_ | refine Picks.take 1 rfl ?_ | refine Picks.take 2 rfl ?_ | refine Picks.take 3 rfl ?_ | refine Picks.take 4 rfl ?_ | refine Picks.take 5 rfl ?_ | refine Picks.take 6 rfl ?_ | refine Picks.take 7 rfl ?_ | refine Picks.take 8 rfl ?_ | refine Picks.take 9 rfl ?_ | refine Picks.take 10 rfl ?_ | refine Picks.take 11 rfl ?_)), rfl, rfl⟩
end Go.Proofs.Ytjfeeiljinbmjaa
