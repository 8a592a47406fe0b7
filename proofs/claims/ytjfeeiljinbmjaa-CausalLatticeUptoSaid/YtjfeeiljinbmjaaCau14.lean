/- Layer 3: the law of the lattice, walked. -/
import Derived.Test.YtjfeeiljinbmjaaCau13
set_option linter.unusedVariables false
set_option linter.unusedSimpArgs false
set_option maxRecDepth 100000
set_option maxHeartbeats 4000000
namespace Go.Proofs.Ytjfeeiljinbmjaa
open Go.Fw Go.Proofs Go.RowKit

theorem c11 (w0 : World) (v1 v2 v3 v4 v5 v6 : Value) (l1 l2 l3 d1 d2 d3 : List Dot) (h1 : Sl Dot.enc 3 w0 w0.heap.size v1 l1) (h2 : Sl Dot.enc 3 w0 w0.heap.size v2 l2) (h3 : Sl Dot.enc 3 w0 w0.heap.size v3 l3) (h4 : Sl Dot.enc 3 w0 w0.heap.size v4 d1) (h5 : Sl Dot.enc 3 w0 w0.heap.size v5 d2) (h6 : Sl Dot.enc 3 w0 w0.heap.size v6 d3)
    (n1 : l1.length ≤ 1900000) (n2 : l2.length ≤ 1900000) (n3 : l3.length ≤ 1900000) (n4 : d1.length ≤ 1900000) (n5 : d2.length ≤ 1900000) (n6 : d3.length ≤ 1900000) :
    Calls Try.prog 11 #[v1, v2, v3, v4, v5, v6] w0 fun e w' => e = .returned (.bool true) ∧ Bel w0.heap.size w0 w' := by
  have hX := normal_can l1 d1
  have hY := normal_can l2 d2
  have hZ := normal_can l3 d3
  obtain ⟨X, rw_x⟩ : ∃ X, (normalL l1 d1).1 = X := ⟨_, rfl⟩
  obtain ⟨Y, rw_y⟩ : ∃ Y, (normalL l2 d2).1 = Y := ⟨_, rfl⟩
  obtain ⟨Z, rw_z⟩ : ∃ Z, (normalL l3 d3).1 = Z := ⟨_, rfl⟩
  rw [rw_x] at hX
  rw [rw_y] at hY
  rw [rw_z] at hZ
  have gX := can_nf hX
  have gY := can_nf hY
  have gZ := can_nf hZ
  have mX := gX.mayM
  have mY := gY.mayM
  have kX := can_len hX
  have kY := can_len hY
  have kZ := can_len hZ
  have rw_eX : (⟨X.marks, X.cloud⟩ : Ctx) = X := rfl
  have rw_eY : (⟨Y.marks, Y.cloud⟩ : Ctx) = Y := rfl
  have rw_eZ : (⟨Z.marks, Z.cloud⟩ : Ctx) = Z := rfl
  have rw_xx : joinL X X = (X, 0) := by rw [join_uni hX hX, uni_same gX, small_can hX]; rfl
  have rw_s : ∀ C : Ctx, decide (C = C) = true := fun C => decide_eq_true rfl
  cases hb : bigC (uniC X Y) with
  | true =>
    have rw_xy : joinL X Y = (⟨[], []⟩, 4) := by rw [join_uni hX hY, hb]; rfl
    have rw_yx : joinL Y X = (⟨[], []⟩, 4) := by rw [join_uni hY hX, uni_comm gY gX, hb]; rfl
    refine enter6 Try.func11 rfl Try.ntmps11 rfl fun a S => ?_
    refine wp_seq_k fun _ hK1 => ?_
    refine wp_region_lit ?_
    (refine st_y S (Yr.ys (ys_assign Ev.c)) rfl ?_; clear S a; intro a w S)
    refine st_nil ?_
    (refine (then_normal (hK1 _ _ ?_)); clear hK1)
    refine wp_seq_k fun _ hK1 => ?_
    refine wp_region_lit ?_
    (refine st_y S (Yr.ys (ys_move (Ev.t rfl))) rfl ?_; clear S a w; intro a w S)
    (refine st_y S (Yr.ys (ys_move (Ev.t rfl))) rfl ?_; clear S a w; intro a w S)
    (refine st_m (op_calls S Try.call19 (EvL.cons (Ev.t rfl) (EvL.cons (Ev.t rfl) EvL.nil)) (c19 _ _ _ _ _ (by exact .old S.wd (by assumption)) (by exact .old S.wd (by assumption)) (by assumption) (by assumption)) rfl ?_); clear S a w; rintro _ _ ⟨A11, c12, A21, c29, rfl, rfl⟩ a w S)
    rw [rw_x] at S
    (refine st_y S (Yr.ys (ys_move (Ev.t rfl))) rfl ?_; clear S a w; intro a w S)
    (refine st_y S (Yr.ys (ys_move (Ev.t rfl))) rfl ?_; clear S a w; intro a w S)
    (refine st_m (op_calls S Try.call19 (EvL.cons (Ev.t rfl) (EvL.cons (Ev.t rfl) EvL.nil)) (c19 _ _ _ _ _ (by exact .old S.wd (by assumption)) (by exact .old S.wd (by assumption)) (by assumption) (by assumption)) rfl ?_); clear S a w; rintro _ _ ⟨A12, c13, A22, c210, rfl, rfl⟩ a w S)
    rw [rw_y] at S
    (refine st_y S (Yr.ys (ys_move (Ev.t rfl))) rfl ?_; clear S a w; intro a w S)
    (refine st_y S (Yr.ys (ys_move (Ev.t rfl))) rfl ?_; clear S a w; intro a w S)
    (refine st_m (op_calls S Try.call19 (EvL.cons (Ev.t rfl) (EvL.cons (Ev.t rfl) EvL.nil)) (c19 _ _ _ _ _ (by exact .old S.wd (by assumption)) (by exact .old S.wd (by assumption)) (by assumption) (by assumption)) rfl ?_); clear S a w; rintro _ _ ⟨A13, c14, A23, c211, rfl, rfl⟩ a w S)
    rw [rw_z] at S
    (refine st_m (op_alloc S Try.zeroValue36 (cs := _) rfl rfl ?_); clear S a w; intro g1 a w S)
    (refine st_m (op_alloc S Try.zeroValue36 (cs := _) rfl rfl ?_); clear S a w; intro g2 a w S)
    (refine st_m (op_alloc S Try.zeroValue36 (cs := _) rfl rfl ?_); clear S a w; intro g3 a w S)
    (refine st_m (op_stW S Try.sizeOf36 (Ev.t rfl) (Ev.t rfl) (k := 2) rfl rfl rfl (by simp [Value.oneCell']) ?_); clear S a w; intro a w S)
    (refine st_m (op_stW S Try.sizeOf36 (Ev.t rfl) (Ev.t rfl) (k := 1) rfl rfl rfl (by simp [Value.oneCell']) ?_); clear S a w; intro a w S)
    (refine st_m (op_stW S Try.sizeOf36 (Ev.t rfl) (Ev.t rfl) (k := 0) rfl rfl rfl (by simp [Value.oneCell']) ?_); clear S a w; intro a w S)
    refine st_nil ?_
    (refine (then_normal (hK1 _ _ ?_)); clear hK1)
    refine wp_seq_k fun _ hK1 => ?_
    refine wp_region_lit ?_
    (refine st_y S (Yr.ys (ys_ldA ⟨Try.isAgg36, Try.sizeOf36⟩ (Ev.t rfl) (k := 2) rfl rfl)) rfl ?_; clear S a w; intro a w S)
    (refine st_y S (Yr.ys (ys_ldA ⟨Try.isAgg36, Try.sizeOf36⟩ (Ev.t rfl) (k := 1) rfl rfl)) rfl ?_; clear S a w; intro a w S)
    (refine st_m (op_calls S Try.call51 (EvL.cons (Ev.t rfl) (EvL.cons (Ev.t rfl) EvL.nil)) (c51 _ _ _ _ _ _ _ (by exact ⟨(by exact Sl.of_own S.wd (k := 7) rfl (fun _ => rfl)), (by exact Sl.of_own S.wd (k := 8) rfl (fun _ => rfl))⟩) (by exact ⟨(by exact Sl.of_own S.wd (k := 5) rfl (fun _ => rfl)), (by exact Sl.of_own S.wd (k := 6) rfl (fun _ => rfl))⟩)) rfl ?_); clear S a w; rintro _ _ ⟨A14, c15, A24, c212, rfl, rfl⟩ a w S)
    rw [rw_xy] at S
    (refine st_y S (Yr.ys (ys_move (Ev.t rfl))) rfl ?_; clear S a w; intro a w S)
    (refine st_y S (Yr.ys (ys_ext (Ev.t rfl) rfl)) rfl ?_; clear S a w; intro a w S)
    (refine st_y S (Yr.ys (ys_ext (Ev.t rfl) rfl)) rfl ?_; clear S a w; intro a w S)
    (refine st_m (op_alloc S Try.zeroValue36 (cs := _) rfl rfl ?_); clear S a w; intro g4 a w S)
    (refine st_m (op_stW S Try.sizeOf36 (Ev.t rfl) (Ev.t rfl) (k := 0) rfl rfl rfl (by simp [Value.oneCell']) ?_); clear S a w; intro a w S)
    (refine st_y S (Yr.ys (ys_assign (Ev.t rfl))) rfl ?_; clear S a w; intro a w S)
    refine st_nil ?_
    (refine (then_normal (hK1 _ _ ?_)); clear hK1)
    refine wp_seq_k fun _ hK1 => ?_
    refine wp_region_lit ?_
    (refine st_y S (Yr.ys (ys_ldA ⟨Try.isAgg36, Try.sizeOf36⟩ (Ev.t rfl) (k := 4) rfl rfl)) rfl ?_; clear S a w; intro a w S)
    (refine st_y S (Yr.ys (ys_ldA ⟨Try.isAgg36, Try.sizeOf36⟩ (Ev.t rfl) (k := 5) rfl rfl)) rfl ?_; clear S a w; intro a w S)
    (refine st_m (op_calls S Try.call51 (EvL.cons (Ev.t rfl) (EvL.cons (Ev.t rfl) EvL.nil)) (c51 _ _ _ _ _ _ _ (by exact ⟨(by exact Sl.of_own S.wd (k := 8) rfl (fun _ => rfl)), (by exact Sl.of_own S.wd (k := 9) rfl (fun _ => rfl))⟩) (by exact ⟨(by exact Sl.of_own S.wd (k := 10) rfl (fun _ => rfl)), (by exact Sl.of_own S.wd (k := 11) rfl (fun _ => rfl))⟩)) rfl ?_); clear S a w; rintro _ _ ⟨A15, c16, A25, c213, rfl, rfl⟩ a w S)
    rw [rw_yx] at S
    (refine st_y S (Yr.ys (ys_move (Ev.t rfl))) rfl ?_; clear S a w; intro a w S)
    (refine st_y S (Yr.ys (ys_ext (Ev.t rfl) rfl)) rfl ?_; clear S a w; intro a w S)
    (refine st_y S (Yr.ys (ys_ext (Ev.t rfl) rfl)) rfl ?_; clear S a w; intro a w S)
    (refine st_m (op_alloc S Try.zeroValue36 (cs := _) rfl rfl ?_); clear S a w; intro g5 a w S)
    (refine st_m (op_stW S Try.sizeOf36 (Ev.t rfl) (Ev.t rfl) (k := 0) rfl rfl rfl (by simp [Value.oneCell']) ?_); clear S a w; intro a w S)
    (refine st_y S (Yr.ys (ys_assign (Ev.t rfl))) rfl ?_; clear S a w; intro a w S)
    refine st_nil ?_
    (refine (then_normal (hK1 _ _ ?_)); clear hK1)
    refine wp_seq_k fun _ hK1 => ?_
    refine wp_region_lit ?_
    (refine st_y S (Yr.ys (ys_ldA ⟨Try.isAgg36, Try.sizeOf36⟩ (Ev.t rfl) (k := 8) rfl rfl)) rfl ?_; clear S a w; intro a w S)
    (refine st_y S (Yr.ys (ys_ldA ⟨Try.isAgg36, Try.sizeOf36⟩ (Ev.t rfl) (k := 8) rfl rfl)) rfl ?_; clear S a w; intro a w S)
    (refine st_m (op_calls S Try.call51 (EvL.cons (Ev.t rfl) (EvL.cons (Ev.t rfl) EvL.nil)) (c51 _ _ _ _ _ _ _ (by exact ⟨(by exact Sl.of_own S.wd (k := 13) rfl (fun _ => rfl)), (by exact Sl.of_own S.wd (k := 14) rfl (fun _ => rfl))⟩) (by exact ⟨(by exact Sl.of_own S.wd (k := 13) rfl (fun _ => rfl)), (by exact Sl.of_own S.wd (k := 14) rfl (fun _ => rfl))⟩)) rfl ?_); clear S a w; rintro _ _ ⟨A16, c17, A26, c214, rfl, rfl⟩ a w S)
    rw [rw_xx] at S
    (refine st_y S (Yr.ys (ys_move (Ev.t rfl))) rfl ?_; clear S a w; intro a w S)
    (refine st_y S (Yr.ys (ys_ext (Ev.t rfl) rfl)) rfl ?_; clear S a w; intro a w S)
    (refine st_y S (Yr.ys (ys_ext (Ev.t rfl) rfl)) rfl ?_; clear S a w; intro a w S)
    (refine st_m (op_alloc S Try.zeroValue36 (cs := _) rfl rfl ?_); clear S a w; intro g6 a w S)
    (refine st_m (op_stW S Try.sizeOf36 (Ev.t rfl) (Ev.t rfl) (k := 0) rfl rfl rfl (by simp [Value.oneCell']) ?_); clear S a w; intro a w S)
    (refine st_y S (Yr.ys (ys_assign (Ev.t rfl))) rfl ?_; clear S a w; intro a w S)
    refine st_nil ?_
    (refine (then_normal (hK1 _ _ ?_)); clear hK1)
    refine wp_seq_k fun _ hK1 => ?_
    refine wp_seq_k fun _ hK2 => ?_
    refine wp_region_lit ?_
    (refine st_y S (Yr.ys (ys_move (Ev.t rfl))) rfl ?_; clear S a w; intro a w S)
    (refine st_y S (Yr.ys (ys_move (Ev.t rfl))) rfl ?_; clear S a w; intro a w S)
    (refine st_y S (Yr.ys (ys_F (by omega) (ys_neq (Ev.t rfl) (Ev.t rfl)))) rfl ?_; clear S a w; intro a w S)
    (refine st_y S (Yr.ys (ys_move (Ev.t rfl))) rfl ?_; clear S a w; intro a w S)
    (refine st_yt S rfl rfl (Yr.ys (ys_ldA ⟨Try.isAgg36, Try.sizeOf36⟩ (Ev.t rfl) (k := 6) rfl rfl)) rfl ?_; clear S a w; intro a w S)
    (refine st_yt S rfl rfl (Yr.ys (ys_ldA ⟨Try.isAgg36, Try.sizeOf36⟩ (Ev.t rfl) (k := 3) rfl rfl)) rfl ?_; clear S a w; intro a w S)
    (refine st_yt S rfl rfl (ys_call Try.call26 (EvL.cons (Ev.t rfl) (EvL.cons (Ev.t rfl) EvL.nil)) (fun hp w W => c26 _ _ _ _ _ _ _ (by exact ⟨(by exact Sl.of_own W (k := 7) rfl (fun _ => rfl)), (by exact Sl.of_own W (k := 8) rfl (fun _ => rfl))⟩) (by exact ⟨(by exact Sl.of_own W (k := 4) rfl (fun _ => rfl)), (by exact Sl.of_own W (k := 5) rfl (fun _ => rfl))⟩))) rfl ?_; clear S a w; intro a w S)
    rw [rw_s] at S
    (refine st_yt S rfl rfl (Yr.ys (ys_not (Ev.t rfl))) rfl ?_; clear S a w; intro a w S)
    (refine st_y S (Yr.ys (ys_pickF (Ev.t rfl) (Ev.t rfl))) rfl ?_; clear S a w; intro a w S)
    (refine st_y S (Yr.ys (ys_move (Ev.t rfl))) rfl ?_; clear S a w; intro a w S)
    (refine st_yt S rfl rfl (Yr.ys (ys_move (Ev.t rfl))) rfl ?_; clear S a w; intro a w S)
    (refine st_yt S rfl rfl (Yr.ys (ys_F (by omega) (ys_neq (Ev.t rfl) Ev.c))) rfl ?_; clear S a w; intro a w S)
    (refine st_y S (Yr.ys (ys_pickF (Ev.t rfl) (Ev.t rfl))) rfl ?_; clear S a w; intro a w S)
    (refine st_y S (Yr.ys (ys_move (Ev.t rfl))) rfl ?_; clear S a w; intro a w S)
    (refine st_yt S rfl rfl (Yr.ys (ys_ldA ⟨Try.isAgg36, Try.sizeOf36⟩ (Ev.t rfl) (k := 0) rfl rfl)) rfl ?_; clear S a w; intro a w S)
    (refine st_yt S rfl rfl (Yr.ys (ys_ldA ⟨Try.isAgg36, Try.sizeOf36⟩ (Ev.t rfl) (k := 11) rfl rfl)) rfl ?_; clear S a w; intro a w S)
    (refine st_yt S rfl rfl (ys_call Try.call26 (EvL.cons (Ev.t rfl) (EvL.cons (Ev.t rfl) EvL.nil)) (fun hp w W => c26 _ _ _ _ _ _ _ (by exact ⟨(by exact Sl.of_own W (k := 1) rfl (fun _ => rfl)), (by exact Sl.of_own W (k := 2) rfl (fun _ => rfl))⟩) (by exact ⟨(by exact Sl.of_own W (k := 16) rfl (fun _ => rfl)), (by exact Sl.of_own W (k := 17) rfl (fun _ => rfl))⟩))) rfl ?_; clear S a w; intro a w S)
    rw [rw_s] at S
    (refine st_yt S rfl rfl (Yr.ys (ys_not (Ev.t rfl))) rfl ?_; clear S a w; intro a w S)
    (refine st_y S (Yr.ys (ys_pickF (Ev.t rfl) (Ev.t rfl))) rfl ?_; clear S a w; intro a w S)
    refine st_nil ?_
    (refine (then_normal (hK2 _ _ ?_)); clear hK2)
    refine st_else S (Ev.t rfl) ?_
    refine wp_skip ?_
    (refine (then_normal (hK1 _ _ ?_)); clear hK1)
    refine wp_seq_k fun _ hK1 => ?_
    refine wp_seq_k fun _ hK2 => ?_
    refine wp_region_lit ?_
    (refine st_y S (Yr.ys (ys_move (Ev.t rfl))) rfl ?_; clear S a w; intro a w S)
    (refine st_y S (Yr.ys (ys_T (by omega) (ys_neq (Ev.t rfl) Ev.c))) rfl ?_; clear S a w; intro a w S)
    refine st_nil ?_
    (refine (then_normal (hK2 _ _ ?_)); clear hK2)
    refine st_then S (Ev.t rfl) ?_
    refine wp_seq_k fun _ hK2 => ?_
    refine wp_region_lit ?_
    (refine st_y S (Yr.ys (ys_move (Ev.t rfl))) rfl ?_; clear S a w; intro a w S)
    (refine st_y S (Yr.ys (ys_T (by omega) (ys_eql (Ev.t rfl) Ev.c))) rfl ?_; clear S a w; intro a w S)
    (refine st_y S (Yr.ys (ys_assign (Ev.t rfl))) rfl ?_; clear S a w; intro a w S)
    refine st_nil ?_
    (refine (then_normal (hK2 _ _ ?_)); clear hK2)
    refine wp_ret ?_
    refine (then_ret ?_)
    refine st_ret S (results1 S Try.results11 (Rv.tmp rfl)) ?_
    exact ⟨rfl, S.wd.below⟩
  | false =>
    have hP := uni_can hX hY hb
    have gP := can_nf hP
    have kP := can_len hP
    have mP := gP.mayM
    have cP := uni_covers gX gY
    have xP : uniC X (uniC X Y) = uniC X Y := by rw [← uni_assoc gX gX gY, uni_same gX]
    have yP : uniC Y (uniC X Y) = uniC X Y := by rw [uni_comm gX gY, ← uni_assoc gY gY gX, uni_same gY]
    have aP : uniC (uniC X Y) Z = uniC X (uniC Y Z) := uni_assoc gX gY gZ
    have iP := uni_le_iff gX gY
    have rw_xy : joinL X Y = (uniC X Y, 0) := by rw [join_uni hX hY, hb]; rfl
    have rw_yx : joinL Y X = (uniC X Y, 0) := by rw [join_uni hY hX, uni_comm gY gX, hb]; rfl
    generalize uniC X Y = P at *
    have rw_eP : (⟨P.marks, P.cloud⟩ : Ctx) = P := rfl
    have rw_lx : leqL X P = true := (leq_covers gX gP).2 ((uni_le_iff gX gP).1 xP)
    have rw_ly : leqL Y P = true := (leq_covers gY gP).2 ((uni_le_iff gY gP).1 yP)
    have rw_lxy : leqL X Y = decide (P = Y) := by
      rw [Bool.eq_iff_iff, leq_covers gX gY, decide_eq_true_eq, iP]
    cases rw_d : decide (P = Y) with
    | true =>
      cases hb1 : bigC (uniC P Z) with
      | true =>
        have rw_pz : joinL P Z = (⟨[], []⟩, 4) := by rw [join_uni hP hZ, hb1]; rfl
        refine enter6 Try.func11 rfl Try.ntmps11 rfl fun a S => ?_
        refine wp_seq_k fun _ hK1 => ?_
        refine wp_region_lit ?_
        (refine st_y S (Yr.ys (ys_assign Ev.c)) rfl ?_; clear S a; intro a w S)
        refine st_nil ?_
        (refine (then_normal (hK1 _ _ ?_)); clear hK1)
        refine wp_seq_k fun _ hK1 => ?_
        refine wp_region_lit ?_
        (refine st_y S (Yr.ys (ys_move (Ev.t rfl))) rfl ?_; clear S a w; intro a w S)
        (refine st_y S (Yr.ys (ys_move (Ev.t rfl))) rfl ?_; clear S a w; intro a w S)
        (refine st_m (op_calls S Try.call19 (EvL.cons (Ev.t rfl) (EvL.cons (Ev.t rfl) EvL.nil)) (c19 _ _ _ _ _ (by exact .old S.wd (by assumption)) (by exact .old S.wd (by assumption)) (by assumption) (by assumption)) rfl ?_); clear S a w; rintro _ _ ⟨A11, c12, A21, c29, rfl, rfl⟩ a w S)
        rw [rw_x] at S
        (refine st_y S (Yr.ys (ys_move (Ev.t rfl))) rfl ?_; clear S a w; intro a w S)
        (refine st_y S (Yr.ys (ys_move (Ev.t rfl))) rfl ?_; clear S a w; intro a w S)
        (refine st_m (op_calls S Try.call19 (EvL.cons (Ev.t rfl) (EvL.cons (Ev.t rfl) EvL.nil)) (c19 _ _ _ _ _ (by exact .old S.wd (by assumption)) (by exact .old S.wd (by assumption)) (by assumption) (by assumption)) rfl ?_); clear S a w; rintro _ _ ⟨A12, c13, A22, c210, rfl, rfl⟩ a w S)
        rw [rw_y] at S
        (refine st_y S (Yr.ys (ys_move (Ev.t rfl))) rfl ?_; clear S a w; intro a w S)
        (refine st_y S (Yr.ys (ys_move (Ev.t rfl))) rfl ?_; clear S a w; intro a w S)
        (refine st_m (op_calls S Try.call19 (EvL.cons (Ev.t rfl) (EvL.cons (Ev.t rfl) EvL.nil)) (c19 _ _ _ _ _ (by exact .old S.wd (by assumption)) (by exact .old S.wd (by assumption)) (by assumption) (by assumption)) rfl ?_); clear S a w; rintro _ _ ⟨A13, c14, A23, c211, rfl, rfl⟩ a w S)
        rw [rw_z] at S
        (refine st_m (op_alloc S Try.zeroValue36 (cs := _) rfl rfl ?_); clear S a w; intro g1 a w S)
        (refine st_m (op_alloc S Try.zeroValue36 (cs := _) rfl rfl ?_); clear S a w; intro g2 a w S)
        (refine st_m (op_alloc S Try.zeroValue36 (cs := _) rfl rfl ?_); clear S a w; intro g3 a w S)
        (refine st_m (op_stW S Try.sizeOf36 (Ev.t rfl) (Ev.t rfl) (k := 2) rfl rfl rfl (by simp [Value.oneCell']) ?_); clear S a w; intro a w S)
        (refine st_m (op_stW S Try.sizeOf36 (Ev.t rfl) (Ev.t rfl) (k := 1) rfl rfl rfl (by simp [Value.oneCell']) ?_); clear S a w; intro a w S)
        (refine st_m (op_stW S Try.sizeOf36 (Ev.t rfl) (Ev.t rfl) (k := 0) rfl rfl rfl (by simp [Value.oneCell']) ?_); clear S a w; intro a w S)
        refine st_nil ?_
        (refine (then_normal (hK1 _ _ ?_)); clear hK1)
        refine wp_seq_k fun _ hK1 => ?_
        refine wp_region_lit ?_
        (refine st_y S (Yr.ys (ys_ldA ⟨Try.isAgg36, Try.sizeOf36⟩ (Ev.t rfl) (k := 2) rfl rfl)) rfl ?_; clear S a w; intro a w S)
        (refine st_y S (Yr.ys (ys_ldA ⟨Try.isAgg36, Try.sizeOf36⟩ (Ev.t rfl) (k := 1) rfl rfl)) rfl ?_; clear S a w; intro a w S)
        (refine st_m (op_calls S Try.call51 (EvL.cons (Ev.t rfl) (EvL.cons (Ev.t rfl) EvL.nil)) (c51 _ _ _ _ _ _ _ (by exact ⟨(by exact Sl.of_own S.wd (k := 7) rfl (fun _ => rfl)), (by exact Sl.of_own S.wd (k := 8) rfl (fun _ => rfl))⟩) (by exact ⟨(by exact Sl.of_own S.wd (k := 5) rfl (fun _ => rfl)), (by exact Sl.of_own S.wd (k := 6) rfl (fun _ => rfl))⟩)) rfl ?_); clear S a w; rintro _ _ ⟨A14, c15, A24, c212, rfl, rfl⟩ a w S)
        rw [rw_xy] at S
        (refine st_y S (Yr.ys (ys_move (Ev.t rfl))) rfl ?_; clear S a w; intro a w S)
        (refine st_y S (Yr.ys (ys_ext (Ev.t rfl) rfl)) rfl ?_; clear S a w; intro a w S)
        (refine st_y S (Yr.ys (ys_ext (Ev.t rfl) rfl)) rfl ?_; clear S a w; intro a w S)
        (refine st_m (op_alloc S Try.zeroValue36 (cs := _) rfl rfl ?_); clear S a w; intro g4 a w S)
        (refine st_m (op_stW S Try.sizeOf36 (Ev.t rfl) (Ev.t rfl) (k := 0) rfl rfl rfl (by simp [Value.oneCell']) ?_); clear S a w; intro a w S)
        (refine st_y S (Yr.ys (ys_assign (Ev.t rfl))) rfl ?_; clear S a w; intro a w S)
        refine st_nil ?_
        (refine (then_normal (hK1 _ _ ?_)); clear hK1)
        refine wp_seq_k fun _ hK1 => ?_
        refine wp_region_lit ?_
        (refine st_y S (Yr.ys (ys_ldA ⟨Try.isAgg36, Try.sizeOf36⟩ (Ev.t rfl) (k := 4) rfl rfl)) rfl ?_; clear S a w; intro a w S)
        (refine st_y S (Yr.ys (ys_ldA ⟨Try.isAgg36, Try.sizeOf36⟩ (Ev.t rfl) (k := 5) rfl rfl)) rfl ?_; clear S a w; intro a w S)
        (refine st_m (op_calls S Try.call51 (EvL.cons (Ev.t rfl) (EvL.cons (Ev.t rfl) EvL.nil)) (c51 _ _ _ _ _ _ _ (by exact ⟨(by exact Sl.of_own S.wd (k := 8) rfl (fun _ => rfl)), (by exact Sl.of_own S.wd (k := 9) rfl (fun _ => rfl))⟩) (by exact ⟨(by exact Sl.of_own S.wd (k := 10) rfl (fun _ => rfl)), (by exact Sl.of_own S.wd (k := 11) rfl (fun _ => rfl))⟩)) rfl ?_); clear S a w; rintro _ _ ⟨A15, c16, A25, c213, rfl, rfl⟩ a w S)
        rw [rw_yx] at S
        (refine st_y S (Yr.ys (ys_move (Ev.t rfl))) rfl ?_; clear S a w; intro a w S)
        (refine st_y S (Yr.ys (ys_ext (Ev.t rfl) rfl)) rfl ?_; clear S a w; intro a w S)
        (refine st_y S (Yr.ys (ys_ext (Ev.t rfl) rfl)) rfl ?_; clear S a w; intro a w S)
        (refine st_m (op_alloc S Try.zeroValue36 (cs := _) rfl rfl ?_); clear S a w; intro g5 a w S)
        (refine st_m (op_stW S Try.sizeOf36 (Ev.t rfl) (Ev.t rfl) (k := 0) rfl rfl rfl (by simp [Value.oneCell']) ?_); clear S a w; intro a w S)
        (refine st_y S (Yr.ys (ys_assign (Ev.t rfl))) rfl ?_; clear S a w; intro a w S)
        refine st_nil ?_
        (refine (then_normal (hK1 _ _ ?_)); clear hK1)
        refine wp_seq_k fun _ hK1 => ?_
        refine wp_region_lit ?_
        (refine st_y S (Yr.ys (ys_ldA ⟨Try.isAgg36, Try.sizeOf36⟩ (Ev.t rfl) (k := 8) rfl rfl)) rfl ?_; clear S a w; intro a w S)
        (refine st_y S (Yr.ys (ys_ldA ⟨Try.isAgg36, Try.sizeOf36⟩ (Ev.t rfl) (k := 8) rfl rfl)) rfl ?_; clear S a w; intro a w S)
        (refine st_m (op_calls S Try.call51 (EvL.cons (Ev.t rfl) (EvL.cons (Ev.t rfl) EvL.nil)) (c51 _ _ _ _ _ _ _ (by exact ⟨(by exact Sl.of_own S.wd (k := 13) rfl (fun _ => rfl)), (by exact Sl.of_own S.wd (k := 14) rfl (fun _ => rfl))⟩) (by exact ⟨(by exact Sl.of_own S.wd (k := 13) rfl (fun _ => rfl)), (by exact Sl.of_own S.wd (k := 14) rfl (fun _ => rfl))⟩)) rfl ?_); clear S a w; rintro _ _ ⟨A16, c17, A26, c214, rfl, rfl⟩ a w S)
        rw [rw_xx] at S
        (refine st_y S (Yr.ys (ys_move (Ev.t rfl))) rfl ?_; clear S a w; intro a w S)
        (refine st_y S (Yr.ys (ys_ext (Ev.t rfl) rfl)) rfl ?_; clear S a w; intro a w S)
        (refine st_y S (Yr.ys (ys_ext (Ev.t rfl) rfl)) rfl ?_; clear S a w; intro a w S)
        (refine st_m (op_alloc S Try.zeroValue36 (cs := _) rfl rfl ?_); clear S a w; intro g6 a w S)
        (refine st_m (op_stW S Try.sizeOf36 (Ev.t rfl) (Ev.t rfl) (k := 0) rfl rfl rfl (by simp [Value.oneCell']) ?_); clear S a w; intro a w S)
        (refine st_y S (Yr.ys (ys_assign (Ev.t rfl))) rfl ?_; clear S a w; intro a w S)
        refine st_nil ?_
        (refine (then_normal (hK1 _ _ ?_)); clear hK1)
        refine wp_seq_k fun _ hK1 => ?_
        refine wp_seq_k fun _ hK2 => ?_
        refine wp_region_lit ?_
        (refine st_y S (Yr.ys (ys_move (Ev.t rfl))) rfl ?_; clear S a w; intro a w S)
        (refine st_y S (Yr.ys (ys_move (Ev.t rfl))) rfl ?_; clear S a w; intro a w S)
        (refine st_y S (Yr.ys (ys_F (by omega) (ys_neq (Ev.t rfl) (Ev.t rfl)))) rfl ?_; clear S a w; intro a w S)
        (refine st_y S (Yr.ys (ys_move (Ev.t rfl))) rfl ?_; clear S a w; intro a w S)
        (refine st_yt S rfl rfl (Yr.ys (ys_ldA ⟨Try.isAgg36, Try.sizeOf36⟩ (Ev.t rfl) (k := 6) rfl rfl)) rfl ?_; clear S a w; intro a w S)
        (refine st_yt S rfl rfl (Yr.ys (ys_ldA ⟨Try.isAgg36, Try.sizeOf36⟩ (Ev.t rfl) (k := 3) rfl rfl)) rfl ?_; clear S a w; intro a w S)
        (refine st_yt S rfl rfl (ys_call Try.call26 (EvL.cons (Ev.t rfl) (EvL.cons (Ev.t rfl) EvL.nil)) (fun hp w W => c26 _ _ _ _ _ _ _ (by exact ⟨(by exact Sl.of_own W (k := 7) rfl (fun _ => rfl)), (by exact Sl.of_own W (k := 8) rfl (fun _ => rfl))⟩) (by exact ⟨(by exact Sl.of_own W (k := 4) rfl (fun _ => rfl)), (by exact Sl.of_own W (k := 5) rfl (fun _ => rfl))⟩))) rfl ?_; clear S a w; intro a w S)
        rw [rw_s] at S
        (refine st_yt S rfl rfl (Yr.ys (ys_not (Ev.t rfl))) rfl ?_; clear S a w; intro a w S)
        (refine st_y S (Yr.ys (ys_pickF (Ev.t rfl) (Ev.t rfl))) rfl ?_; clear S a w; intro a w S)
        (refine st_y S (Yr.ys (ys_move (Ev.t rfl))) rfl ?_; clear S a w; intro a w S)
        (refine st_yt S rfl rfl (Yr.ys (ys_move (Ev.t rfl))) rfl ?_; clear S a w; intro a w S)
        (refine st_yt S rfl rfl (Yr.ys (ys_F (by omega) (ys_neq (Ev.t rfl) Ev.c))) rfl ?_; clear S a w; intro a w S)
        (refine st_y S (Yr.ys (ys_pickF (Ev.t rfl) (Ev.t rfl))) rfl ?_; clear S a w; intro a w S)
        (refine st_y S (Yr.ys (ys_move (Ev.t rfl))) rfl ?_; clear S a w; intro a w S)
        (refine st_yt S rfl rfl (Yr.ys (ys_ldA ⟨Try.isAgg36, Try.sizeOf36⟩ (Ev.t rfl) (k := 0) rfl rfl)) rfl ?_; clear S a w; intro a w S)
        (refine st_yt S rfl rfl (Yr.ys (ys_ldA ⟨Try.isAgg36, Try.sizeOf36⟩ (Ev.t rfl) (k := 11) rfl rfl)) rfl ?_; clear S a w; intro a w S)
        (refine st_yt S rfl rfl (ys_call Try.call26 (EvL.cons (Ev.t rfl) (EvL.cons (Ev.t rfl) EvL.nil)) (fun hp w W => c26 _ _ _ _ _ _ _ (by exact ⟨(by exact Sl.of_own W (k := 1) rfl (fun _ => rfl)), (by exact Sl.of_own W (k := 2) rfl (fun _ => rfl))⟩) (by exact ⟨(by exact Sl.of_own W (k := 16) rfl (fun _ => rfl)), (by exact Sl.of_own W (k := 17) rfl (fun _ => rfl))⟩))) rfl ?_; clear S a w; intro a w S)
        rw [rw_s] at S
        (refine st_yt S rfl rfl (Yr.ys (ys_not (Ev.t rfl))) rfl ?_; clear S a w; intro a w S)
        (refine st_y S (Yr.ys (ys_pickF (Ev.t rfl) (Ev.t rfl))) rfl ?_; clear S a w; intro a w S)
        refine st_nil ?_
        (refine (then_normal (hK2 _ _ ?_)); clear hK2)
        refine st_else S (Ev.t rfl) ?_
        refine wp_skip ?_
        (refine (then_normal (hK1 _ _ ?_)); clear hK1)
        refine wp_seq_k fun _ hK1 => ?_
        refine wp_seq_k fun _ hK2 => ?_
        refine wp_region_lit ?_
        (refine st_y S (Yr.ys (ys_move (Ev.t rfl))) rfl ?_; clear S a w; intro a w S)
        (refine st_y S (Yr.ys (ys_F (by omega) (ys_neq (Ev.t rfl) Ev.c))) rfl ?_; clear S a w; intro a w S)
        refine st_nil ?_
        (refine (then_normal (hK2 _ _ ?_)); clear hK2)
        refine st_else S (Ev.t rfl) ?_
        refine wp_skip ?_
        (refine (then_normal (hK1 _ _ ?_)); clear hK1)
        refine wp_seq_k fun _ hK1 => ?_
        refine wp_seq_k fun _ hK2 => ?_
        (refine st_quiet S (by kernel_rfl) (by kernel_rfl) ?_; clear S w; intro a S)
        (refine q_y S (Yr.ys (ys_ldA ⟨Try.isAgg36, Try.sizeOf36⟩ (Ev.t rfl) (k := 11) rfl rfl)) rfl ?_; clear S a; intro a S)
        (refine q_y S (Yr.ys (ys_ldA ⟨Try.isAgg36, Try.sizeOf36⟩ (Ev.t rfl) (k := 6) rfl rfl)) rfl ?_; clear S a; intro a S)
        (refine q_y S (ys_call Try.call33 (EvL.cons (Ev.t rfl) (EvL.cons (Ev.t rfl) EvL.nil)) (fun hp w W => c33 _ _ _ _ _ _ _ (by exact ⟨(by exact Sl.of_own W (k := 16) rfl (fun _ => rfl)), (by exact Sl.of_own W (k := 17) rfl (fun _ => rfl))⟩) (by exact ⟨(by exact Sl.of_own W (k := 7) rfl (fun _ => rfl)), (by exact Sl.of_own W (k := 8) rfl (fun _ => rfl))⟩) (by assumption) (by assumption))) rfl ?_; clear S a; intro a S)
        rw [rw_lx] at S
        (refine q_y S (Yr.ys (ys_not (Ev.t rfl))) rfl ?_; clear S a; intro a S)
        (refine q_y S (Yr.ys (ys_move (Ev.t rfl))) rfl ?_; clear S a; intro a S)
        (refine q_yt S rfl rfl (Yr.ys (ys_ldA ⟨Try.isAgg36, Try.sizeOf36⟩ (Ev.t rfl) (k := 10) rfl rfl)) rfl ?_; clear S a; intro a S)
        (refine q_yt S rfl rfl (Yr.ys (ys_ldA ⟨Try.isAgg36, Try.sizeOf36⟩ (Ev.t rfl) (k := 6) rfl rfl)) rfl ?_; clear S a; intro a S)
        (refine q_yt S rfl rfl (ys_call Try.call33 (EvL.cons (Ev.t rfl) (EvL.cons (Ev.t rfl) EvL.nil)) (fun hp w W => c33 _ _ _ _ _ _ _ (by exact ⟨(by exact Sl.of_own W (k := 14) rfl (fun _ => rfl)), (by exact Sl.of_own W (k := 15) rfl (fun _ => rfl))⟩) (by exact ⟨(by exact Sl.of_own W (k := 7) rfl (fun _ => rfl)), (by exact Sl.of_own W (k := 8) rfl (fun _ => rfl))⟩) (by assumption) (by assumption))) rfl ?_; clear S a; intro a S)
        rw [rw_ly] at S
        (refine q_yt S rfl rfl (Yr.ys (ys_not (Ev.t rfl))) rfl ?_; clear S a; intro a S)
        (refine q_y S (Yr.ys (ys_pickF (Ev.t rfl) (Ev.t rfl))) rfl ?_; clear S a; intro a S)
        (refine q_y S (Yr.ys (ys_move (Ev.t rfl))) rfl ?_; clear S a; intro a S)
        (refine q_yt S rfl rfl (Yr.ys (ys_ldA ⟨Try.isAgg36, Try.sizeOf36⟩ (Ev.t rfl) (k := 11) rfl rfl)) rfl ?_; clear S a; intro a S)
        (refine q_yt S rfl rfl (Yr.ys (ys_ldA ⟨Try.isAgg36, Try.sizeOf36⟩ (Ev.t rfl) (k := 10) rfl rfl)) rfl ?_; clear S a; intro a S)
        (refine q_yt S rfl rfl (ys_call Try.call33 (EvL.cons (Ev.t rfl) (EvL.cons (Ev.t rfl) EvL.nil)) (fun hp w W => c33 _ _ _ _ _ _ _ (by exact ⟨(by exact Sl.of_own W (k := 16) rfl (fun _ => rfl)), (by exact Sl.of_own W (k := 17) rfl (fun _ => rfl))⟩) (by exact ⟨(by exact Sl.of_own W (k := 14) rfl (fun _ => rfl)), (by exact Sl.of_own W (k := 15) rfl (fun _ => rfl))⟩) (by assumption) (by assumption))) rfl ?_; clear S a; intro a S)
        rw [rw_lxy] at S
        rw [rw_d] at S
        (refine q_yt S rfl rfl (Yr.ys (ys_ldA ⟨Try.isAgg36, Try.sizeOf36⟩ (Ev.t rfl) (k := 6) rfl rfl)) rfl ?_; clear S a; intro a S)
        (refine q_yt S rfl rfl (Yr.ys (ys_ldA ⟨Try.isAgg36, Try.sizeOf36⟩ (Ev.t rfl) (k := 10) rfl rfl)) rfl ?_; clear S a; intro a S)
        (refine q_yt S rfl rfl (ys_call Try.call26 (EvL.cons (Ev.t rfl) (EvL.cons (Ev.t rfl) EvL.nil)) (fun hp w W => c26 _ _ _ _ _ _ _ (by exact ⟨(by exact Sl.of_own W (k := 7) rfl (fun _ => rfl)), (by exact Sl.of_own W (k := 8) rfl (fun _ => rfl))⟩) (by exact ⟨(by exact Sl.of_own W (k := 14) rfl (fun _ => rfl)), (by exact Sl.of_own W (k := 15) rfl (fun _ => rfl))⟩))) rfl ?_; clear S a; intro a S)
        rw [rw_d] at S
        (refine q_yt S rfl rfl (Yr.ys (ys_neqB Try.underlying4 (Ev.t rfl) (Ev.t rfl))) rfl ?_; clear S a; intro a S)
        (refine q_y S (Yr.ys (ys_pickF (Ev.t rfl) (Ev.t rfl))) rfl ?_; clear S a; intro a S)
        (refine q_nil ?_; intro w W; replace S := St.mk S W; clear W)
        (refine (then_normal (hK2 _ _ ?_)); clear hK2)
        refine st_else S (Ev.t rfl) ?_
        refine wp_skip ?_
        (refine (then_normal (hK1 _ _ ?_)); clear hK1)
        refine wp_seq_k fun _ hK1 => ?_
        refine wp_region_lit ?_
        (refine st_y S (Yr.ys (ys_ldA ⟨Try.isAgg36, Try.sizeOf36⟩ (Ev.t rfl) (k := 6) rfl rfl)) rfl ?_; clear S a w; intro a w S)
        (refine st_y S (Yr.ys (ys_ldA ⟨Try.isAgg36, Try.sizeOf36⟩ (Ev.t rfl) (k := 9) rfl rfl)) rfl ?_; clear S a w; intro a w S)
        (refine st_m (op_calls S Try.call51 (EvL.cons (Ev.t rfl) (EvL.cons (Ev.t rfl) EvL.nil)) (c51 _ _ _ _ _ _ _ (by exact ⟨(by exact Sl.of_own S.wd (k := 7) rfl (fun _ => rfl)), (by exact Sl.of_own S.wd (k := 8) rfl (fun _ => rfl))⟩) (by exact ⟨(by exact Sl.of_own S.wd (k := 12) rfl (fun _ => rfl)), (by exact Sl.of_own S.wd (k := 13) rfl (fun _ => rfl))⟩)) rfl ?_); clear S a w; rintro _ _ ⟨A17, c18, A27, c215, rfl, rfl⟩ a w S)
        rw [rw_pz] at S
        (refine st_y S (Yr.ys (ys_move (Ev.t rfl))) rfl ?_; clear S a w; intro a w S)
        (refine st_y S (Yr.ys (ys_ext (Ev.t rfl) rfl)) rfl ?_; clear S a w; intro a w S)
        (refine st_y S (Yr.ys (ys_ext (Ev.t rfl) rfl)) rfl ?_; clear S a w; intro a w S)
        (refine st_m (op_alloc S Try.zeroValue36 (cs := _) rfl rfl ?_); clear S a w; intro g7 a w S)
        (refine st_m (op_stW S Try.sizeOf36 (Ev.t rfl) (Ev.t rfl) (k := 0) rfl rfl rfl (by simp [Value.oneCell']) ?_); clear S a w; intro a w S)
        (refine st_y S (Yr.ys (ys_assign (Ev.t rfl))) rfl ?_; clear S a w; intro a w S)
        refine st_nil ?_
        (refine (then_normal (hK1 _ _ ?_)); clear hK1)
        refine wp_seq_k fun _ hK1 => ?_
        refine wp_region_lit ?_
        (refine st_y S (Yr.ys (ys_ldA ⟨Try.isAgg36, Try.sizeOf36⟩ (Ev.t rfl) (k := 13) rfl rfl)) rfl ?_; clear S a w; intro a w S)
        (refine st_y S (Yr.ys (ys_ldA ⟨Try.isAgg36, Try.sizeOf36⟩ (Ev.t rfl) (k := 12) rfl rfl)) rfl ?_; clear S a w; intro a w S)
        (refine st_m (op_calls S Try.call51 (EvL.cons (Ev.t rfl) (EvL.cons (Ev.t rfl) EvL.nil)) (c51 _ _ _ _ _ _ _ (by exact ⟨(by exact Sl.of_own S.wd (k := 17) rfl (fun _ => rfl)), (by exact Sl.of_own S.wd (k := 18) rfl (fun _ => rfl))⟩) (by exact ⟨(by exact Sl.of_own S.wd (k := 15) rfl (fun _ => rfl)), (by exact Sl.of_own S.wd (k := 16) rfl (fun _ => rfl))⟩)) rfl ?_); clear S a w; rintro _ _ ⟨A18, c110, A28, c216, rfl, rfl⟩ a w S)
        (refine st_y S (Yr.ys (ys_move (Ev.t rfl))) rfl ?_; clear S a w; intro a w S)
        (refine st_y S (Yr.ys (ys_ext (Ev.t rfl) rfl)) rfl ?_; clear S a w; intro a w S)
        (refine st_y S (Yr.ys (ys_ext (Ev.t rfl) rfl)) rfl ?_; clear S a w; intro a w S)
        (refine st_m (op_alloc S Try.zeroValue36 (cs := _) rfl rfl ?_); clear S a w; intro g8 a w S)
        (refine st_m (op_stW S Try.sizeOf36 (Ev.t rfl) (Ev.t rfl) (k := 0) rfl rfl rfl (by simp [Value.oneCell']) ?_); clear S a w; intro a w S)
        (refine st_y S (Yr.ys (ys_assign (Ev.t rfl))) rfl ?_; clear S a w; intro a w S)
        refine st_nil ?_
        (refine (then_normal (hK1 _ _ ?_)); clear hK1)
        refine wp_seq_k fun _ hK1 => ?_
        refine wp_seq_k fun _ hK2 => ?_
        refine wp_region_lit ?_
        (refine st_y S (Yr.ys (ys_move (Ev.t rfl))) rfl ?_; clear S a w; intro a w S)
        (refine st_y S (Yr.ys (ys_T (by omega) (ys_neq (Ev.t rfl) Ev.c))) rfl ?_; clear S a w; intro a w S)
        (refine st_y S (Yr.ys (ys_move (Ev.t rfl))) rfl ?_; clear S a w; intro a w S)
        (refine st_skip S rfl rfl rfl rfl ?_; clear S a w; intro a w S)
        (refine st_skip S rfl rfl rfl rfl ?_; clear S a w; intro a w S)
        (refine st_y S (Yr.ys (ys_pickT (Ev.t rfl) Ev.c)) rfl ?_; clear S a w; intro a w S)
        refine st_nil ?_
        (refine (then_normal (hK2 _ _ ?_)); clear hK2)
        refine st_then S (Ev.t rfl) ?_
        refine wp_seq_k fun _ hK2 => ?_
        refine wp_region_lit ?_
        (refine st_y S (Yr.ys (ys_assign Ev.c)) rfl ?_; clear S a w; intro a w S)
        refine st_nil ?_
        (refine (then_normal (hK2 _ _ ?_)); clear hK2)
        refine wp_ret ?_
        refine (then_ret ?_)
        refine st_ret S (results1 S Try.results11 (Rv.tmp rfl)) ?_
        exact ⟨rfl, S.wd.below⟩
      | false =>
        have hU := uni_can hP hZ hb1
        have kU := can_len hU
        have rw_pz : joinL P Z = (uniC P Z, 0) := by rw [join_uni hP hZ, hb1]; rfl
        cases hb2 : bigC (uniC Y Z) with
        | true =>
          have rw_yz : joinL Y Z = (⟨[], []⟩, 4) := by rw [join_uni hY hZ, hb2]; rfl
          refine enter6 Try.func11 rfl Try.ntmps11 rfl fun a S => ?_
          refine wp_seq_k fun _ hK1 => ?_
          refine wp_region_lit ?_
          (refine st_y S (Yr.ys (ys_assign Ev.c)) rfl ?_; clear S a; intro a w S)
          refine st_nil ?_
          (refine (then_normal (hK1 _ _ ?_)); clear hK1)
          refine wp_seq_k fun _ hK1 => ?_
          refine wp_region_lit ?_
          (refine st_y S (Yr.ys (ys_move (Ev.t rfl))) rfl ?_; clear S a w; intro a w S)
          (refine st_y S (Yr.ys (ys_move (Ev.t rfl))) rfl ?_; clear S a w; intro a w S)
          (refine st_m (op_calls S Try.call19 (EvL.cons (Ev.t rfl) (EvL.cons (Ev.t rfl) EvL.nil)) (c19 _ _ _ _ _ (by exact .old S.wd (by assumption)) (by exact .old S.wd (by assumption)) (by assumption) (by assumption)) rfl ?_); clear S a w; rintro _ _ ⟨A11, c12, A21, c29, rfl, rfl⟩ a w S)
          rw [rw_x] at S
          (refine st_y S (Yr.ys (ys_move (Ev.t rfl))) rfl ?_; clear S a w; intro a w S)
          (refine st_y S (Yr.ys (ys_move (Ev.t rfl))) rfl ?_; clear S a w; intro a w S)
          (refine st_m (op_calls S Try.call19 (EvL.cons (Ev.t rfl) (EvL.cons (Ev.t rfl) EvL.nil)) (c19 _ _ _ _ _ (by exact .old S.wd (by assumption)) (by exact .old S.wd (by assumption)) (by assumption) (by assumption)) rfl ?_); clear S a w; rintro _ _ ⟨A12, c13, A22, c210, rfl, rfl⟩ a w S)
          rw [rw_y] at S
          (refine st_y S (Yr.ys (ys_move (Ev.t rfl))) rfl ?_; clear S a w; intro a w S)
          (refine st_y S (Yr.ys (ys_move (Ev.t rfl))) rfl ?_; clear S a w; intro a w S)
          (refine st_m (op_calls S Try.call19 (EvL.cons (Ev.t rfl) (EvL.cons (Ev.t rfl) EvL.nil)) (c19 _ _ _ _ _ (by exact .old S.wd (by assumption)) (by exact .old S.wd (by assumption)) (by assumption) (by assumption)) rfl ?_); clear S a w; rintro _ _ ⟨A13, c14, A23, c211, rfl, rfl⟩ a w S)
          rw [rw_z] at S
          (refine st_m (op_alloc S Try.zeroValue36 (cs := _) rfl rfl ?_); clear S a w; intro g1 a w S)
          (refine st_m (op_alloc S Try.zeroValue36 (cs := _) rfl rfl ?_); clear S a w; intro g2 a w S)
          (refine st_m (op_alloc S Try.zeroValue36 (cs := _) rfl rfl ?_); clear S a w; intro g3 a w S)
          (refine st_m (op_stW S Try.sizeOf36 (Ev.t rfl) (Ev.t rfl) (k := 2) rfl rfl rfl (by simp [Value.oneCell']) ?_); clear S a w; intro a w S)
          (refine st_m (op_stW S Try.sizeOf36 (Ev.t rfl) (Ev.t rfl) (k := 1) rfl rfl rfl (by simp [Value.oneCell']) ?_); clear S a w; intro a w S)
          (refine st_m (op_stW S Try.sizeOf36 (Ev.t rfl) (Ev.t rfl) (k := 0) rfl rfl rfl (by simp [Value.oneCell']) ?_); clear S a w; intro a w S)
          refine st_nil ?_
          (refine (then_normal (hK1 _ _ ?_)); clear hK1)
          refine wp_seq_k fun _ hK1 => ?_
          refine wp_region_lit ?_
          (refine st_y S (Yr.ys (ys_ldA ⟨Try.isAgg36, Try.sizeOf36⟩ (Ev.t rfl) (k := 2) rfl rfl)) rfl ?_; clear S a w; intro a w S)
          (refine st_y S (Yr.ys (ys_ldA ⟨Try.isAgg36, Try.sizeOf36⟩ (Ev.t rfl) (k := 1) rfl rfl)) rfl ?_; clear S a w; intro a w S)
          (refine st_m (op_calls S Try.call51 (EvL.cons (Ev.t rfl) (EvL.cons (Ev.t rfl) EvL.nil)) (c51 _ _ _ _ _ _ _ (by exact ⟨(by exact Sl.of_own S.wd (k := 7) rfl (fun _ => rfl)), (by exact Sl.of_own S.wd (k := 8) rfl (fun _ => rfl))⟩) (by exact ⟨(by exact Sl.of_own S.wd (k := 5) rfl (fun _ => rfl)), (by exact Sl.of_own S.wd (k := 6) rfl (fun _ => rfl))⟩)) rfl ?_); clear S a w; rintro _ _ ⟨A14, c15, A24, c212, rfl, rfl⟩ a w S)
          rw [rw_xy] at S
          (refine st_y S (Yr.ys (ys_move (Ev.t rfl))) rfl ?_; clear S a w; intro a w S)
          (refine st_y S (Yr.ys (ys_ext (Ev.t rfl) rfl)) rfl ?_; clear S a w; intro a w S)
          (refine st_y S (Yr.ys (ys_ext (Ev.t rfl) rfl)) rfl ?_; clear S a w; intro a w S)
          (refine st_m (op_alloc S Try.zeroValue36 (cs := _) rfl rfl ?_); clear S a w; intro g4 a w S)
          (refine st_m (op_stW S Try.sizeOf36 (Ev.t rfl) (Ev.t rfl) (k := 0) rfl rfl rfl (by simp [Value.oneCell']) ?_); clear S a w; intro a w S)
          (refine st_y S (Yr.ys (ys_assign (Ev.t rfl))) rfl ?_; clear S a w; intro a w S)
          refine st_nil ?_
          (refine (then_normal (hK1 _ _ ?_)); clear hK1)
          refine wp_seq_k fun _ hK1 => ?_
          refine wp_region_lit ?_
          (refine st_y S (Yr.ys (ys_ldA ⟨Try.isAgg36, Try.sizeOf36⟩ (Ev.t rfl) (k := 4) rfl rfl)) rfl ?_; clear S a w; intro a w S)
          (refine st_y S (Yr.ys (ys_ldA ⟨Try.isAgg36, Try.sizeOf36⟩ (Ev.t rfl) (k := 5) rfl rfl)) rfl ?_; clear S a w; intro a w S)
          (refine st_m (op_calls S Try.call51 (EvL.cons (Ev.t rfl) (EvL.cons (Ev.t rfl) EvL.nil)) (c51 _ _ _ _ _ _ _ (by exact ⟨(by exact Sl.of_own S.wd (k := 8) rfl (fun _ => rfl)), (by exact Sl.of_own S.wd (k := 9) rfl (fun _ => rfl))⟩) (by exact ⟨(by exact Sl.of_own S.wd (k := 10) rfl (fun _ => rfl)), (by exact Sl.of_own S.wd (k := 11) rfl (fun _ => rfl))⟩)) rfl ?_); clear S a w; rintro _ _ ⟨A15, c16, A25, c213, rfl, rfl⟩ a w S)
          rw [rw_yx] at S
          (refine st_y S (Yr.ys (ys_move (Ev.t rfl))) rfl ?_; clear S a w; intro a w S)
          (refine st_y S (Yr.ys (ys_ext (Ev.t rfl) rfl)) rfl ?_; clear S a w; intro a w S)
          (refine st_y S (Yr.ys (ys_ext (Ev.t rfl) rfl)) rfl ?_; clear S a w; intro a w S)
          (refine st_m (op_alloc S Try.zeroValue36 (cs := _) rfl rfl ?_); clear S a w; intro g5 a w S)
          (refine st_m (op_stW S Try.sizeOf36 (Ev.t rfl) (Ev.t rfl) (k := 0) rfl rfl rfl (by simp [Value.oneCell']) ?_); clear S a w; intro a w S)
          (refine st_y S (Yr.ys (ys_assign (Ev.t rfl))) rfl ?_; clear S a w; intro a w S)
          refine st_nil ?_
          (refine (then_normal (hK1 _ _ ?_)); clear hK1)
          refine wp_seq_k fun _ hK1 => ?_
          refine wp_region_lit ?_
          (refine st_y S (Yr.ys (ys_ldA ⟨Try.isAgg36, Try.sizeOf36⟩ (Ev.t rfl) (k := 8) rfl rfl)) rfl ?_; clear S a w; intro a w S)
          (refine st_y S (Yr.ys (ys_ldA ⟨Try.isAgg36, Try.sizeOf36⟩ (Ev.t rfl) (k := 8) rfl rfl)) rfl ?_; clear S a w; intro a w S)
          (refine st_m (op_calls S Try.call51 (EvL.cons (Ev.t rfl) (EvL.cons (Ev.t rfl) EvL.nil)) (c51 _ _ _ _ _ _ _ (by exact ⟨(by exact Sl.of_own S.wd (k := 13) rfl (fun _ => rfl)), (by exact Sl.of_own S.wd (k := 14) rfl (fun _ => rfl))⟩) (by exact ⟨(by exact Sl.of_own S.wd (k := 13) rfl (fun _ => rfl)), (by exact Sl.of_own S.wd (k := 14) rfl (fun _ => rfl))⟩)) rfl ?_); clear S a w; rintro _ _ ⟨A16, c17, A26, c214, rfl, rfl⟩ a w S)
          rw [rw_xx] at S
          (refine st_y S (Yr.ys (ys_move (Ev.t rfl))) rfl ?_; clear S a w; intro a w S)
          (refine st_y S (Yr.ys (ys_ext (Ev.t rfl) rfl)) rfl ?_; clear S a w; intro a w S)
          (refine st_y S (Yr.ys (ys_ext (Ev.t rfl) rfl)) rfl ?_; clear S a w; intro a w S)
          (refine st_m (op_alloc S Try.zeroValue36 (cs := _) rfl rfl ?_); clear S a w; intro g6 a w S)
          (refine st_m (op_stW S Try.sizeOf36 (Ev.t rfl) (Ev.t rfl) (k := 0) rfl rfl rfl (by simp [Value.oneCell']) ?_); clear S a w; intro a w S)
          (refine st_y S (Yr.ys (ys_assign (Ev.t rfl))) rfl ?_; clear S a w; intro a w S)
          refine st_nil ?_
          (refine (then_normal (hK1 _ _ ?_)); clear hK1)
          refine wp_seq_k fun _ hK1 => ?_
          refine wp_seq_k fun _ hK2 => ?_
          refine wp_region_lit ?_
          (refine st_y S (Yr.ys (ys_move (Ev.t rfl))) rfl ?_; clear S a w; intro a w S)
          (refine st_y S (Yr.ys (ys_move (Ev.t rfl))) rfl ?_; clear S a w; intro a w S)
          (refine st_y S (Yr.ys (ys_F (by omega) (ys_neq (Ev.t rfl) (Ev.t rfl)))) rfl ?_; clear S a w; intro a w S)
          (refine st_y S (Yr.ys (ys_move (Ev.t rfl))) rfl ?_; clear S a w; intro a w S)
          (refine st_yt S rfl rfl (Yr.ys (ys_ldA ⟨Try.isAgg36, Try.sizeOf36⟩ (Ev.t rfl) (k := 6) rfl rfl)) rfl ?_; clear S a w; intro a w S)
          (refine st_yt S rfl rfl (Yr.ys (ys_ldA ⟨Try.isAgg36, Try.sizeOf36⟩ (Ev.t rfl) (k := 3) rfl rfl)) rfl ?_; clear S a w; intro a w S)
          (refine st_yt S rfl rfl (ys_call Try.call26 (EvL.cons (Ev.t rfl) (EvL.cons (Ev.t rfl) EvL.nil)) (fun hp w W => c26 _ _ _ _ _ _ _ (by exact ⟨(by exact Sl.of_own W (k := 7) rfl (fun _ => rfl)), (by exact Sl.of_own W (k := 8) rfl (fun _ => rfl))⟩) (by exact ⟨(by exact Sl.of_own W (k := 4) rfl (fun _ => rfl)), (by exact Sl.of_own W (k := 5) rfl (fun _ => rfl))⟩))) rfl ?_; clear S a w; intro a w S)
          rw [rw_s] at S
          (refine st_yt S rfl rfl (Yr.ys (ys_not (Ev.t rfl))) rfl ?_; clear S a w; intro a w S)
          (refine st_y S (Yr.ys (ys_pickF (Ev.t rfl) (Ev.t rfl))) rfl ?_; clear S a w; intro a w S)
          (refine st_y S (Yr.ys (ys_move (Ev.t rfl))) rfl ?_; clear S a w; intro a w S)
          (refine st_yt S rfl rfl (Yr.ys (ys_move (Ev.t rfl))) rfl ?_; clear S a w; intro a w S)
          (refine st_yt S rfl rfl (Yr.ys (ys_F (by omega) (ys_neq (Ev.t rfl) Ev.c))) rfl ?_; clear S a w; intro a w S)
          (refine st_y S (Yr.ys (ys_pickF (Ev.t rfl) (Ev.t rfl))) rfl ?_; clear S a w; intro a w S)
          (refine st_y S (Yr.ys (ys_move (Ev.t rfl))) rfl ?_; clear S a w; intro a w S)
          (refine st_yt S rfl rfl (Yr.ys (ys_ldA ⟨Try.isAgg36, Try.sizeOf36⟩ (Ev.t rfl) (k := 0) rfl rfl)) rfl ?_; clear S a w; intro a w S)
          (refine st_yt S rfl rfl (Yr.ys (ys_ldA ⟨Try.isAgg36, Try.sizeOf36⟩ (Ev.t rfl) (k := 11) rfl rfl)) rfl ?_; clear S a w; intro a w S)
          (refine st_yt S rfl rfl (ys_call Try.call26 (EvL.cons (Ev.t rfl) (EvL.cons (Ev.t rfl) EvL.nil)) (fun hp w W => c26 _ _ _ _ _ _ _ (by exact ⟨(by exact Sl.of_own W (k := 1) rfl (fun _ => rfl)), (by exact Sl.of_own W (k := 2) rfl (fun _ => rfl))⟩) (by exact ⟨(by exact Sl.of_own W (k := 16) rfl (fun _ => rfl)), (by exact Sl.of_own W (k := 17) rfl (fun _ => rfl))⟩))) rfl ?_; clear S a w; intro a w S)
          rw [rw_s] at S
          (refine st_yt S rfl rfl (Yr.ys (ys_not (Ev.t rfl))) rfl ?_; clear S a w; intro a w S)
          (refine st_y S (Yr.ys (ys_pickF (Ev.t rfl) (Ev.t rfl))) rfl ?_; clear S a w; intro a w S)
          refine st_nil ?_
          (refine (then_normal (hK2 _ _ ?_)); clear hK2)
          refine st_else S (Ev.t rfl) ?_
          refine wp_skip ?_
          (refine (then_normal (hK1 _ _ ?_)); clear hK1)
          refine wp_seq_k fun _ hK1 => ?_
          refine wp_seq_k fun _ hK2 => ?_
          refine wp_region_lit ?_
          (refine st_y S (Yr.ys (ys_move (Ev.t rfl))) rfl ?_; clear S a w; intro a w S)
          (refine st_y S (Yr.ys (ys_F (by omega) (ys_neq (Ev.t rfl) Ev.c))) rfl ?_; clear S a w; intro a w S)
          refine st_nil ?_
          (refine (then_normal (hK2 _ _ ?_)); clear hK2)
          refine st_else S (Ev.t rfl) ?_
          refine wp_skip ?_
          (refine (then_normal (hK1 _ _ ?_)); clear hK1)
          refine wp_seq_k fun _ hK1 => ?_
          refine wp_seq_k fun _ hK2 => ?_
          (refine st_quiet S (by kernel_rfl) (by kernel_rfl) ?_; clear S w; intro a S)
          (refine q_y S (Yr.ys (ys_ldA ⟨Try.isAgg36, Try.sizeOf36⟩ (Ev.t rfl) (k := 11) rfl rfl)) rfl ?_; clear S a; intro a S)
          (refine q_y S (Yr.ys (ys_ldA ⟨Try.isAgg36, Try.sizeOf36⟩ (Ev.t rfl) (k := 6) rfl rfl)) rfl ?_; clear S a; intro a S)
          (refine q_y S (ys_call Try.call33 (EvL.cons (Ev.t rfl) (EvL.cons (Ev.t rfl) EvL.nil)) (fun hp w W => c33 _ _ _ _ _ _ _ (by exact ⟨(by exact Sl.of_own W (k := 16) rfl (fun _ => rfl)), (by exact Sl.of_own W (k := 17) rfl (fun _ => rfl))⟩) (by exact ⟨(by exact Sl.of_own W (k := 7) rfl (fun _ => rfl)), (by exact Sl.of_own W (k := 8) rfl (fun _ => rfl))⟩) (by assumption) (by assumption))) rfl ?_; clear S a; intro a S)
          rw [rw_lx] at S
          (refine q_y S (Yr.ys (ys_not (Ev.t rfl))) rfl ?_; clear S a; intro a S)
          (refine q_y S (Yr.ys (ys_move (Ev.t rfl))) rfl ?_; clear S a; intro a S)
          (refine q_yt S rfl rfl (Yr.ys (ys_ldA ⟨Try.isAgg36, Try.sizeOf36⟩ (Ev.t rfl) (k := 10) rfl rfl)) rfl ?_; clear S a; intro a S)
          (refine q_yt S rfl rfl (Yr.ys (ys_ldA ⟨Try.isAgg36, Try.sizeOf36⟩ (Ev.t rfl) (k := 6) rfl rfl)) rfl ?_; clear S a; intro a S)
          (refine q_yt S rfl rfl (ys_call Try.call33 (EvL.cons (Ev.t rfl) (EvL.cons (Ev.t rfl) EvL.nil)) (fun hp w W => c33 _ _ _ _ _ _ _ (by exact ⟨(by exact Sl.of_own W (k := 14) rfl (fun _ => rfl)), (by exact Sl.of_own W (k := 15) rfl (fun _ => rfl))⟩) (by exact ⟨(by exact Sl.of_own W (k := 7) rfl (fun _ => rfl)), (by exact Sl.of_own W (k := 8) rfl (fun _ => rfl))⟩) (by assumption) (by assumption))) rfl ?_; clear S a; intro a S)
          rw [rw_ly] at S
          (refine q_yt S rfl rfl (Yr.ys (ys_not (Ev.t rfl))) rfl ?_; clear S a; intro a S)
          (refine q_y S (Yr.ys (ys_pickF (Ev.t rfl) (Ev.t rfl))) rfl ?_; clear S a; intro a S)
          (refine q_y S (Yr.ys (ys_move (Ev.t rfl))) rfl ?_; clear S a; intro a S)
          (refine q_yt S rfl rfl (Yr.ys (ys_ldA ⟨Try.isAgg36, Try.sizeOf36⟩ (Ev.t rfl) (k := 11) rfl rfl)) rfl ?_; clear S a; intro a S)
          (refine q_yt S rfl rfl (Yr.ys (ys_ldA ⟨Try.isAgg36, Try.sizeOf36⟩ (Ev.t rfl) (k := 10) rfl rfl)) rfl ?_; clear S a; intro a S)
          (refine q_yt S rfl rfl (ys_call Try.call33 (EvL.cons (Ev.t rfl) (EvL.cons (Ev.t rfl) EvL.nil)) (fun hp w W => c33 _ _ _ _ _ _ _ (by exact ⟨(by exact Sl.of_own W (k := 16) rfl (fun _ => rfl)), (by exact Sl.of_own W (k := 17) rfl (fun _ => rfl))⟩) (by exact ⟨(by exact Sl.of_own W (k := 14) rfl (fun _ => rfl)), (by exact Sl.of_own W (k := 15) rfl (fun _ => rfl))⟩) (by assumption) (by assumption))) rfl ?_; clear S a; intro a S)
          rw [rw_lxy] at S
          rw [rw_d] at S
          (refine q_yt S rfl rfl (Yr.ys (ys_ldA ⟨Try.isAgg36, Try.sizeOf36⟩ (Ev.t rfl) (k := 6) rfl rfl)) rfl ?_; clear S a; intro a S)
          (refine q_yt S rfl rfl (Yr.ys (ys_ldA ⟨Try.isAgg36, Try.sizeOf36⟩ (Ev.t rfl) (k := 10) rfl rfl)) rfl ?_; clear S a; intro a S)
          (refine q_yt S rfl rfl (ys_call Try.call26 (EvL.cons (Ev.t rfl) (EvL.cons (Ev.t rfl) EvL.nil)) (fun hp w W => c26 _ _ _ _ _ _ _ (by exact ⟨(by exact Sl.of_own W (k := 7) rfl (fun _ => rfl)), (by exact Sl.of_own W (k := 8) rfl (fun _ => rfl))⟩) (by exact ⟨(by exact Sl.of_own W (k := 14) rfl (fun _ => rfl)), (by exact Sl.of_own W (k := 15) rfl (fun _ => rfl))⟩))) rfl ?_; clear S a; intro a S)
          rw [rw_d] at S
          (refine q_yt S rfl rfl (Yr.ys (ys_neqB Try.underlying4 (Ev.t rfl) (Ev.t rfl))) rfl ?_; clear S a; intro a S)
          (refine q_y S (Yr.ys (ys_pickF (Ev.t rfl) (Ev.t rfl))) rfl ?_; clear S a; intro a S)
          (refine q_nil ?_; intro w W; replace S := St.mk S W; clear W)
          (refine (then_normal (hK2 _ _ ?_)); clear hK2)
          refine st_else S (Ev.t rfl) ?_
          refine wp_skip ?_
          (refine (then_normal (hK1 _ _ ?_)); clear hK1)
          refine wp_seq_k fun _ hK1 => ?_
          refine wp_region_lit ?_
          (refine st_y S (Yr.ys (ys_ldA ⟨Try.isAgg36, Try.sizeOf36⟩ (Ev.t rfl) (k := 6) rfl rfl)) rfl ?_; clear S a w; intro a w S)
          (refine st_y S (Yr.ys (ys_ldA ⟨Try.isAgg36, Try.sizeOf36⟩ (Ev.t rfl) (k := 9) rfl rfl)) rfl ?_; clear S a w; intro a w S)
          (refine st_m (op_calls S Try.call51 (EvL.cons (Ev.t rfl) (EvL.cons (Ev.t rfl) EvL.nil)) (c51 _ _ _ _ _ _ _ (by exact ⟨(by exact Sl.of_own S.wd (k := 7) rfl (fun _ => rfl)), (by exact Sl.of_own S.wd (k := 8) rfl (fun _ => rfl))⟩) (by exact ⟨(by exact Sl.of_own S.wd (k := 12) rfl (fun _ => rfl)), (by exact Sl.of_own S.wd (k := 13) rfl (fun _ => rfl))⟩)) rfl ?_); clear S a w; rintro _ _ ⟨A17, c18, A27, c215, rfl, rfl⟩ a w S)
          rw [rw_pz] at S
          (refine st_y S (Yr.ys (ys_move (Ev.t rfl))) rfl ?_; clear S a w; intro a w S)
          (refine st_y S (Yr.ys (ys_ext (Ev.t rfl) rfl)) rfl ?_; clear S a w; intro a w S)
          (refine st_y S (Yr.ys (ys_ext (Ev.t rfl) rfl)) rfl ?_; clear S a w; intro a w S)
          (refine st_m (op_alloc S Try.zeroValue36 (cs := _) rfl rfl ?_); clear S a w; intro g7 a w S)
          (refine st_m (op_stW S Try.sizeOf36 (Ev.t rfl) (Ev.t rfl) (k := 0) rfl rfl rfl (by simp [Value.oneCell']) ?_); clear S a w; intro a w S)
          (refine st_y S (Yr.ys (ys_assign (Ev.t rfl))) rfl ?_; clear S a w; intro a w S)
          refine st_nil ?_
          (refine (then_normal (hK1 _ _ ?_)); clear hK1)
          refine wp_seq_k fun _ hK1 => ?_
          refine wp_region_lit ?_
          (refine st_y S (Yr.ys (ys_ldA ⟨Try.isAgg36, Try.sizeOf36⟩ (Ev.t rfl) (k := 13) rfl rfl)) rfl ?_; clear S a w; intro a w S)
          (refine st_y S (Yr.ys (ys_ldA ⟨Try.isAgg36, Try.sizeOf36⟩ (Ev.t rfl) (k := 12) rfl rfl)) rfl ?_; clear S a w; intro a w S)
          (refine st_m (op_calls S Try.call51 (EvL.cons (Ev.t rfl) (EvL.cons (Ev.t rfl) EvL.nil)) (c51 _ _ _ _ _ _ _ (by exact ⟨(by exact Sl.of_own S.wd (k := 17) rfl (fun _ => rfl)), (by exact Sl.of_own S.wd (k := 18) rfl (fun _ => rfl))⟩) (by exact ⟨(by exact Sl.of_own S.wd (k := 15) rfl (fun _ => rfl)), (by exact Sl.of_own S.wd (k := 16) rfl (fun _ => rfl))⟩)) rfl ?_); clear S a w; rintro _ _ ⟨A18, c110, A28, c216, rfl, rfl⟩ a w S)
          rw [rw_yz] at S
          (refine st_y S (Yr.ys (ys_move (Ev.t rfl))) rfl ?_; clear S a w; intro a w S)
          (refine st_y S (Yr.ys (ys_ext (Ev.t rfl) rfl)) rfl ?_; clear S a w; intro a w S)
          (refine st_y S (Yr.ys (ys_ext (Ev.t rfl) rfl)) rfl ?_; clear S a w; intro a w S)
          (refine st_m (op_alloc S Try.zeroValue36 (cs := _) rfl rfl ?_); clear S a w; intro g8 a w S)
          (refine st_m (op_stW S Try.sizeOf36 (Ev.t rfl) (Ev.t rfl) (k := 0) rfl rfl rfl (by simp [Value.oneCell']) ?_); clear S a w; intro a w S)
          (refine st_y S (Yr.ys (ys_assign (Ev.t rfl))) rfl ?_; clear S a w; intro a w S)
          refine st_nil ?_
          (refine (then_normal (hK1 _ _ ?_)); clear hK1)
          refine wp_seq_k fun _ hK1 => ?_
          refine wp_seq_k fun _ hK2 => ?_
          refine wp_region_lit ?_
          (refine st_y S (Yr.ys (ys_move (Ev.t rfl))) rfl ?_; clear S a w; intro a w S)
          (refine st_y S (Yr.ys (ys_F (by omega) (ys_neq (Ev.t rfl) Ev.c))) rfl ?_; clear S a w; intro a w S)
          (refine st_y S (Yr.ys (ys_move (Ev.t rfl))) rfl ?_; clear S a w; intro a w S)
          (refine st_yt S rfl rfl (Yr.ys (ys_move (Ev.t rfl))) rfl ?_; clear S a w; intro a w S)
          (refine st_yt S rfl rfl (Yr.ys (ys_T (by omega) (ys_neq (Ev.t rfl) Ev.c))) rfl ?_; clear S a w; intro a w S)
          (refine st_y S (Yr.ys (ys_pickF (Ev.t rfl) (Ev.t rfl))) rfl ?_; clear S a w; intro a w S)
          refine st_nil ?_
          (refine (then_normal (hK2 _ _ ?_)); clear hK2)
          refine st_then S (Ev.t rfl) ?_
          refine wp_seq_k fun _ hK2 => ?_
          refine wp_region_lit ?_
          (refine st_y S (Yr.ys (ys_assign Ev.c)) rfl ?_; clear S a w; intro a w S)
          refine st_nil ?_
          (refine (then_normal (hK2 _ _ ?_)); clear hK2)
          refine wp_ret ?_
          refine (then_ret ?_)
          refine st_ret S (results1 S Try.results11 (Rv.tmp rfl)) ?_
          exact ⟨rfl, S.wd.below⟩
        | false =>
          have hT := uni_can hY hZ hb2
          have kT := can_len hT
          have rw_yz : joinL Y Z = (uniC Y Z, 0) := by rw [join_uni hY hZ, hb2]; rfl
          have rw_xt : joinL X (uniC Y Z) = (uniC P Z, 0) := by rw [join_uni hX hT, ← aP, hb1]; rfl
          generalize uniC Y Z = T at *
          generalize uniC P Z = U at *
          have rw_eT : (⟨T.marks, T.cloud⟩ : Ctx) = T := rfl
          have rw_eU : (⟨U.marks, U.cloud⟩ : Ctx) = U := rfl
          refine enter6 Try.func11 rfl Try.ntmps11 rfl fun a S => ?_
          refine wp_seq_k fun _ hK1 => ?_
          refine wp_region_lit ?_
          (refine st_y S (Yr.ys (ys_assign Ev.c)) rfl ?_; clear S a; intro a w S)
          refine st_nil ?_
          (refine (then_normal (hK1 _ _ ?_)); clear hK1)
          refine wp_seq_k fun _ hK1 => ?_
          refine wp_region_lit ?_
          (refine st_y S (Yr.ys (ys_move (Ev.t rfl))) rfl ?_; clear S a w; intro a w S)
          (refine st_y S (Yr.ys (ys_move (Ev.t rfl))) rfl ?_; clear S a w; intro a w S)
          (refine st_m (op_calls S Try.call19 (EvL.cons (Ev.t rfl) (EvL.cons (Ev.t rfl) EvL.nil)) (c19 _ _ _ _ _ (by exact .old S.wd (by assumption)) (by exact .old S.wd (by assumption)) (by assumption) (by assumption)) rfl ?_); clear S a w; rintro _ _ ⟨A11, c12, A21, c29, rfl, rfl⟩ a w S)
          rw [rw_x] at S
          (refine st_y S (Yr.ys (ys_move (Ev.t rfl))) rfl ?_; clear S a w; intro a w S)
          (refine st_y S (Yr.ys (ys_move (Ev.t rfl))) rfl ?_; clear S a w; intro a w S)
          (refine st_m (op_calls S Try.call19 (EvL.cons (Ev.t rfl) (EvL.cons (Ev.t rfl) EvL.nil)) (c19 _ _ _ _ _ (by exact .old S.wd (by assumption)) (by exact .old S.wd (by assumption)) (by assumption) (by assumption)) rfl ?_); clear S a w; rintro _ _ ⟨A12, c13, A22, c210, rfl, rfl⟩ a w S)
          rw [rw_y] at S
          (refine st_y S (Yr.ys (ys_move (Ev.t rfl))) rfl ?_; clear S a w; intro a w S)
          (refine st_y S (Yr.ys (ys_move (Ev.t rfl))) rfl ?_; clear S a w; intro a w S)
          (refine st_m (op_calls S Try.call19 (EvL.cons (Ev.t rfl) (EvL.cons (Ev.t rfl) EvL.nil)) (c19 _ _ _ _ _ (by exact .old S.wd (by assumption)) (by exact .old S.wd (by assumption)) (by assumption) (by assumption)) rfl ?_); clear S a w; rintro _ _ ⟨A13, c14, A23, c211, rfl, rfl⟩ a w S)
          rw [rw_z] at S
          (refine st_m (op_alloc S Try.zeroValue36 (cs := _) rfl rfl ?_); clear S a w; intro g1 a w S)
          (refine st_m (op_alloc S Try.zeroValue36 (cs := _) rfl rfl ?_); clear S a w; intro g2 a w S)
          (refine st_m (op_alloc S Try.zeroValue36 (cs := _) rfl rfl ?_); clear S a w; intro g3 a w S)
          (refine st_m (op_stW S Try.sizeOf36 (Ev.t rfl) (Ev.t rfl) (k := 2) rfl rfl rfl (by simp [Value.oneCell']) ?_); clear S a w; intro a w S)
          (refine st_m (op_stW S Try.sizeOf36 (Ev.t rfl) (Ev.t rfl) (k := 1) rfl rfl rfl (by simp [Value.oneCell']) ?_); clear S a w; intro a w S)
          (refine st_m (op_stW S Try.sizeOf36 (Ev.t rfl) (Ev.t rfl) (k := 0) rfl rfl rfl (by simp [Value.oneCell']) ?_); clear S a w; intro a w S)
          refine st_nil ?_
          (refine (then_normal (hK1 _ _ ?_)); clear hK1)
          refine wp_seq_k fun _ hK1 => ?_
          refine wp_region_lit ?_
          (refine st_y S (Yr.ys (ys_ldA ⟨Try.isAgg36, Try.sizeOf36⟩ (Ev.t rfl) (k := 2) rfl rfl)) rfl ?_; clear S a w; intro a w S)
          (refine st_y S (Yr.ys (ys_ldA ⟨Try.isAgg36, Try.sizeOf36⟩ (Ev.t rfl) (k := 1) rfl rfl)) rfl ?_; clear S a w; intro a w S)
          (refine st_m (op_calls S Try.call51 (EvL.cons (Ev.t rfl) (EvL.cons (Ev.t rfl) EvL.nil)) (c51 _ _ _ _ _ _ _ (by exact ⟨(by exact Sl.of_own S.wd (k := 7) rfl (fun _ => rfl)), (by exact Sl.of_own S.wd (k := 8) rfl (fun _ => rfl))⟩) (by exact ⟨(by exact Sl.of_own S.wd (k := 5) rfl (fun _ => rfl)), (by exact Sl.of_own S.wd (k := 6) rfl (fun _ => rfl))⟩)) rfl ?_); clear S a w; rintro _ _ ⟨A14, c15, A24, c212, rfl, rfl⟩ a w S)
          rw [rw_xy] at S
          (refine st_y S (Yr.ys (ys_move (Ev.t rfl))) rfl ?_; clear S a w; intro a w S)
          (refine st_y S (Yr.ys (ys_ext (Ev.t rfl) rfl)) rfl ?_; clear S a w; intro a w S)
          (refine st_y S (Yr.ys (ys_ext (Ev.t rfl) rfl)) rfl ?_; clear S a w; intro a w S)
          (refine st_m (op_alloc S Try.zeroValue36 (cs := _) rfl rfl ?_); clear S a w; intro g4 a w S)
          (refine st_m (op_stW S Try.sizeOf36 (Ev.t rfl) (Ev.t rfl) (k := 0) rfl rfl rfl (by simp [Value.oneCell']) ?_); clear S a w; intro a w S)
          (refine st_y S (Yr.ys (ys_assign (Ev.t rfl))) rfl ?_; clear S a w; intro a w S)
          refine st_nil ?_
          (refine (then_normal (hK1 _ _ ?_)); clear hK1)
          refine wp_seq_k fun _ hK1 => ?_
          refine wp_region_lit ?_
          (refine st_y S (Yr.ys (ys_ldA ⟨Try.isAgg36, Try.sizeOf36⟩ (Ev.t rfl) (k := 4) rfl rfl)) rfl ?_; clear S a w; intro a w S)
          (refine st_y S (Yr.ys (ys_ldA ⟨Try.isAgg36, Try.sizeOf36⟩ (Ev.t rfl) (k := 5) rfl rfl)) rfl ?_; clear S a w; intro a w S)
          (refine st_m (op_calls S Try.call51 (EvL.cons (Ev.t rfl) (EvL.cons (Ev.t rfl) EvL.nil)) (c51 _ _ _ _ _ _ _ (by exact ⟨(by exact Sl.of_own S.wd (k := 8) rfl (fun _ => rfl)), (by exact Sl.of_own S.wd (k := 9) rfl (fun _ => rfl))⟩) (by exact ⟨(by exact Sl.of_own S.wd (k := 10) rfl (fun _ => rfl)), (by exact Sl.of_own S.wd (k := 11) rfl (fun _ => rfl))⟩)) rfl ?_); clear S a w; rintro _ _ ⟨A15, c16, A25, c213, rfl, rfl⟩ a w S)
          rw [rw_yx] at S
          (refine st_y S (Yr.ys (ys_move (Ev.t rfl))) rfl ?_; clear S a w; intro a w S)
          (refine st_y S (Yr.ys (ys_ext (Ev.t rfl) rfl)) rfl ?_; clear S a w; intro a w S)
          (refine st_y S (Yr.ys (ys_ext (Ev.t rfl) rfl)) rfl ?_; clear S a w; intro a w S)
          (refine st_m (op_alloc S Try.zeroValue36 (cs := _) rfl rfl ?_); clear S a w; intro g5 a w S)
          (refine st_m (op_stW S Try.sizeOf36 (Ev.t rfl) (Ev.t rfl) (k := 0) rfl rfl rfl (by simp [Value.oneCell']) ?_); clear S a w; intro a w S)
          (refine st_y S (Yr.ys (ys_assign (Ev.t rfl))) rfl ?_; clear S a w; intro a w S)
          refine st_nil ?_
          (refine (then_normal (hK1 _ _ ?_)); clear hK1)
          refine wp_seq_k fun _ hK1 => ?_
          refine wp_region_lit ?_
          (refine st_y S (Yr.ys (ys_ldA ⟨Try.isAgg36, Try.sizeOf36⟩ (Ev.t rfl) (k := 8) rfl rfl)) rfl ?_; clear S a w; intro a w S)
          (refine st_y S (Yr.ys (ys_ldA ⟨Try.isAgg36, Try.sizeOf36⟩ (Ev.t rfl) (k := 8) rfl rfl)) rfl ?_; clear S a w; intro a w S)
          (refine st_m (op_calls S Try.call51 (EvL.cons (Ev.t rfl) (EvL.cons (Ev.t rfl) EvL.nil)) (c51 _ _ _ _ _ _ _ (by exact ⟨(by exact Sl.of_own S.wd (k := 13) rfl (fun _ => rfl)), (by exact Sl.of_own S.wd (k := 14) rfl (fun _ => rfl))⟩) (by exact ⟨(by exact Sl.of_own S.wd (k := 13) rfl (fun _ => rfl)), (by exact Sl.of_own S.wd (k := 14) rfl (fun _ => rfl))⟩)) rfl ?_); clear S a w; rintro _ _ ⟨A16, c17, A26, c214, rfl, rfl⟩ a w S)
          rw [rw_xx] at S
          (refine st_y S (Yr.ys (ys_move (Ev.t rfl))) rfl ?_; clear S a w; intro a w S)
          (refine st_y S (Yr.ys (ys_ext (Ev.t rfl) rfl)) rfl ?_; clear S a w; intro a w S)
          (refine st_y S (Yr.ys (ys_ext (Ev.t rfl) rfl)) rfl ?_; clear S a w; intro a w S)
          (refine st_m (op_alloc S Try.zeroValue36 (cs := _) rfl rfl ?_); clear S a w; intro g6 a w S)
          (refine st_m (op_stW S Try.sizeOf36 (Ev.t rfl) (Ev.t rfl) (k := 0) rfl rfl rfl (by simp [Value.oneCell']) ?_); clear S a w; intro a w S)
          (refine st_y S (Yr.ys (ys_assign (Ev.t rfl))) rfl ?_; clear S a w; intro a w S)
          refine st_nil ?_
          (refine (then_normal (hK1 _ _ ?_)); clear hK1)
          refine wp_seq_k fun _ hK1 => ?_
          refine wp_seq_k fun _ hK2 => ?_
          refine wp_region_lit ?_
          (refine st_y S (Yr.ys (ys_move (Ev.t rfl))) rfl ?_; clear S a w; intro a w S)
          (refine st_y S (Yr.ys (ys_move (Ev.t rfl))) rfl ?_; clear S a w; intro a w S)
          (refine st_y S (Yr.ys (ys_F (by omega) (ys_neq (Ev.t rfl) (Ev.t rfl)))) rfl ?_; clear S a w; intro a w S)
          (refine st_y S (Yr.ys (ys_move (Ev.t rfl))) rfl ?_; clear S a w; intro a w S)
          (refine st_yt S rfl rfl (Yr.ys (ys_ldA ⟨Try.isAgg36, Try.sizeOf36⟩ (Ev.t rfl) (k := 6) rfl rfl)) rfl ?_; clear S a w; intro a w S)
          (refine st_yt S rfl rfl (Yr.ys (ys_ldA ⟨Try.isAgg36, Try.sizeOf36⟩ (Ev.t rfl) (k := 3) rfl rfl)) rfl ?_; clear S a w; intro a w S)
          (refine st_yt S rfl rfl (ys_call Try.call26 (EvL.cons (Ev.t rfl) (EvL.cons (Ev.t rfl) EvL.nil)) (fun hp w W => c26 _ _ _ _ _ _ _ (by exact ⟨(by exact Sl.of_own W (k := 7) rfl (fun _ => rfl)), (by exact Sl.of_own W (k := 8) rfl (fun _ => rfl))⟩) (by exact ⟨(by exact Sl.of_own W (k := 4) rfl (fun _ => rfl)), (by exact Sl.of_own W (k := 5) rfl (fun _ => rfl))⟩))) rfl ?_; clear S a w; intro a w S)
          rw [rw_s] at S
          (refine st_yt S rfl rfl (Yr.ys (ys_not (Ev.t rfl))) rfl ?_; clear S a w; intro a w S)
          (refine st_y S (Yr.ys (ys_pickF (Ev.t rfl) (Ev.t rfl))) rfl ?_; clear S a w; intro a w S)
          (refine st_y S (Yr.ys (ys_move (Ev.t rfl))) rfl ?_; clear S a w; intro a w S)
          (refine st_yt S rfl rfl (Yr.ys (ys_move (Ev.t rfl))) rfl ?_; clear S a w; intro a w S)
          (refine st_yt S rfl rfl (Yr.ys (ys_F (by omega) (ys_neq (Ev.t rfl) Ev.c))) rfl ?_; clear S a w; intro a w S)
          (refine st_y S (Yr.ys (ys_pickF (Ev.t rfl) (Ev.t rfl))) rfl ?_; clear S a w; intro a w S)
          (refine st_y S (Yr.ys (ys_move (Ev.t rfl))) rfl ?_; clear S a w; intro a w S)
          (refine st_yt S rfl rfl (Yr.ys (ys_ldA ⟨Try.isAgg36, Try.sizeOf36⟩ (Ev.t rfl) (k := 0) rfl rfl)) rfl ?_; clear S a w; intro a w S)
          (refine st_yt S rfl rfl (Yr.ys (ys_ldA ⟨Try.isAgg36, Try.sizeOf36⟩ (Ev.t rfl) (k := 11) rfl rfl)) rfl ?_; clear S a w; intro a w S)
          (refine st_yt S rfl rfl (ys_call Try.call26 (EvL.cons (Ev.t rfl) (EvL.cons (Ev.t rfl) EvL.nil)) (fun hp w W => c26 _ _ _ _ _ _ _ (by exact ⟨(by exact Sl.of_own W (k := 1) rfl (fun _ => rfl)), (by exact Sl.of_own W (k := 2) rfl (fun _ => rfl))⟩) (by exact ⟨(by exact Sl.of_own W (k := 16) rfl (fun _ => rfl)), (by exact Sl.of_own W (k := 17) rfl (fun _ => rfl))⟩))) rfl ?_; clear S a w; intro a w S)
          rw [rw_s] at S
          (refine st_yt S rfl rfl (Yr.ys (ys_not (Ev.t rfl))) rfl ?_; clear S a w; intro a w S)
          (refine st_y S (Yr.ys (ys_pickF (Ev.t rfl) (Ev.t rfl))) rfl ?_; clear S a w; intro a w S)
          refine st_nil ?_
          (refine (then_normal (hK2 _ _ ?_)); clear hK2)
          refine st_else S (Ev.t rfl) ?_
          refine wp_skip ?_
          (refine (then_normal (hK1 _ _ ?_)); clear hK1)
          refine wp_seq_k fun _ hK1 => ?_
          refine wp_seq_k fun _ hK2 => ?_
          refine wp_region_lit ?_
          (refine st_y S (Yr.ys (ys_move (Ev.t rfl))) rfl ?_; clear S a w; intro a w S)
          (refine st_y S (Yr.ys (ys_F (by omega) (ys_neq (Ev.t rfl) Ev.c))) rfl ?_; clear S a w; intro a w S)
          refine st_nil ?_
          (refine (then_normal (hK2 _ _ ?_)); clear hK2)
          refine st_else S (Ev.t rfl) ?_
          refine wp_skip ?_
          (refine (then_normal (hK1 _ _ ?_)); clear hK1)
          refine wp_seq_k fun _ hK1 => ?_
          refine wp_seq_k fun _ hK2 => ?_
          (refine st_quiet S (by kernel_rfl) (by kernel_rfl) ?_; clear S w; intro a S)
          (refine q_y S (Yr.ys (ys_ldA ⟨Try.isAgg36, Try.sizeOf36⟩ (Ev.t rfl) (k := 11) rfl rfl)) rfl ?_; clear S a; intro a S)
          (refine q_y S (Yr.ys (ys_ldA ⟨Try.isAgg36, Try.sizeOf36⟩ (Ev.t rfl) (k := 6) rfl rfl)) rfl ?_; clear S a; intro a S)
          (refine q_y S (ys_call Try.call33 (EvL.cons (Ev.t rfl) (EvL.cons (Ev.t rfl) EvL.nil)) (fun hp w W => c33 _ _ _ _ _ _ _ (by exact ⟨(by exact Sl.of_own W (k := 16) rfl (fun _ => rfl)), (by exact Sl.of_own W (k := 17) rfl (fun _ => rfl))⟩) (by exact ⟨(by exact Sl.of_own W (k := 7) rfl (fun _ => rfl)), (by exact Sl.of_own W (k := 8) rfl (fun _ => rfl))⟩) (by assumption) (by assumption))) rfl ?_; clear S a; intro a S)
          rw [rw_lx] at S
          (refine q_y S (Yr.ys (ys_not (Ev.t rfl))) rfl ?_; clear S a; intro a S)
          (refine q_y S (Yr.ys (ys_move (Ev.t rfl))) rfl ?_; clear S a; intro a S)
          (refine q_yt S rfl rfl (Yr.ys (ys_ldA ⟨Try.isAgg36, Try.sizeOf36⟩ (Ev.t rfl) (k := 10) rfl rfl)) rfl ?_; clear S a; intro a S)
          (refine q_yt S rfl rfl (Yr.ys (ys_ldA ⟨Try.isAgg36, Try.sizeOf36⟩ (Ev.t rfl) (k := 6) rfl rfl)) rfl ?_; clear S a; intro a S)
          (refine q_yt S rfl rfl (ys_call Try.call33 (EvL.cons (Ev.t rfl) (EvL.cons (Ev.t rfl) EvL.nil)) (fun hp w W => c33 _ _ _ _ _ _ _ (by exact ⟨(by exact Sl.of_own W (k := 14) rfl (fun _ => rfl)), (by exact Sl.of_own W (k := 15) rfl (fun _ => rfl))⟩) (by exact ⟨(by exact Sl.of_own W (k := 7) rfl (fun _ => rfl)), (by exact Sl.of_own W (k := 8) rfl (fun _ => rfl))⟩) (by assumption) (by assumption))) rfl ?_; clear S a; intro a S)
          rw [rw_ly] at S
          (refine q_yt S rfl rfl (Yr.ys (ys_not (Ev.t rfl))) rfl ?_; clear S a; intro a S)
          (refine q_y S (Yr.ys (ys_pickF (Ev.t rfl) (Ev.t rfl))) rfl ?_; clear S a; intro a S)
          (refine q_y S (Yr.ys (ys_move (Ev.t rfl))) rfl ?_; clear S a; intro a S)
          (refine q_yt S rfl rfl (Yr.ys (ys_ldA ⟨Try.isAgg36, Try.sizeOf36⟩ (Ev.t rfl) (k := 11) rfl rfl)) rfl ?_; clear S a; intro a S)
          (refine q_yt S rfl rfl (Yr.ys (ys_ldA ⟨Try.isAgg36, Try.sizeOf36⟩ (Ev.t rfl) (k := 10) rfl rfl)) rfl ?_; clear S a; intro a S)
          (refine q_yt S rfl rfl (ys_call Try.call33 (EvL.cons (Ev.t rfl) (EvL.cons (Ev.t rfl) EvL.nil)) (fun hp w W => c33 _ _ _ _ _ _ _ (by exact ⟨(by exact Sl.of_own W (k := 16) rfl (fun _ => rfl)), (by exact Sl.of_own W (k := 17) rfl (fun _ => rfl))⟩) (by exact ⟨(by exact Sl.of_own W (k := 14) rfl (fun _ => rfl)), (by exact Sl.of_own W (k := 15) rfl (fun _ => rfl))⟩) (by assumption) (by assumption))) rfl ?_; clear S a; intro a S)
          rw [rw_lxy] at S
          rw [rw_d] at S
          (refine q_yt S rfl rfl (Yr.ys (ys_ldA ⟨Try.isAgg36, Try.sizeOf36⟩ (Ev.t rfl) (k := 6) rfl rfl)) rfl ?_; clear S a; intro a S)
          (refine q_yt S rfl rfl (Yr.ys (ys_ldA ⟨Try.isAgg36, Try.sizeOf36⟩ (Ev.t rfl) (k := 10) rfl rfl)) rfl ?_; clear S a; intro a S)
          (refine q_yt S rfl rfl (ys_call Try.call26 (EvL.cons (Ev.t rfl) (EvL.cons (Ev.t rfl) EvL.nil)) (fun hp w W => c26 _ _ _ _ _ _ _ (by exact ⟨(by exact Sl.of_own W (k := 7) rfl (fun _ => rfl)), (by exact Sl.of_own W (k := 8) rfl (fun _ => rfl))⟩) (by exact ⟨(by exact Sl.of_own W (k := 14) rfl (fun _ => rfl)), (by exact Sl.of_own W (k := 15) rfl (fun _ => rfl))⟩))) rfl ?_; clear S a; intro a S)
          rw [rw_d] at S
          (refine q_yt S rfl rfl (Yr.ys (ys_neqB Try.underlying4 (Ev.t rfl) (Ev.t rfl))) rfl ?_; clear S a; intro a S)
          (refine q_y S (Yr.ys (ys_pickF (Ev.t rfl) (Ev.t rfl))) rfl ?_; clear S a; intro a S)
          (refine q_nil ?_; intro w W; replace S := St.mk S W; clear W)
          (refine (then_normal (hK2 _ _ ?_)); clear hK2)
          refine st_else S (Ev.t rfl) ?_
          refine wp_skip ?_
          (refine (then_normal (hK1 _ _ ?_)); clear hK1)
          refine wp_seq_k fun _ hK1 => ?_
          refine wp_region_lit ?_
          (refine st_y S (Yr.ys (ys_ldA ⟨Try.isAgg36, Try.sizeOf36⟩ (Ev.t rfl) (k := 6) rfl rfl)) rfl ?_; clear S a w; intro a w S)
          (refine st_y S (Yr.ys (ys_ldA ⟨Try.isAgg36, Try.sizeOf36⟩ (Ev.t rfl) (k := 9) rfl rfl)) rfl ?_; clear S a w; intro a w S)
          (refine st_m (op_calls S Try.call51 (EvL.cons (Ev.t rfl) (EvL.cons (Ev.t rfl) EvL.nil)) (c51 _ _ _ _ _ _ _ (by exact ⟨(by exact Sl.of_own S.wd (k := 7) rfl (fun _ => rfl)), (by exact Sl.of_own S.wd (k := 8) rfl (fun _ => rfl))⟩) (by exact ⟨(by exact Sl.of_own S.wd (k := 12) rfl (fun _ => rfl)), (by exact Sl.of_own S.wd (k := 13) rfl (fun _ => rfl))⟩)) rfl ?_); clear S a w; rintro _ _ ⟨A17, c18, A27, c215, rfl, rfl⟩ a w S)
          rw [rw_pz] at S
          (refine st_y S (Yr.ys (ys_move (Ev.t rfl))) rfl ?_; clear S a w; intro a w S)
          (refine st_y S (Yr.ys (ys_ext (Ev.t rfl) rfl)) rfl ?_; clear S a w; intro a w S)
          (refine st_y S (Yr.ys (ys_ext (Ev.t rfl) rfl)) rfl ?_; clear S a w; intro a w S)
          (refine st_m (op_alloc S Try.zeroValue36 (cs := _) rfl rfl ?_); clear S a w; intro g7 a w S)
          (refine st_m (op_stW S Try.sizeOf36 (Ev.t rfl) (Ev.t rfl) (k := 0) rfl rfl rfl (by simp [Value.oneCell']) ?_); clear S a w; intro a w S)
          (refine st_y S (Yr.ys (ys_assign (Ev.t rfl))) rfl ?_; clear S a w; intro a w S)
          refine st_nil ?_
          (refine (then_normal (hK1 _ _ ?_)); clear hK1)
          refine wp_seq_k fun _ hK1 => ?_
          refine wp_region_lit ?_
          (refine st_y S (Yr.ys (ys_ldA ⟨Try.isAgg36, Try.sizeOf36⟩ (Ev.t rfl) (k := 13) rfl rfl)) rfl ?_; clear S a w; intro a w S)
          (refine st_y S (Yr.ys (ys_ldA ⟨Try.isAgg36, Try.sizeOf36⟩ (Ev.t rfl) (k := 12) rfl rfl)) rfl ?_; clear S a w; intro a w S)
          (refine st_m (op_calls S Try.call51 (EvL.cons (Ev.t rfl) (EvL.cons (Ev.t rfl) EvL.nil)) (c51 _ _ _ _ _ _ _ (by exact ⟨(by exact Sl.of_own S.wd (k := 17) rfl (fun _ => rfl)), (by exact Sl.of_own S.wd (k := 18) rfl (fun _ => rfl))⟩) (by exact ⟨(by exact Sl.of_own S.wd (k := 15) rfl (fun _ => rfl)), (by exact Sl.of_own S.wd (k := 16) rfl (fun _ => rfl))⟩)) rfl ?_); clear S a w; rintro _ _ ⟨A18, c110, A28, c216, rfl, rfl⟩ a w S)
          rw [rw_yz] at S
          (refine st_y S (Yr.ys (ys_move (Ev.t rfl))) rfl ?_; clear S a w; intro a w S)
          (refine st_y S (Yr.ys (ys_ext (Ev.t rfl) rfl)) rfl ?_; clear S a w; intro a w S)
          (refine st_y S (Yr.ys (ys_ext (Ev.t rfl) rfl)) rfl ?_; clear S a w; intro a w S)
          (refine st_m (op_alloc S Try.zeroValue36 (cs := _) rfl rfl ?_); clear S a w; intro g8 a w S)
          (refine st_m (op_stW S Try.sizeOf36 (Ev.t rfl) (Ev.t rfl) (k := 0) rfl rfl rfl (by simp [Value.oneCell']) ?_); clear S a w; intro a w S)
          (refine st_y S (Yr.ys (ys_assign (Ev.t rfl))) rfl ?_; clear S a w; intro a w S)
          refine st_nil ?_
          (refine (then_normal (hK1 _ _ ?_)); clear hK1)
          refine wp_seq_k fun _ hK1 => ?_
          refine wp_seq_k fun _ hK2 => ?_
          refine wp_region_lit ?_
          (refine st_y S (Yr.ys (ys_move (Ev.t rfl))) rfl ?_; clear S a w; intro a w S)
          (refine st_y S (Yr.ys (ys_F (by omega) (ys_neq (Ev.t rfl) Ev.c))) rfl ?_; clear S a w; intro a w S)
          (refine st_y S (Yr.ys (ys_move (Ev.t rfl))) rfl ?_; clear S a w; intro a w S)
          (refine st_yt S rfl rfl (Yr.ys (ys_move (Ev.t rfl))) rfl ?_; clear S a w; intro a w S)
          (refine st_yt S rfl rfl (Yr.ys (ys_F (by omega) (ys_neq (Ev.t rfl) Ev.c))) rfl ?_; clear S a w; intro a w S)
          (refine st_y S (Yr.ys (ys_pickF (Ev.t rfl) (Ev.t rfl))) rfl ?_; clear S a w; intro a w S)
          refine st_nil ?_
          (refine (then_normal (hK2 _ _ ?_)); clear hK2)
          refine st_else S (Ev.t rfl) ?_
          refine wp_skip ?_
          (refine (then_normal (hK1 _ _ ?_)); clear hK1)
          refine wp_seq_k fun _ hK1 => ?_
          refine wp_region_lit ?_
          (refine st_y S (Yr.ys (ys_ldA ⟨Try.isAgg36, Try.sizeOf36⟩ (Ev.t rfl) (k := 17) rfl rfl)) rfl ?_; clear S a w; intro a w S)
          (refine st_y S (Yr.ys (ys_ldA ⟨Try.isAgg36, Try.sizeOf36⟩ (Ev.t rfl) (k := 0) rfl rfl)) rfl ?_; clear S a w; intro a w S)
          (refine st_m (op_calls S Try.call51 (EvL.cons (Ev.t rfl) (EvL.cons (Ev.t rfl) EvL.nil)) (c51 _ _ _ _ _ _ _ (by exact ⟨(by exact Sl.of_own S.wd (k := 22) rfl (fun _ => rfl)), (by exact Sl.of_own S.wd (k := 23) rfl (fun _ => rfl))⟩) (by exact ⟨(by exact Sl.of_own S.wd (k := 1) rfl (fun _ => rfl)), (by exact Sl.of_own S.wd (k := 2) rfl (fun _ => rfl))⟩)) rfl ?_); clear S a w; rintro _ _ ⟨A19, c115, A29, c217, rfl, rfl⟩ a w S)
          rw [rw_xt] at S
          (refine st_y S (Yr.ys (ys_move (Ev.t rfl))) rfl ?_; clear S a w; intro a w S)
          (refine st_y S (Yr.ys (ys_ext (Ev.t rfl) rfl)) rfl ?_; clear S a w; intro a w S)
          (refine st_y S (Yr.ys (ys_ext (Ev.t rfl) rfl)) rfl ?_; clear S a w; intro a w S)
          (refine st_m (op_alloc S Try.zeroValue36 (cs := _) rfl rfl ?_); clear S a w; intro g9 a w S)
          (refine st_m (op_stW S Try.sizeOf36 (Ev.t rfl) (Ev.t rfl) (k := 0) rfl rfl rfl (by simp [Value.oneCell']) ?_); clear S a w; intro a w S)
          (refine st_y S (Yr.ys (ys_assign (Ev.t rfl))) rfl ?_; clear S a w; intro a w S)
          refine st_nil ?_
          (refine (then_normal (hK1 _ _ ?_)); clear hK1)
          refine wp_seq_k fun _ hK1 => ?_
          refine wp_region_lit ?_
          (refine st_y S (Yr.ys (ys_move (Ev.t rfl))) rfl ?_; clear S a w; intro a w S)
          (refine st_y S (Yr.ys (ys_T (by omega) (ys_eql (Ev.t rfl) Ev.c))) rfl ?_; clear S a w; intro a w S)
          (refine st_y S (Yr.ys (ys_move (Ev.t rfl))) rfl ?_; clear S a w; intro a w S)
          (refine st_yt S rfl rfl (Yr.ys (ys_ldA ⟨Try.isAgg36, Try.sizeOf36⟩ (Ev.t rfl) (k := 6) rfl rfl)) rfl ?_; clear S a w; intro a w S)
          (refine st_yt S rfl rfl (Yr.ys (ys_ldA ⟨Try.isAgg36, Try.sizeOf36⟩ (Ev.t rfl) (k := 0) rfl rfl)) rfl ?_; clear S a w; intro a w S)
          (refine st_yt S rfl rfl (ys_call Try.call26 (EvL.cons (Ev.t rfl) (EvL.cons (Ev.t rfl) EvL.nil)) (fun hp w W => c26 _ _ _ _ _ _ _ (by exact ⟨(by exact Sl.of_own W (k := 7) rfl (fun _ => rfl)), (by exact Sl.of_own W (k := 8) rfl (fun _ => rfl))⟩) (by exact ⟨(by exact Sl.of_own W (k := 1) rfl (fun _ => rfl)), (by exact Sl.of_own W (k := 2) rfl (fun _ => rfl))⟩))) rfl ?_; clear S a w; intro a w S)
          rw [rw_s] at S
          (refine st_y S (Yr.ys (ys_pickT (Ev.t rfl) (Ev.t rfl))) rfl ?_; clear S a w; intro a w S)
          (refine st_y S (Yr.ys (ys_assign (Ev.t rfl))) rfl ?_; clear S a w; intro a w S)
          refine st_nil ?_
          (refine (then_normal (hK1 _ _ ?_)); clear hK1)
          refine wp_ret ?_
          refine st_ret S (results1 S Try.results11 (Rv.tmp rfl)) ?_
          exact ⟨rfl, S.wd.below⟩
    | false =>
      cases hb1 : bigC (uniC P Z) with
      | true =>
        have rw_pz : joinL P Z = (⟨[], []⟩, 4) := by rw [join_uni hP hZ, hb1]; rfl
        refine enter6 Try.func11 rfl Try.ntmps11 rfl fun a S => ?_
        refine wp_seq_k fun _ hK1 => ?_
        refine wp_region_lit ?_
        (refine st_y S (Yr.ys (ys_assign Ev.c)) rfl ?_; clear S a; intro a w S)
        refine st_nil ?_
        (refine (then_normal (hK1 _ _ ?_)); clear hK1)
        refine wp_seq_k fun _ hK1 => ?_
        refine wp_region_lit ?_
        (refine st_y S (Yr.ys (ys_move (Ev.t rfl))) rfl ?_; clear S a w; intro a w S)
        (refine st_y S (Yr.ys (ys_move (Ev.t rfl))) rfl ?_; clear S a w; intro a w S)
        (refine st_m (op_calls S Try.call19 (EvL.cons (Ev.t rfl) (EvL.cons (Ev.t rfl) EvL.nil)) (c19 _ _ _ _ _ (by exact .old S.wd (by assumption)) (by exact .old S.wd (by assumption)) (by assumption) (by assumption)) rfl ?_); clear S a w; rintro _ _ ⟨A11, c12, A21, c29, rfl, rfl⟩ a w S)
        rw [rw_x] at S
        (refine st_y S (Yr.ys (ys_move (Ev.t rfl))) rfl ?_; clear S a w; intro a w S)
        (refine st_y S (Yr.ys (ys_move (Ev.t rfl))) rfl ?_; clear S a w; intro a w S)
        (refine st_m (op_calls S Try.call19 (EvL.cons (Ev.t rfl) (EvL.cons (Ev.t rfl) EvL.nil)) (c19 _ _ _ _ _ (by exact .old S.wd (by assumption)) (by exact .old S.wd (by assumption)) (by assumption) (by assumption)) rfl ?_); clear S a w; rintro _ _ ⟨A12, c13, A22, c210, rfl, rfl⟩ a w S)
        rw [rw_y] at S
        (refine st_y S (Yr.ys (ys_move (Ev.t rfl))) rfl ?_; clear S a w; intro a w S)
        (refine st_y S (Yr.ys (ys_move (Ev.t rfl))) rfl ?_; clear S a w; intro a w S)
        (refine st_m (op_calls S Try.call19 (EvL.cons (Ev.t rfl) (EvL.cons (Ev.t rfl) EvL.nil)) (c19 _ _ _ _ _ (by exact .old S.wd (by assumption)) (by exact .old S.wd (by assumption)) (by assumption) (by assumption)) rfl ?_); clear S a w; rintro _ _ ⟨A13, c14, A23, c211, rfl, rfl⟩ a w S)
        rw [rw_z] at S
        (refine st_m (op_alloc S Try.zeroValue36 (cs := _) rfl rfl ?_); clear S a w; intro g1 a w S)
        (refine st_m (op_alloc S Try.zeroValue36 (cs := _) rfl rfl ?_); clear S a w; intro g2 a w S)
        (refine st_m (op_alloc S Try.zeroValue36 (cs := _) rfl rfl ?_); clear S a w; intro g3 a w S)
        (refine st_m (op_stW S Try.sizeOf36 (Ev.t rfl) (Ev.t rfl) (k := 2) rfl rfl rfl (by simp [Value.oneCell']) ?_); clear S a w; intro a w S)
        (refine st_m (op_stW S Try.sizeOf36 (Ev.t rfl) (Ev.t rfl) (k := 1) rfl rfl rfl (by simp [Value.oneCell']) ?_); clear S a w; intro a w S)
        (refine st_m (op_stW S Try.sizeOf36 (Ev.t rfl) (Ev.t rfl) (k := 0) rfl rfl rfl (by simp [Value.oneCell']) ?_); clear S a w; intro a w S)
        refine st_nil ?_
        (refine (then_normal (hK1 _ _ ?_)); clear hK1)
        refine wp_seq_k fun _ hK1 => ?_
        refine wp_region_lit ?_
        (refine st_y S (Yr.ys (ys_ldA ⟨Try.isAgg36, Try.sizeOf36⟩ (Ev.t rfl) (k := 2) rfl rfl)) rfl ?_; clear S a w; intro a w S)
        (refine st_y S (Yr.ys (ys_ldA ⟨Try.isAgg36, Try.sizeOf36⟩ (Ev.t rfl) (k := 1) rfl rfl)) rfl ?_; clear S a w; intro a w S)
        (refine st_m (op_calls S Try.call51 (EvL.cons (Ev.t rfl) (EvL.cons (Ev.t rfl) EvL.nil)) (c51 _ _ _ _ _ _ _ (by exact ⟨(by exact Sl.of_own S.wd (k := 7) rfl (fun _ => rfl)), (by exact Sl.of_own S.wd (k := 8) rfl (fun _ => rfl))⟩) (by exact ⟨(by exact Sl.of_own S.wd (k := 5) rfl (fun _ => rfl)), (by exact Sl.of_own S.wd (k := 6) rfl (fun _ => rfl))⟩)) rfl ?_); clear S a w; rintro _ _ ⟨A14, c15, A24, c212, rfl, rfl⟩ a w S)
        rw [rw_xy] at S
        (refine st_y S (Yr.ys (ys_move (Ev.t rfl))) rfl ?_; clear S a w; intro a w S)
        (refine st_y S (Yr.ys (ys_ext (Ev.t rfl) rfl)) rfl ?_; clear S a w; intro a w S)
        (refine st_y S (Yr.ys (ys_ext (Ev.t rfl) rfl)) rfl ?_; clear S a w; intro a w S)
        (refine st_m (op_alloc S Try.zeroValue36 (cs := _) rfl rfl ?_); clear S a w; intro g4 a w S)
        (refine st_m (op_stW S Try.sizeOf36 (Ev.t rfl) (Ev.t rfl) (k := 0) rfl rfl rfl (by simp [Value.oneCell']) ?_); clear S a w; intro a w S)
        (refine st_y S (Yr.ys (ys_assign (Ev.t rfl))) rfl ?_; clear S a w; intro a w S)
        refine st_nil ?_
        (refine (then_normal (hK1 _ _ ?_)); clear hK1)
        refine wp_seq_k fun _ hK1 => ?_
        refine wp_region_lit ?_
        (refine st_y S (Yr.ys (ys_ldA ⟨Try.isAgg36, Try.sizeOf36⟩ (Ev.t rfl) (k := 4) rfl rfl)) rfl ?_; clear S a w; intro a w S)
        (refine st_y S (Yr.ys (ys_ldA ⟨Try.isAgg36, Try.sizeOf36⟩ (Ev.t rfl) (k := 5) rfl rfl)) rfl ?_; clear S a w; intro a w S)
        (refine st_m (op_calls S Try.call51 (EvL.cons (Ev.t rfl) (EvL.cons (Ev.t rfl) EvL.nil)) (c51 _ _ _ _ _ _ _ (by exact ⟨(by exact Sl.of_own S.wd (k := 8) rfl (fun _ => rfl)), (by exact Sl.of_own S.wd (k := 9) rfl (fun _ => rfl))⟩) (by exact ⟨(by exact Sl.of_own S.wd (k := 10) rfl (fun _ => rfl)), (by exact Sl.of_own S.wd (k := 11) rfl (fun _ => rfl))⟩)) rfl ?_); clear S a w; rintro _ _ ⟨A15, c16, A25, c213, rfl, rfl⟩ a w S)
        rw [rw_yx] at S
        (refine st_y S (Yr.ys (ys_move (Ev.t rfl))) rfl ?_; clear S a w; intro a w S)
        (refine st_y S (Yr.ys (ys_ext (Ev.t rfl) rfl)) rfl ?_; clear S a w; intro a w S)
        (refine st_y S (Yr.ys (ys_ext (Ev.t rfl) rfl)) rfl ?_; clear S a w; intro a w S)
        (refine st_m (op_alloc S Try.zeroValue36 (cs := _) rfl rfl ?_); clear S a w; intro g5 a w S)
        (refine st_m (op_stW S Try.sizeOf36 (Ev.t rfl) (Ev.t rfl) (k := 0) rfl rfl rfl (by simp [Value.oneCell']) ?_); clear S a w; intro a w S)
        (refine st_y S (Yr.ys (ys_assign (Ev.t rfl))) rfl ?_; clear S a w; intro a w S)
        refine st_nil ?_
        (refine (then_normal (hK1 _ _ ?_)); clear hK1)
        refine wp_seq_k fun _ hK1 => ?_
        refine wp_region_lit ?_
        (refine st_y S (Yr.ys (ys_ldA ⟨Try.isAgg36, Try.sizeOf36⟩ (Ev.t rfl) (k := 8) rfl rfl)) rfl ?_; clear S a w; intro a w S)
        (refine st_y S (Yr.ys (ys_ldA ⟨Try.isAgg36, Try.sizeOf36⟩ (Ev.t rfl) (k := 8) rfl rfl)) rfl ?_; clear S a w; intro a w S)
        (refine st_m (op_calls S Try.call51 (EvL.cons (Ev.t rfl) (EvL.cons (Ev.t rfl) EvL.nil)) (c51 _ _ _ _ _ _ _ (by exact ⟨(by exact Sl.of_own S.wd (k := 13) rfl (fun _ => rfl)), (by exact Sl.of_own S.wd (k := 14) rfl (fun _ => rfl))⟩) (by exact ⟨(by exact Sl.of_own S.wd (k := 13) rfl (fun _ => rfl)), (by exact Sl.of_own S.wd (k := 14) rfl (fun _ => rfl))⟩)) rfl ?_); clear S a w; rintro _ _ ⟨A16, c17, A26, c214, rfl, rfl⟩ a w S)
        rw [rw_xx] at S
        (refine st_y S (Yr.ys (ys_move (Ev.t rfl))) rfl ?_; clear S a w; intro a w S)
        (refine st_y S (Yr.ys (ys_ext (Ev.t rfl) rfl)) rfl ?_; clear S a w; intro a w S)
        (refine st_y S (Yr.ys (ys_ext (Ev.t rfl) rfl)) rfl ?_; clear S a w; intro a w S)
        (refine st_m (op_alloc S Try.zeroValue36 (cs := _) rfl rfl ?_); clear S a w; intro g6 a w S)
        (refine st_m (op_stW S Try.sizeOf36 (Ev.t rfl) (Ev.t rfl) (k := 0) rfl rfl rfl (by simp [Value.oneCell']) ?_); clear S a w; intro a w S)
        (refine st_y S (Yr.ys (ys_assign (Ev.t rfl))) rfl ?_; clear S a w; intro a w S)
        refine st_nil ?_
        (refine (then_normal (hK1 _ _ ?_)); clear hK1)
        refine wp_seq_k fun _ hK1 => ?_
        refine wp_seq_k fun _ hK2 => ?_
        refine wp_region_lit ?_
        (refine st_y S (Yr.ys (ys_move (Ev.t rfl))) rfl ?_; clear S a w; intro a w S)
        (refine st_y S (Yr.ys (ys_move (Ev.t rfl))) rfl ?_; clear S a w; intro a w S)
        (refine st_y S (Yr.ys (ys_F (by omega) (ys_neq (Ev.t rfl) (Ev.t rfl)))) rfl ?_; clear S a w; intro a w S)
        (refine st_y S (Yr.ys (ys_move (Ev.t rfl))) rfl ?_; clear S a w; intro a w S)
        (refine st_yt S rfl rfl (Yr.ys (ys_ldA ⟨Try.isAgg36, Try.sizeOf36⟩ (Ev.t rfl) (k := 6) rfl rfl)) rfl ?_; clear S a w; intro a w S)
        (refine st_yt S rfl rfl (Yr.ys (ys_ldA ⟨Try.isAgg36, Try.sizeOf36⟩ (Ev.t rfl) (k := 3) rfl rfl)) rfl ?_; clear S a w; intro a w S)
        (refine st_yt S rfl rfl (ys_call Try.call26 (EvL.cons (Ev.t rfl) (EvL.cons (Ev.t rfl) EvL.nil)) (fun hp w W => c26 _ _ _ _ _ _ _ (by exact ⟨(by exact Sl.of_own W (k := 7) rfl (fun _ => rfl)), (by exact Sl.of_own W (k := 8) rfl (fun _ => rfl))⟩) (by exact ⟨(by exact Sl.of_own W (k := 4) rfl (fun _ => rfl)), (by exact Sl.of_own W (k := 5) rfl (fun _ => rfl))⟩))) rfl ?_; clear S a w; intro a w S)
        rw [rw_s] at S
        (refine st_yt S rfl rfl (Yr.ys (ys_not (Ev.t rfl))) rfl ?_; clear S a w; intro a w S)
        (refine st_y S (Yr.ys (ys_pickF (Ev.t rfl) (Ev.t rfl))) rfl ?_; clear S a w; intro a w S)
        (refine st_y S (Yr.ys (ys_move (Ev.t rfl))) rfl ?_; clear S a w; intro a w S)
        (refine st_yt S rfl rfl (Yr.ys (ys_move (Ev.t rfl))) rfl ?_; clear S a w; intro a w S)
        (refine st_yt S rfl rfl (Yr.ys (ys_F (by omega) (ys_neq (Ev.t rfl) Ev.c))) rfl ?_; clear S a w; intro a w S)
        (refine st_y S (Yr.ys (ys_pickF (Ev.t rfl) (Ev.t rfl))) rfl ?_; clear S a w; intro a w S)
        (refine st_y S (Yr.ys (ys_move (Ev.t rfl))) rfl ?_; clear S a w; intro a w S)
        (refine st_yt S rfl rfl (Yr.ys (ys_ldA ⟨Try.isAgg36, Try.sizeOf36⟩ (Ev.t rfl) (k := 0) rfl rfl)) rfl ?_; clear S a w; intro a w S)
        (refine st_yt S rfl rfl (Yr.ys (ys_ldA ⟨Try.isAgg36, Try.sizeOf36⟩ (Ev.t rfl) (k := 11) rfl rfl)) rfl ?_; clear S a w; intro a w S)
        (refine st_yt S rfl rfl (ys_call Try.call26 (EvL.cons (Ev.t rfl) (EvL.cons (Ev.t rfl) EvL.nil)) (fun hp w W => c26 _ _ _ _ _ _ _ (by exact ⟨(by exact Sl.of_own W (k := 1) rfl (fun _ => rfl)), (by exact Sl.of_own W (k := 2) rfl (fun _ => rfl))⟩) (by exact ⟨(by exact Sl.of_own W (k := 16) rfl (fun _ => rfl)), (by exact Sl.of_own W (k := 17) rfl (fun _ => rfl))⟩))) rfl ?_; clear S a w; intro a w S)
        rw [rw_s] at S
        (refine st_yt S rfl rfl (Yr.ys (ys_not (Ev.t rfl))) rfl ?_; clear S a w; intro a w S)
        (refine st_y S (Yr.ys (ys_pickF (Ev.t rfl) (Ev.t rfl))) rfl ?_; clear S a w; intro a w S)
        refine st_nil ?_
        (refine (then_normal (hK2 _ _ ?_)); clear hK2)
        refine st_else S (Ev.t rfl) ?_
        refine wp_skip ?_
        (refine (then_normal (hK1 _ _ ?_)); clear hK1)
        refine wp_seq_k fun _ hK1 => ?_
        refine wp_seq_k fun _ hK2 => ?_
        refine wp_region_lit ?_
        (refine st_y S (Yr.ys (ys_move (Ev.t rfl))) rfl ?_; clear S a w; intro a w S)
        (refine st_y S (Yr.ys (ys_F (by omega) (ys_neq (Ev.t rfl) Ev.c))) rfl ?_; clear S a w; intro a w S)
        refine st_nil ?_
        (refine (then_normal (hK2 _ _ ?_)); clear hK2)
        refine st_else S (Ev.t rfl) ?_
        refine wp_skip ?_
        (refine (then_normal (hK1 _ _ ?_)); clear hK1)
        refine wp_seq_k fun _ hK1 => ?_
        refine wp_seq_k fun _ hK2 => ?_
        (refine st_quiet S (by kernel_rfl) (by kernel_rfl) ?_; clear S w; intro a S)
        (refine q_y S (Yr.ys (ys_ldA ⟨Try.isAgg36, Try.sizeOf36⟩ (Ev.t rfl) (k := 11) rfl rfl)) rfl ?_; clear S a; intro a S)
        (refine q_y S (Yr.ys (ys_ldA ⟨Try.isAgg36, Try.sizeOf36⟩ (Ev.t rfl) (k := 6) rfl rfl)) rfl ?_; clear S a; intro a S)
        (refine q_y S (ys_call Try.call33 (EvL.cons (Ev.t rfl) (EvL.cons (Ev.t rfl) EvL.nil)) (fun hp w W => c33 _ _ _ _ _ _ _ (by exact ⟨(by exact Sl.of_own W (k := 16) rfl (fun _ => rfl)), (by exact Sl.of_own W (k := 17) rfl (fun _ => rfl))⟩) (by exact ⟨(by exact Sl.of_own W (k := 7) rfl (fun _ => rfl)), (by exact Sl.of_own W (k := 8) rfl (fun _ => rfl))⟩) (by assumption) (by assumption))) rfl ?_; clear S a; intro a S)
        rw [rw_lx] at S
        (refine q_y S (Yr.ys (ys_not (Ev.t rfl))) rfl ?_; clear S a; intro a S)
        (refine q_y S (Yr.ys (ys_move (Ev.t rfl))) rfl ?_; clear S a; intro a S)
        (refine q_yt S rfl rfl (Yr.ys (ys_ldA ⟨Try.isAgg36, Try.sizeOf36⟩ (Ev.t rfl) (k := 10) rfl rfl)) rfl ?_; clear S a; intro a S)
        (refine q_yt S rfl rfl (Yr.ys (ys_ldA ⟨Try.isAgg36, Try.sizeOf36⟩ (Ev.t rfl) (k := 6) rfl rfl)) rfl ?_; clear S a; intro a S)
        (refine q_yt S rfl rfl (ys_call Try.call33 (EvL.cons (Ev.t rfl) (EvL.cons (Ev.t rfl) EvL.nil)) (fun hp w W => c33 _ _ _ _ _ _ _ (by exact ⟨(by exact Sl.of_own W (k := 14) rfl (fun _ => rfl)), (by exact Sl.of_own W (k := 15) rfl (fun _ => rfl))⟩) (by exact ⟨(by exact Sl.of_own W (k := 7) rfl (fun _ => rfl)), (by exact Sl.of_own W (k := 8) rfl (fun _ => rfl))⟩) (by assumption) (by assumption))) rfl ?_; clear S a; intro a S)
        rw [rw_ly] at S
        (refine q_yt S rfl rfl (Yr.ys (ys_not (Ev.t rfl))) rfl ?_; clear S a; intro a S)
        (refine q_y S (Yr.ys (ys_pickF (Ev.t rfl) (Ev.t rfl))) rfl ?_; clear S a; intro a S)
        (refine q_y S (Yr.ys (ys_move (Ev.t rfl))) rfl ?_; clear S a; intro a S)
        (refine q_yt S rfl rfl (Yr.ys (ys_ldA ⟨Try.isAgg36, Try.sizeOf36⟩ (Ev.t rfl) (k := 11) rfl rfl)) rfl ?_; clear S a; intro a S)
        (refine q_yt S rfl rfl (Yr.ys (ys_ldA ⟨Try.isAgg36, Try.sizeOf36⟩ (Ev.t rfl) (k := 10) rfl rfl)) rfl ?_; clear S a; intro a S)
        (refine q_yt S rfl rfl (ys_call Try.call33 (EvL.cons (Ev.t rfl) (EvL.cons (Ev.t rfl) EvL.nil)) (fun hp w W => c33 _ _ _ _ _ _ _ (by exact ⟨(by exact Sl.of_own W (k := 16) rfl (fun _ => rfl)), (by exact Sl.of_own W (k := 17) rfl (fun _ => rfl))⟩) (by exact ⟨(by exact Sl.of_own W (k := 14) rfl (fun _ => rfl)), (by exact Sl.of_own W (k := 15) rfl (fun _ => rfl))⟩) (by assumption) (by assumption))) rfl ?_; clear S a; intro a S)
        rw [rw_lxy] at S
        rw [rw_d] at S
        (refine q_yt S rfl rfl (Yr.ys (ys_ldA ⟨Try.isAgg36, Try.sizeOf36⟩ (Ev.t rfl) (k := 6) rfl rfl)) rfl ?_; clear S a; intro a S)
        (refine q_yt S rfl rfl (Yr.ys (ys_ldA ⟨Try.isAgg36, Try.sizeOf36⟩ (Ev.t rfl) (k := 10) rfl rfl)) rfl ?_; clear S a; intro a S)
        (refine q_yt S rfl rfl (ys_call Try.call26 (EvL.cons (Ev.t rfl) (EvL.cons (Ev.t rfl) EvL.nil)) (fun hp w W => c26 _ _ _ _ _ _ _ (by exact ⟨(by exact Sl.of_own W (k := 7) rfl (fun _ => rfl)), (by exact Sl.of_own W (k := 8) rfl (fun _ => rfl))⟩) (by exact ⟨(by exact Sl.of_own W (k := 14) rfl (fun _ => rfl)), (by exact Sl.of_own W (k := 15) rfl (fun _ => rfl))⟩))) rfl ?_; clear S a; intro a S)
        rw [rw_d] at S
        (refine q_yt S rfl rfl (Yr.ys (ys_neqB Try.underlying4 (Ev.t rfl) (Ev.t rfl))) rfl ?_; clear S a; intro a S)
        (refine q_y S (Yr.ys (ys_pickF (Ev.t rfl) (Ev.t rfl))) rfl ?_; clear S a; intro a S)
        (refine q_nil ?_; intro w W; replace S := St.mk S W; clear W)
        (refine (then_normal (hK2 _ _ ?_)); clear hK2)
        refine st_else S (Ev.t rfl) ?_
        refine wp_skip ?_
        (refine (then_normal (hK1 _ _ ?_)); clear hK1)
        refine wp_seq_k fun _ hK1 => ?_
        refine wp_region_lit ?_
        (refine st_y S (Yr.ys (ys_ldA ⟨Try.isAgg36, Try.sizeOf36⟩ (Ev.t rfl) (k := 6) rfl rfl)) rfl ?_; clear S a w; intro a w S)
        (refine st_y S (Yr.ys (ys_ldA ⟨Try.isAgg36, Try.sizeOf36⟩ (Ev.t rfl) (k := 9) rfl rfl)) rfl ?_; clear S a w; intro a w S)
        (refine st_m (op_calls S Try.call51 (EvL.cons (Ev.t rfl) (EvL.cons (Ev.t rfl) EvL.nil)) (c51 _ _ _ _ _ _ _ (by exact ⟨(by exact Sl.of_own S.wd (k := 7) rfl (fun _ => rfl)), (by exact Sl.of_own S.wd (k := 8) rfl (fun _ => rfl))⟩) (by exact ⟨(by exact Sl.of_own S.wd (k := 12) rfl (fun _ => rfl)), (by exact Sl.of_own S.wd (k := 13) rfl (fun _ => rfl))⟩)) rfl ?_); clear S a w; rintro _ _ ⟨A17, c18, A27, c215, rfl, rfl⟩ a w S)
        rw [rw_pz] at S
        (refine st_y S (Yr.ys (ys_move (Ev.t rfl))) rfl ?_; clear S a w; intro a w S)
        (refine st_y S (Yr.ys (ys_ext (Ev.t rfl) rfl)) rfl ?_; clear S a w; intro a w S)
        (refine st_y S (Yr.ys (ys_ext (Ev.t rfl) rfl)) rfl ?_; clear S a w; intro a w S)
        (refine st_m (op_alloc S Try.zeroValue36 (cs := _) rfl rfl ?_); clear S a w; intro g7 a w S)
        (refine st_m (op_stW S Try.sizeOf36 (Ev.t rfl) (Ev.t rfl) (k := 0) rfl rfl rfl (by simp [Value.oneCell']) ?_); clear S a w; intro a w S)
        (refine st_y S (Yr.ys (ys_assign (Ev.t rfl))) rfl ?_; clear S a w; intro a w S)
        refine st_nil ?_
        (refine (then_normal (hK1 _ _ ?_)); clear hK1)
        refine wp_seq_k fun _ hK1 => ?_
        refine wp_region_lit ?_
        (refine st_y S (Yr.ys (ys_ldA ⟨Try.isAgg36, Try.sizeOf36⟩ (Ev.t rfl) (k := 13) rfl rfl)) rfl ?_; clear S a w; intro a w S)
        (refine st_y S (Yr.ys (ys_ldA ⟨Try.isAgg36, Try.sizeOf36⟩ (Ev.t rfl) (k := 12) rfl rfl)) rfl ?_; clear S a w; intro a w S)
        (refine st_m (op_calls S Try.call51 (EvL.cons (Ev.t rfl) (EvL.cons (Ev.t rfl) EvL.nil)) (c51 _ _ _ _ _ _ _ (by exact ⟨(by exact Sl.of_own S.wd (k := 17) rfl (fun _ => rfl)), (by exact Sl.of_own S.wd (k := 18) rfl (fun _ => rfl))⟩) (by exact ⟨(by exact Sl.of_own S.wd (k := 15) rfl (fun _ => rfl)), (by exact Sl.of_own S.wd (k := 16) rfl (fun _ => rfl))⟩)) rfl ?_); clear S a w; rintro _ _ ⟨A18, c110, A28, c216, rfl, rfl⟩ a w S)
        (refine st_y S (Yr.ys (ys_move (Ev.t rfl))) rfl ?_; clear S a w; intro a w S)
        (refine st_y S (Yr.ys (ys_ext (Ev.t rfl) rfl)) rfl ?_; clear S a w; intro a w S)
        (refine st_y S (Yr.ys (ys_ext (Ev.t rfl) rfl)) rfl ?_; clear S a w; intro a w S)
        (refine st_m (op_alloc S Try.zeroValue36 (cs := _) rfl rfl ?_); clear S a w; intro g8 a w S)
        (refine st_m (op_stW S Try.sizeOf36 (Ev.t rfl) (Ev.t rfl) (k := 0) rfl rfl rfl (by simp [Value.oneCell']) ?_); clear S a w; intro a w S)
        (refine st_y S (Yr.ys (ys_assign (Ev.t rfl))) rfl ?_; clear S a w; intro a w S)
        refine st_nil ?_
        (refine (then_normal (hK1 _ _ ?_)); clear hK1)
        refine wp_seq_k fun _ hK1 => ?_
        refine wp_seq_k fun _ hK2 => ?_
        refine wp_region_lit ?_
        (refine st_y S (Yr.ys (ys_move (Ev.t rfl))) rfl ?_; clear S a w; intro a w S)
        (refine st_y S (Yr.ys (ys_T (by omega) (ys_neq (Ev.t rfl) Ev.c))) rfl ?_; clear S a w; intro a w S)
        (refine st_y S (Yr.ys (ys_move (Ev.t rfl))) rfl ?_; clear S a w; intro a w S)
        (refine st_skip S rfl rfl rfl rfl ?_; clear S a w; intro a w S)
        (refine st_skip S rfl rfl rfl rfl ?_; clear S a w; intro a w S)
        (refine st_y S (Yr.ys (ys_pickT (Ev.t rfl) Ev.c)) rfl ?_; clear S a w; intro a w S)
        refine st_nil ?_
        (refine (then_normal (hK2 _ _ ?_)); clear hK2)
        refine st_then S (Ev.t rfl) ?_
        refine wp_seq_k fun _ hK2 => ?_
        refine wp_region_lit ?_
        (refine st_y S (Yr.ys (ys_assign Ev.c)) rfl ?_; clear S a w; intro a w S)
        refine st_nil ?_
        (refine (then_normal (hK2 _ _ ?_)); clear hK2)
        refine wp_ret ?_
        refine (then_ret ?_)
        refine st_ret S (results1 S Try.results11 (Rv.tmp rfl)) ?_
        exact ⟨rfl, S.wd.below⟩
      | false =>
        have hU := uni_can hP hZ hb1
        have kU := can_len hU
        have rw_pz : joinL P Z = (uniC P Z, 0) := by rw [join_uni hP hZ, hb1]; rfl
        cases hb2 : bigC (uniC Y Z) with
        | true =>
          have rw_yz : joinL Y Z = (⟨[], []⟩, 4) := by rw [join_uni hY hZ, hb2]; rfl
          refine enter6 Try.func11 rfl Try.ntmps11 rfl fun a S => ?_
          refine wp_seq_k fun _ hK1 => ?_
          refine wp_region_lit ?_
          (refine st_y S (Yr.ys (ys_assign Ev.c)) rfl ?_; clear S a; intro a w S)
          refine st_nil ?_
          (refine (then_normal (hK1 _ _ ?_)); clear hK1)
          refine wp_seq_k fun _ hK1 => ?_
          refine wp_region_lit ?_
          (refine st_y S (Yr.ys (ys_move (Ev.t rfl))) rfl ?_; clear S a w; intro a w S)
          (refine st_y S (Yr.ys (ys_move (Ev.t rfl))) rfl ?_; clear S a w; intro a w S)
          (refine st_m (op_calls S Try.call19 (EvL.cons (Ev.t rfl) (EvL.cons (Ev.t rfl) EvL.nil)) (c19 _ _ _ _ _ (by exact .old S.wd (by assumption)) (by exact .old S.wd (by assumption)) (by assumption) (by assumption)) rfl ?_); clear S a w; rintro _ _ ⟨A11, c12, A21, c29, rfl, rfl⟩ a w S)
          rw [rw_x] at S
          (refine st_y S (Yr.ys (ys_move (Ev.t rfl))) rfl ?_; clear S a w; intro a w S)
          (refine st_y S (Yr.ys (ys_move (Ev.t rfl))) rfl ?_; clear S a w; intro a w S)
          (refine st_m (op_calls S Try.call19 (EvL.cons (Ev.t rfl) (EvL.cons (Ev.t rfl) EvL.nil)) (c19 _ _ _ _ _ (by exact .old S.wd (by assumption)) (by exact .old S.wd (by assumption)) (by assumption) (by assumption)) rfl ?_); clear S a w; rintro _ _ ⟨A12, c13, A22, c210, rfl, rfl⟩ a w S)
          rw [rw_y] at S
          (refine st_y S (Yr.ys (ys_move (Ev.t rfl))) rfl ?_; clear S a w; intro a w S)
          (refine st_y S (Yr.ys (ys_move (Ev.t rfl))) rfl ?_; clear S a w; intro a w S)
          (refine st_m (op_calls S Try.call19 (EvL.cons (Ev.t rfl) (EvL.cons (Ev.t rfl) EvL.nil)) (c19 _ _ _ _ _ (by exact .old S.wd (by assumption)) (by exact .old S.wd (by assumption)) (by assumption) (by assumption)) rfl ?_); clear S a w; rintro _ _ ⟨A13, c14, A23, c211, rfl, rfl⟩ a w S)
          rw [rw_z] at S
          (refine st_m (op_alloc S Try.zeroValue36 (cs := _) rfl rfl ?_); clear S a w; intro g1 a w S)
          (refine st_m (op_alloc S Try.zeroValue36 (cs := _) rfl rfl ?_); clear S a w; intro g2 a w S)
          (refine st_m (op_alloc S Try.zeroValue36 (cs := _) rfl rfl ?_); clear S a w; intro g3 a w S)
          (refine st_m (op_stW S Try.sizeOf36 (Ev.t rfl) (Ev.t rfl) (k := 2) rfl rfl rfl (by simp [Value.oneCell']) ?_); clear S a w; intro a w S)
          (refine st_m (op_stW S Try.sizeOf36 (Ev.t rfl) (Ev.t rfl) (k := 1) rfl rfl rfl (by simp [Value.oneCell']) ?_); clear S a w; intro a w S)
          (refine st_m (op_stW S Try.sizeOf36 (Ev.t rfl) (Ev.t rfl) (k := 0) rfl rfl rfl (by simp [Value.oneCell']) ?_); clear S a w; intro a w S)
          refine st_nil ?_
          (refine (then_normal (hK1 _ _ ?_)); clear hK1)
          refine wp_seq_k fun _ hK1 => ?_
          refine wp_region_lit ?_
          (refine st_y S (Yr.ys (ys_ldA ⟨Try.isAgg36, Try.sizeOf36⟩ (Ev.t rfl) (k := 2) rfl rfl)) rfl ?_; clear S a w; intro a w S)
          (refine st_y S (Yr.ys (ys_ldA ⟨Try.isAgg36, Try.sizeOf36⟩ (Ev.t rfl) (k := 1) rfl rfl)) rfl ?_; clear S a w; intro a w S)
          (refine st_m (op_calls S Try.call51 (EvL.cons (Ev.t rfl) (EvL.cons (Ev.t rfl) EvL.nil)) (c51 _ _ _ _ _ _ _ (by exact ⟨(by exact Sl.of_own S.wd (k := 7) rfl (fun _ => rfl)), (by exact Sl.of_own S.wd (k := 8) rfl (fun _ => rfl))⟩) (by exact ⟨(by exact Sl.of_own S.wd (k := 5) rfl (fun _ => rfl)), (by exact Sl.of_own S.wd (k := 6) rfl (fun _ => rfl))⟩)) rfl ?_); clear S a w; rintro _ _ ⟨A14, c15, A24, c212, rfl, rfl⟩ a w S)
          rw [rw_xy] at S
          (refine st_y S (Yr.ys (ys_move (Ev.t rfl))) rfl ?_; clear S a w; intro a w S)
          (refine st_y S (Yr.ys (ys_ext (Ev.t rfl) rfl)) rfl ?_; clear S a w; intro a w S)
          (refine st_y S (Yr.ys (ys_ext (Ev.t rfl) rfl)) rfl ?_; clear S a w; intro a w S)
          (refine st_m (op_alloc S Try.zeroValue36 (cs := _) rfl rfl ?_); clear S a w; intro g4 a w S)
          (refine st_m (op_stW S Try.sizeOf36 (Ev.t rfl) (Ev.t rfl) (k := 0) rfl rfl rfl (by simp [Value.oneCell']) ?_); clear S a w; intro a w S)
          (refine st_y S (Yr.ys (ys_assign (Ev.t rfl))) rfl ?_; clear S a w; intro a w S)
          refine st_nil ?_
          (refine (then_normal (hK1 _ _ ?_)); clear hK1)
          refine wp_seq_k fun _ hK1 => ?_
          refine wp_region_lit ?_
          (refine st_y S (Yr.ys (ys_ldA ⟨Try.isAgg36, Try.sizeOf36⟩ (Ev.t rfl) (k := 4) rfl rfl)) rfl ?_; clear S a w; intro a w S)
          (refine st_y S (Yr.ys (ys_ldA ⟨Try.isAgg36, Try.sizeOf36⟩ (Ev.t rfl) (k := 5) rfl rfl)) rfl ?_; clear S a w; intro a w S)
          (refine st_m (op_calls S Try.call51 (EvL.cons (Ev.t rfl) (EvL.cons (Ev.t rfl) EvL.nil)) (c51 _ _ _ _ _ _ _ (by exact ⟨(by exact Sl.of_own S.wd (k := 8) rfl (fun _ => rfl)), (by exact Sl.of_own S.wd (k := 9) rfl (fun _ => rfl))⟩) (by exact ⟨(by exact Sl.of_own S.wd (k := 10) rfl (fun _ => rfl)), (by exact Sl.of_own S.wd (k := 11) rfl (fun _ => rfl))⟩)) rfl ?_); clear S a w; rintro _ _ ⟨A15, c16, A25, c213, rfl, rfl⟩ a w S)
          rw [rw_yx] at S
          (refine st_y S (Yr.ys (ys_move (Ev.t rfl))) rfl ?_; clear S a w; intro a w S)
          (refine st_y S (Yr.ys (ys_ext (Ev.t rfl) rfl)) rfl ?_; clear S a w; intro a w S)
          (refine st_y S (Yr.ys (ys_ext (Ev.t rfl) rfl)) rfl ?_; clear S a w; intro a w S)
          (refine st_m (op_alloc S Try.zeroValue36 (cs := _) rfl rfl ?_); clear S a w; intro g5 a w S)
          (refine st_m (op_stW S Try.sizeOf36 (Ev.t rfl) (Ev.t rfl) (k := 0) rfl rfl rfl (by simp [Value.oneCell']) ?_); clear S a w; intro a w S)
          (refine st_y S (Yr.ys (ys_assign (Ev.t rfl))) rfl ?_; clear S a w; intro a w S)
          refine st_nil ?_
          (refine (then_normal (hK1 _ _ ?_)); clear hK1)
          refine wp_seq_k fun _ hK1 => ?_
          refine wp_region_lit ?_
          (refine st_y S (Yr.ys (ys_ldA ⟨Try.isAgg36, Try.sizeOf36⟩ (Ev.t rfl) (k := 8) rfl rfl)) rfl ?_; clear S a w; intro a w S)
          (refine st_y S (Yr.ys (ys_ldA ⟨Try.isAgg36, Try.sizeOf36⟩ (Ev.t rfl) (k := 8) rfl rfl)) rfl ?_; clear S a w; intro a w S)
          (refine st_m (op_calls S Try.call51 (EvL.cons (Ev.t rfl) (EvL.cons (Ev.t rfl) EvL.nil)) (c51 _ _ _ _ _ _ _ (by exact ⟨(by exact Sl.of_own S.wd (k := 13) rfl (fun _ => rfl)), (by exact Sl.of_own S.wd (k := 14) rfl (fun _ => rfl))⟩) (by exact ⟨(by exact Sl.of_own S.wd (k := 13) rfl (fun _ => rfl)), (by exact Sl.of_own S.wd (k := 14) rfl (fun _ => rfl))⟩)) rfl ?_); clear S a w; rintro _ _ ⟨A16, c17, A26, c214, rfl, rfl⟩ a w S)
          rw [rw_xx] at S
          (refine st_y S (Yr.ys (ys_move (Ev.t rfl))) rfl ?_; clear S a w; intro a w S)
          (refine st_y S (Yr.ys (ys_ext (Ev.t rfl) rfl)) rfl ?_; clear S a w; intro a w S)
          (refine st_y S (Yr.ys (ys_ext (Ev.t rfl) rfl)) rfl ?_; clear S a w; intro a w S)
          (refine st_m (op_alloc S Try.zeroValue36 (cs := _) rfl rfl ?_); clear S a w; intro g6 a w S)
          (refine st_m (op_stW S Try.sizeOf36 (Ev.t rfl) (Ev.t rfl) (k := 0) rfl rfl rfl (by simp [Value.oneCell']) ?_); clear S a w; intro a w S)
          (refine st_y S (Yr.ys (ys_assign (Ev.t rfl))) rfl ?_; clear S a w; intro a w S)
          refine st_nil ?_
          (refine (then_normal (hK1 _ _ ?_)); clear hK1)
          refine wp_seq_k fun _ hK1 => ?_
          refine wp_seq_k fun _ hK2 => ?_
          refine wp_region_lit ?_
          (refine st_y S (Yr.ys (ys_move (Ev.t rfl))) rfl ?_; clear S a w; intro a w S)
          (refine st_y S (Yr.ys (ys_move (Ev.t rfl))) rfl ?_; clear S a w; intro a w S)
          (refine st_y S (Yr.ys (ys_F (by omega) (ys_neq (Ev.t rfl) (Ev.t rfl)))) rfl ?_; clear S a w; intro a w S)
          (refine st_y S (Yr.ys (ys_move (Ev.t rfl))) rfl ?_; clear S a w; intro a w S)
          (refine st_yt S rfl rfl (Yr.ys (ys_ldA ⟨Try.isAgg36, Try.sizeOf36⟩ (Ev.t rfl) (k := 6) rfl rfl)) rfl ?_; clear S a w; intro a w S)
          (refine st_yt S rfl rfl (Yr.ys (ys_ldA ⟨Try.isAgg36, Try.sizeOf36⟩ (Ev.t rfl) (k := 3) rfl rfl)) rfl ?_; clear S a w; intro a w S)
          (refine st_yt S rfl rfl (ys_call Try.call26 (EvL.cons (Ev.t rfl) (EvL.cons (Ev.t rfl) EvL.nil)) (fun hp w W => c26 _ _ _ _ _ _ _ (by exact ⟨(by exact Sl.of_own W (k := 7) rfl (fun _ => rfl)), (by exact Sl.of_own W (k := 8) rfl (fun _ => rfl))⟩) (by exact ⟨(by exact Sl.of_own W (k := 4) rfl (fun _ => rfl)), (by exact Sl.of_own W (k := 5) rfl (fun _ => rfl))⟩))) rfl ?_; clear S a w; intro a w S)
          rw [rw_s] at S
          (refine st_yt S rfl rfl (Yr.ys (ys_not (Ev.t rfl))) rfl ?_; clear S a w; intro a w S)
          (refine st_y S (Yr.ys (ys_pickF (Ev.t rfl) (Ev.t rfl))) rfl ?_; clear S a w; intro a w S)
          (refine st_y S (Yr.ys (ys_move (Ev.t rfl))) rfl ?_; clear S a w; intro a w S)
          (refine st_yt S rfl rfl (Yr.ys (ys_move (Ev.t rfl))) rfl ?_; clear S a w; intro a w S)
          (refine st_yt S rfl rfl (Yr.ys (ys_F (by omega) (ys_neq (Ev.t rfl) Ev.c))) rfl ?_; clear S a w; intro a w S)
          (refine st_y S (Yr.ys (ys_pickF (Ev.t rfl) (Ev.t rfl))) rfl ?_; clear S a w; intro a w S)
          (refine st_y S (Yr.ys (ys_move (Ev.t rfl))) rfl ?_; clear S a w; intro a w S)
          (refine st_yt S rfl rfl (Yr.ys (ys_ldA ⟨Try.isAgg36, Try.sizeOf36⟩ (Ev.t rfl) (k := 0) rfl rfl)) rfl ?_; clear S a w; intro a w S)
          (refine st_yt S rfl rfl (Yr.ys (ys_ldA ⟨Try.isAgg36, Try.sizeOf36⟩ (Ev.t rfl) (k := 11) rfl rfl)) rfl ?_; clear S a w; intro a w S)
          (refine st_yt S rfl rfl (ys_call Try.call26 (EvL.cons (Ev.t rfl) (EvL.cons (Ev.t rfl) EvL.nil)) (fun hp w W => c26 _ _ _ _ _ _ _ (by exact ⟨(by exact Sl.of_own W (k := 1) rfl (fun _ => rfl)), (by exact Sl.of_own W (k := 2) rfl (fun _ => rfl))⟩) (by exact ⟨(by exact Sl.of_own W (k := 16) rfl (fun _ => rfl)), (by exact Sl.of_own W (k := 17) rfl (fun _ => rfl))⟩))) rfl ?_; clear S a w; intro a w S)
          rw [rw_s] at S
          (refine st_yt S rfl rfl (Yr.ys (ys_not (Ev.t rfl))) rfl ?_; clear S a w; intro a w S)
          (refine st_y S (Yr.ys (ys_pickF (Ev.t rfl) (Ev.t rfl))) rfl ?_; clear S a w; intro a w S)
          refine st_nil ?_
          (refine (then_normal (hK2 _ _ ?_)); clear hK2)
          refine st_else S (Ev.t rfl) ?_
          refine wp_skip ?_
          (refine (then_normal (hK1 _ _ ?_)); clear hK1)
          refine wp_seq_k fun _ hK1 => ?_
          refine wp_seq_k fun _ hK2 => ?_
          refine wp_region_lit ?_
          (refine st_y S (Yr.ys (ys_move (Ev.t rfl))) rfl ?_; clear S a w; intro a w S)
          (refine st_y S (Yr.ys (ys_F (by omega) (ys_neq (Ev.t rfl) Ev.c))) rfl ?_; clear S a w; intro a w S)
          refine st_nil ?_
          (refine (then_normal (hK2 _ _ ?_)); clear hK2)
          refine st_else S (Ev.t rfl) ?_
          refine wp_skip ?_
          (refine (then_normal (hK1 _ _ ?_)); clear hK1)
          refine wp_seq_k fun _ hK1 => ?_
          refine wp_seq_k fun _ hK2 => ?_
          (refine st_quiet S (by kernel_rfl) (by kernel_rfl) ?_; clear S w; intro a S)
          (refine q_y S (Yr.ys (ys_ldA ⟨Try.isAgg36, Try.sizeOf36⟩ (Ev.t rfl) (k := 11) rfl rfl)) rfl ?_; clear S a; intro a S)
          (refine q_y S (Yr.ys (ys_ldA ⟨Try.isAgg36, Try.sizeOf36⟩ (Ev.t rfl) (k := 6) rfl rfl)) rfl ?_; clear S a; intro a S)
          (refine q_y S (ys_call Try.call33 (EvL.cons (Ev.t rfl) (EvL.cons (Ev.t rfl) EvL.nil)) (fun hp w W => c33 _ _ _ _ _ _ _ (by exact ⟨(by exact Sl.of_own W (k := 16) rfl (fun _ => rfl)), (by exact Sl.of_own W (k := 17) rfl (fun _ => rfl))⟩) (by exact ⟨(by exact Sl.of_own W (k := 7) rfl (fun _ => rfl)), (by exact Sl.of_own W (k := 8) rfl (fun _ => rfl))⟩) (by assumption) (by assumption))) rfl ?_; clear S a; intro a S)
          rw [rw_lx] at S
          (refine q_y S (Yr.ys (ys_not (Ev.t rfl))) rfl ?_; clear S a; intro a S)
          (refine q_y S (Yr.ys (ys_move (Ev.t rfl))) rfl ?_; clear S a; intro a S)
          (refine q_yt S rfl rfl (Yr.ys (ys_ldA ⟨Try.isAgg36, Try.sizeOf36⟩ (Ev.t rfl) (k := 10) rfl rfl)) rfl ?_; clear S a; intro a S)
          (refine q_yt S rfl rfl (Yr.ys (ys_ldA ⟨Try.isAgg36, Try.sizeOf36⟩ (Ev.t rfl) (k := 6) rfl rfl)) rfl ?_; clear S a; intro a S)
          (refine q_yt S rfl rfl (ys_call Try.call33 (EvL.cons (Ev.t rfl) (EvL.cons (Ev.t rfl) EvL.nil)) (fun hp w W => c33 _ _ _ _ _ _ _ (by exact ⟨(by exact Sl.of_own W (k := 14) rfl (fun _ => rfl)), (by exact Sl.of_own W (k := 15) rfl (fun _ => rfl))⟩) (by exact ⟨(by exact Sl.of_own W (k := 7) rfl (fun _ => rfl)), (by exact Sl.of_own W (k := 8) rfl (fun _ => rfl))⟩) (by assumption) (by assumption))) rfl ?_; clear S a; intro a S)
          rw [rw_ly] at S
          (refine q_yt S rfl rfl (Yr.ys (ys_not (Ev.t rfl))) rfl ?_; clear S a; intro a S)
          (refine q_y S (Yr.ys (ys_pickF (Ev.t rfl) (Ev.t rfl))) rfl ?_; clear S a; intro a S)
          (refine q_y S (Yr.ys (ys_move (Ev.t rfl))) rfl ?_; clear S a; intro a S)
          (refine q_yt S rfl rfl (Yr.ys (ys_ldA ⟨Try.isAgg36, Try.sizeOf36⟩ (Ev.t rfl) (k := 11) rfl rfl)) rfl ?_; clear S a; intro a S)
          (refine q_yt S rfl rfl (Yr.ys (ys_ldA ⟨Try.isAgg36, Try.sizeOf36⟩ (Ev.t rfl) (k := 10) rfl rfl)) rfl ?_; clear S a; intro a S)
          (refine q_yt S rfl rfl (ys_call Try.call33 (EvL.cons (Ev.t rfl) (EvL.cons (Ev.t rfl) EvL.nil)) (fun hp w W => c33 _ _ _ _ _ _ _ (by exact ⟨(by exact Sl.of_own W (k := 16) rfl (fun _ => rfl)), (by exact Sl.of_own W (k := 17) rfl (fun _ => rfl))⟩) (by exact ⟨(by exact Sl.of_own W (k := 14) rfl (fun _ => rfl)), (by exact Sl.of_own W (k := 15) rfl (fun _ => rfl))⟩) (by assumption) (by assumption))) rfl ?_; clear S a; intro a S)
          rw [rw_lxy] at S
          rw [rw_d] at S
          (refine q_yt S rfl rfl (Yr.ys (ys_ldA ⟨Try.isAgg36, Try.sizeOf36⟩ (Ev.t rfl) (k := 6) rfl rfl)) rfl ?_; clear S a; intro a S)
          (refine q_yt S rfl rfl (Yr.ys (ys_ldA ⟨Try.isAgg36, Try.sizeOf36⟩ (Ev.t rfl) (k := 10) rfl rfl)) rfl ?_; clear S a; intro a S)
          (refine q_yt S rfl rfl (ys_call Try.call26 (EvL.cons (Ev.t rfl) (EvL.cons (Ev.t rfl) EvL.nil)) (fun hp w W => c26 _ _ _ _ _ _ _ (by exact ⟨(by exact Sl.of_own W (k := 7) rfl (fun _ => rfl)), (by exact Sl.of_own W (k := 8) rfl (fun _ => rfl))⟩) (by exact ⟨(by exact Sl.of_own W (k := 14) rfl (fun _ => rfl)), (by exact Sl.of_own W (k := 15) rfl (fun _ => rfl))⟩))) rfl ?_; clear S a; intro a S)
          rw [rw_d] at S
          (refine q_yt S rfl rfl (Yr.ys (ys_neqB Try.underlying4 (Ev.t rfl) (Ev.t rfl))) rfl ?_; clear S a; intro a S)
          (refine q_y S (Yr.ys (ys_pickF (Ev.t rfl) (Ev.t rfl))) rfl ?_; clear S a; intro a S)
          (refine q_nil ?_; intro w W; replace S := St.mk S W; clear W)
          (refine (then_normal (hK2 _ _ ?_)); clear hK2)
          refine st_else S (Ev.t rfl) ?_
          refine wp_skip ?_
          (refine (then_normal (hK1 _ _ ?_)); clear hK1)
          refine wp_seq_k fun _ hK1 => ?_
          refine wp_region_lit ?_
          (refine st_y S (Yr.ys (ys_ldA ⟨Try.isAgg36, Try.sizeOf36⟩ (Ev.t rfl) (k := 6) rfl rfl)) rfl ?_; clear S a w; intro a w S)
          (refine st_y S (Yr.ys (ys_ldA ⟨Try.isAgg36, Try.sizeOf36⟩ (Ev.t rfl) (k := 9) rfl rfl)) rfl ?_; clear S a w; intro a w S)
          (refine st_m (op_calls S Try.call51 (EvL.cons (Ev.t rfl) (EvL.cons (Ev.t rfl) EvL.nil)) (c51 _ _ _ _ _ _ _ (by exact ⟨(by exact Sl.of_own S.wd (k := 7) rfl (fun _ => rfl)), (by exact Sl.of_own S.wd (k := 8) rfl (fun _ => rfl))⟩) (by exact ⟨(by exact Sl.of_own S.wd (k := 12) rfl (fun _ => rfl)), (by exact Sl.of_own S.wd (k := 13) rfl (fun _ => rfl))⟩)) rfl ?_); clear S a w; rintro _ _ ⟨A17, c18, A27, c215, rfl, rfl⟩ a w S)
          rw [rw_pz] at S
          (refine st_y S (Yr.ys (ys_move (Ev.t rfl))) rfl ?_; clear S a w; intro a w S)
          (refine st_y S (Yr.ys (ys_ext (Ev.t rfl) rfl)) rfl ?_; clear S a w; intro a w S)
          (refine st_y S (Yr.ys (ys_ext (Ev.t rfl) rfl)) rfl ?_; clear S a w; intro a w S)
          (refine st_m (op_alloc S Try.zeroValue36 (cs := _) rfl rfl ?_); clear S a w; intro g7 a w S)
          (refine st_m (op_stW S Try.sizeOf36 (Ev.t rfl) (Ev.t rfl) (k := 0) rfl rfl rfl (by simp [Value.oneCell']) ?_); clear S a w; intro a w S)
          (refine st_y S (Yr.ys (ys_assign (Ev.t rfl))) rfl ?_; clear S a w; intro a w S)
          refine st_nil ?_
          (refine (then_normal (hK1 _ _ ?_)); clear hK1)
          refine wp_seq_k fun _ hK1 => ?_
          refine wp_region_lit ?_
          (refine st_y S (Yr.ys (ys_ldA ⟨Try.isAgg36, Try.sizeOf36⟩ (Ev.t rfl) (k := 13) rfl rfl)) rfl ?_; clear S a w; intro a w S)
          (refine st_y S (Yr.ys (ys_ldA ⟨Try.isAgg36, Try.sizeOf36⟩ (Ev.t rfl) (k := 12) rfl rfl)) rfl ?_; clear S a w; intro a w S)
          (refine st_m (op_calls S Try.call51 (EvL.cons (Ev.t rfl) (EvL.cons (Ev.t rfl) EvL.nil)) (c51 _ _ _ _ _ _ _ (by exact ⟨(by exact Sl.of_own S.wd (k := 17) rfl (fun _ => rfl)), (by exact Sl.of_own S.wd (k := 18) rfl (fun _ => rfl))⟩) (by exact ⟨(by exact Sl.of_own S.wd (k := 15) rfl (fun _ => rfl)), (by exact Sl.of_own S.wd (k := 16) rfl (fun _ => rfl))⟩)) rfl ?_); clear S a w; rintro _ _ ⟨A18, c110, A28, c216, rfl, rfl⟩ a w S)
          rw [rw_yz] at S
          (refine st_y S (Yr.ys (ys_move (Ev.t rfl))) rfl ?_; clear S a w; intro a w S)
          (refine st_y S (Yr.ys (ys_ext (Ev.t rfl) rfl)) rfl ?_; clear S a w; intro a w S)
          (refine st_y S (Yr.ys (ys_ext (Ev.t rfl) rfl)) rfl ?_; clear S a w; intro a w S)
          (refine st_m (op_alloc S Try.zeroValue36 (cs := _) rfl rfl ?_); clear S a w; intro g8 a w S)
          (refine st_m (op_stW S Try.sizeOf36 (Ev.t rfl) (Ev.t rfl) (k := 0) rfl rfl rfl (by simp [Value.oneCell']) ?_); clear S a w; intro a w S)
          (refine st_y S (Yr.ys (ys_assign (Ev.t rfl))) rfl ?_; clear S a w; intro a w S)
          refine st_nil ?_
          (refine (then_normal (hK1 _ _ ?_)); clear hK1)
          refine wp_seq_k fun _ hK1 => ?_
          refine wp_seq_k fun _ hK2 => ?_
          refine wp_region_lit ?_
          (refine st_y S (Yr.ys (ys_move (Ev.t rfl))) rfl ?_; clear S a w; intro a w S)
          (refine st_y S (Yr.ys (ys_F (by omega) (ys_neq (Ev.t rfl) Ev.c))) rfl ?_; clear S a w; intro a w S)
          (refine st_y S (Yr.ys (ys_move (Ev.t rfl))) rfl ?_; clear S a w; intro a w S)
          (refine st_yt S rfl rfl (Yr.ys (ys_move (Ev.t rfl))) rfl ?_; clear S a w; intro a w S)
          (refine st_yt S rfl rfl (Yr.ys (ys_T (by omega) (ys_neq (Ev.t rfl) Ev.c))) rfl ?_; clear S a w; intro a w S)
          (refine st_y S (Yr.ys (ys_pickF (Ev.t rfl) (Ev.t rfl))) rfl ?_; clear S a w; intro a w S)
          refine st_nil ?_
          (refine (then_normal (hK2 _ _ ?_)); clear hK2)
          refine st_then S (Ev.t rfl) ?_
          refine wp_seq_k fun _ hK2 => ?_
          refine wp_region_lit ?_
          (refine st_y S (Yr.ys (ys_assign Ev.c)) rfl ?_; clear S a w; intro a w S)
          refine st_nil ?_
          (refine (then_normal (hK2 _ _ ?_)); clear hK2)
          refine wp_ret ?_
          refine (then_ret ?_)
          refine st_ret S (results1 S Try.results11 (Rv.tmp rfl)) ?_
          exact ⟨rfl, S.wd.below⟩
        | false =>
          have hT := uni_can hY hZ hb2
          have kT := can_len hT
          have rw_yz : joinL Y Z = (uniC Y Z, 0) := by rw [join_uni hY hZ, hb2]; rfl
          have rw_xt : joinL X (uniC Y Z) = (uniC P Z, 0) := by rw [join_uni hX hT, ← aP, hb1]; rfl
          generalize uniC Y Z = T at *
          generalize uniC P Z = U at *
          have rw_eT : (⟨T.marks, T.cloud⟩ : Ctx) = T := rfl
          have rw_eU : (⟨U.marks, U.cloud⟩ : Ctx) = U := rfl
          refine enter6 Try.func11 rfl Try.ntmps11 rfl fun a S => ?_
          refine wp_seq_k fun _ hK1 => ?_
          refine wp_region_lit ?_
          (refine st_y S (Yr.ys (ys_assign Ev.c)) rfl ?_; clear S a; intro a w S)
          refine st_nil ?_
          (refine (then_normal (hK1 _ _ ?_)); clear hK1)
          refine wp_seq_k fun _ hK1 => ?_
          refine wp_region_lit ?_
          (refine st_y S (Yr.ys (ys_move (Ev.t rfl))) rfl ?_; clear S a w; intro a w S)
          (refine st_y S (Yr.ys (ys_move (Ev.t rfl))) rfl ?_; clear S a w; intro a w S)
          (refine st_m (op_calls S Try.call19 (EvL.cons (Ev.t rfl) (EvL.cons (Ev.t rfl) EvL.nil)) (c19 _ _ _ _ _ (by exact .old S.wd (by assumption)) (by exact .old S.wd (by assumption)) (by assumption) (by assumption)) rfl ?_); clear S a w; rintro _ _ ⟨A11, c12, A21, c29, rfl, rfl⟩ a w S)
          rw [rw_x] at S
          (refine st_y S (Yr.ys (ys_move (Ev.t rfl))) rfl ?_; clear S a w; intro a w S)
          (refine st_y S (Yr.ys (ys_move (Ev.t rfl))) rfl ?_; clear S a w; intro a w S)
          (refine st_m (op_calls S Try.call19 (EvL.cons (Ev.t rfl) (EvL.cons (Ev.t rfl) EvL.nil)) (c19 _ _ _ _ _ (by exact .old S.wd (by assumption)) (by exact .old S.wd (by assumption)) (by assumption) (by assumption)) rfl ?_); clear S a w; rintro _ _ ⟨A12, c13, A22, c210, rfl, rfl⟩ a w S)
          rw [rw_y] at S
          (refine st_y S (Yr.ys (ys_move (Ev.t rfl))) rfl ?_; clear S a w; intro a w S)
          (refine st_y S (Yr.ys (ys_move (Ev.t rfl))) rfl ?_; clear S a w; intro a w S)
          (refine st_m (op_calls S Try.call19 (EvL.cons (Ev.t rfl) (EvL.cons (Ev.t rfl) EvL.nil)) (c19 _ _ _ _ _ (by exact .old S.wd (by assumption)) (by exact .old S.wd (by assumption)) (by assumption) (by assumption)) rfl ?_); clear S a w; rintro _ _ ⟨A13, c14, A23, c211, rfl, rfl⟩ a w S)
          rw [rw_z] at S
          (refine st_m (op_alloc S Try.zeroValue36 (cs := _) rfl rfl ?_); clear S a w; intro g1 a w S)
          (refine st_m (op_alloc S Try.zeroValue36 (cs := _) rfl rfl ?_); clear S a w; intro g2 a w S)
          (refine st_m (op_alloc S Try.zeroValue36 (cs := _) rfl rfl ?_); clear S a w; intro g3 a w S)
          (refine st_m (op_stW S Try.sizeOf36 (Ev.t rfl) (Ev.t rfl) (k := 2) rfl rfl rfl (by simp [Value.oneCell']) ?_); clear S a w; intro a w S)
          (refine st_m (op_stW S Try.sizeOf36 (Ev.t rfl) (Ev.t rfl) (k := 1) rfl rfl rfl (by simp [Value.oneCell']) ?_); clear S a w; intro a w S)
          (refine st_m (op_stW S Try.sizeOf36 (Ev.t rfl) (Ev.t rfl) (k := 0) rfl rfl rfl (by simp [Value.oneCell']) ?_); clear S a w; intro a w S)
          refine st_nil ?_
          (refine (then_normal (hK1 _ _ ?_)); clear hK1)
          refine wp_seq_k fun _ hK1 => ?_
          refine wp_region_lit ?_
          (refine st_y S (Yr.ys (ys_ldA ⟨Try.isAgg36, Try.sizeOf36⟩ (Ev.t rfl) (k := 2) rfl rfl)) rfl ?_; clear S a w; intro a w S)
          (refine st_y S (Yr.ys (ys_ldA ⟨Try.isAgg36, Try.sizeOf36⟩ (Ev.t rfl) (k := 1) rfl rfl)) rfl ?_; clear S a w; intro a w S)
          (refine st_m (op_calls S Try.call51 (EvL.cons (Ev.t rfl) (EvL.cons (Ev.t rfl) EvL.nil)) (c51 _ _ _ _ _ _ _ (by exact ⟨(by exact Sl.of_own S.wd (k := 7) rfl (fun _ => rfl)), (by exact Sl.of_own S.wd (k := 8) rfl (fun _ => rfl))⟩) (by exact ⟨(by exact Sl.of_own S.wd (k := 5) rfl (fun _ => rfl)), (by exact Sl.of_own S.wd (k := 6) rfl (fun _ => rfl))⟩)) rfl ?_); clear S a w; rintro _ _ ⟨A14, c15, A24, c212, rfl, rfl⟩ a w S)
          rw [rw_xy] at S
          (refine st_y S (Yr.ys (ys_move (Ev.t rfl))) rfl ?_; clear S a w; intro a w S)
          (refine st_y S (Yr.ys (ys_ext (Ev.t rfl) rfl)) rfl ?_; clear S a w; intro a w S)
          (refine st_y S (Yr.ys (ys_ext (Ev.t rfl) rfl)) rfl ?_; clear S a w; intro a w S)
          (refine st_m (op_alloc S Try.zeroValue36 (cs := _) rfl rfl ?_); clear S a w; intro g4 a w S)
          (refine st_m (op_stW S Try.sizeOf36 (Ev.t rfl) (Ev.t rfl) (k := 0) rfl rfl rfl (by simp [Value.oneCell']) ?_); clear S a w; intro a w S)
          (refine st_y S (Yr.ys (ys_assign (Ev.t rfl))) rfl ?_; clear S a w; intro a w S)
          refine st_nil ?_
          (refine (then_normal (hK1 _ _ ?_)); clear hK1)
          refine wp_seq_k fun _ hK1 => ?_
          refine wp_region_lit ?_
          (refine st_y S (Yr.ys (ys_ldA ⟨Try.isAgg36, Try.sizeOf36⟩ (Ev.t rfl) (k := 4) rfl rfl)) rfl ?_; clear S a w; intro a w S)
          (refine st_y S (Yr.ys (ys_ldA ⟨Try.isAgg36, Try.sizeOf36⟩ (Ev.t rfl) (k := 5) rfl rfl)) rfl ?_; clear S a w; intro a w S)
          (refine st_m (op_calls S Try.call51 (EvL.cons (Ev.t rfl) (EvL.cons (Ev.t rfl) EvL.nil)) (c51 _ _ _ _ _ _ _ (by exact ⟨(by exact Sl.of_own S.wd (k := 8) rfl (fun _ => rfl)), (by exact Sl.of_own S.wd (k := 9) rfl (fun _ => rfl))⟩) (by exact ⟨(by exact Sl.of_own S.wd (k := 10) rfl (fun _ => rfl)), (by exact Sl.of_own S.wd (k := 11) rfl (fun _ => rfl))⟩)) rfl ?_); clear S a w; rintro _ _ ⟨A15, c16, A25, c213, rfl, rfl⟩ a w S)
          rw [rw_yx] at S
          (refine st_y S (Yr.ys (ys_move (Ev.t rfl))) rfl ?_; clear S a w; intro a w S)
          (refine st_y S (Yr.ys (ys_ext (Ev.t rfl) rfl)) rfl ?_; clear S a w; intro a w S)
          (refine st_y S (Yr.ys (ys_ext (Ev.t rfl) rfl)) rfl ?_; clear S a w; intro a w S)
          (refine st_m (op_alloc S Try.zeroValue36 (cs := _) rfl rfl ?_); clear S a w; intro g5 a w S)
          (refine st_m (op_stW S Try.sizeOf36 (Ev.t rfl) (Ev.t rfl) (k := 0) rfl rfl rfl (by simp [Value.oneCell']) ?_); clear S a w; intro a w S)
          (refine st_y S (Yr.ys (ys_assign (Ev.t rfl))) rfl ?_; clear S a w; intro a w S)
          refine st_nil ?_
          (refine (then_normal (hK1 _ _ ?_)); clear hK1)
          refine wp_seq_k fun _ hK1 => ?_
          refine wp_region_lit ?_
          (refine st_y S (Yr.ys (ys_ldA ⟨Try.isAgg36, Try.sizeOf36⟩ (Ev.t rfl) (k := 8) rfl rfl)) rfl ?_; clear S a w; intro a w S)
          (refine st_y S (Yr.ys (ys_ldA ⟨Try.isAgg36, Try.sizeOf36⟩ (Ev.t rfl) (k := 8) rfl rfl)) rfl ?_; clear S a w; intro a w S)
          (refine st_m (op_calls S Try.call51 (EvL.cons (Ev.t rfl) (EvL.cons (Ev.t rfl) EvL.nil)) (c51 _ _ _ _ _ _ _ (by exact ⟨(by exact Sl.of_own S.wd (k := 13) rfl (fun _ => rfl)), (by exact Sl.of_own S.wd (k := 14) rfl (fun _ => rfl))⟩) (by exact ⟨(by exact Sl.of_own S.wd (k := 13) rfl (fun _ => rfl)), (by exact Sl.of_own S.wd (k := 14) rfl (fun _ => rfl))⟩)) rfl ?_); clear S a w; rintro _ _ ⟨A16, c17, A26, c214, rfl, rfl⟩ a w S)
          rw [rw_xx] at S
          (refine st_y S (Yr.ys (ys_move (Ev.t rfl))) rfl ?_; clear S a w; intro a w S)
          (refine st_y S (Yr.ys (ys_ext (Ev.t rfl) rfl)) rfl ?_; clear S a w; intro a w S)
          (refine st_y S (Yr.ys (ys_ext (Ev.t rfl) rfl)) rfl ?_; clear S a w; intro a w S)
          (refine st_m (op_alloc S Try.zeroValue36 (cs := _) rfl rfl ?_); clear S a w; intro g6 a w S)
          (refine st_m (op_stW S Try.sizeOf36 (Ev.t rfl) (Ev.t rfl) (k := 0) rfl rfl rfl (by simp [Value.oneCell']) ?_); clear S a w; intro a w S)
          (refine st_y S (Yr.ys (ys_assign (Ev.t rfl))) rfl ?_; clear S a w; intro a w S)
          refine st_nil ?_
          (refine (then_normal (hK1 _ _ ?_)); clear hK1)
          refine wp_seq_k fun _ hK1 => ?_
          refine wp_seq_k fun _ hK2 => ?_
          refine wp_region_lit ?_
          (refine st_y S (Yr.ys (ys_move (Ev.t rfl))) rfl ?_; clear S a w; intro a w S)
          (refine st_y S (Yr.ys (ys_move (Ev.t rfl))) rfl ?_; clear S a w; intro a w S)
          (refine st_y S (Yr.ys (ys_F (by omega) (ys_neq (Ev.t rfl) (Ev.t rfl)))) rfl ?_; clear S a w; intro a w S)
          (refine st_y S (Yr.ys (ys_move (Ev.t rfl))) rfl ?_; clear S a w; intro a w S)
          (refine st_yt S rfl rfl (Yr.ys (ys_ldA ⟨Try.isAgg36, Try.sizeOf36⟩ (Ev.t rfl) (k := 6) rfl rfl)) rfl ?_; clear S a w; intro a w S)
          (refine st_yt S rfl rfl (Yr.ys (ys_ldA ⟨Try.isAgg36, Try.sizeOf36⟩ (Ev.t rfl) (k := 3) rfl rfl)) rfl ?_; clear S a w; intro a w S)
          (refine st_yt S rfl rfl (ys_call Try.call26 (EvL.cons (Ev.t rfl) (EvL.cons (Ev.t rfl) EvL.nil)) (fun hp w W => c26 _ _ _ _ _ _ _ (by exact ⟨(by exact Sl.of_own W (k := 7) rfl (fun _ => rfl)), (by exact Sl.of_own W (k := 8) rfl (fun _ => rfl))⟩) (by exact ⟨(by exact Sl.of_own W (k := 4) rfl (fun _ => rfl)), (by exact Sl.of_own W (k := 5) rfl (fun _ => rfl))⟩))) rfl ?_; clear S a w; intro a w S)
          rw [rw_s] at S
          (refine st_yt S rfl rfl (Yr.ys (ys_not (Ev.t rfl))) rfl ?_; clear S a w; intro a w S)
          (refine st_y S (Yr.ys (ys_pickF (Ev.t rfl) (Ev.t rfl))) rfl ?_; clear S a w; intro a w S)
          (refine st_y S (Yr.ys (ys_move (Ev.t rfl))) rfl ?_; clear S a w; intro a w S)
          (refine st_yt S rfl rfl (Yr.ys (ys_move (Ev.t rfl))) rfl ?_; clear S a w; intro a w S)
          (refine st_yt S rfl rfl (Yr.ys (ys_F (by omega) (ys_neq (Ev.t rfl) Ev.c))) rfl ?_; clear S a w; intro a w S)
          (refine st_y S (Yr.ys (ys_pickF (Ev.t rfl) (Ev.t rfl))) rfl ?_; clear S a w; intro a w S)
          (refine st_y S (Yr.ys (ys_move (Ev.t rfl))) rfl ?_; clear S a w; intro a w S)
          (refine st_yt S rfl rfl (Yr.ys (ys_ldA ⟨Try.isAgg36, Try.sizeOf36⟩ (Ev.t rfl) (k := 0) rfl rfl)) rfl ?_; clear S a w; intro a w S)
          (refine st_yt S rfl rfl (Yr.ys (ys_ldA ⟨Try.isAgg36, Try.sizeOf36⟩ (Ev.t rfl) (k := 11) rfl rfl)) rfl ?_; clear S a w; intro a w S)
          (refine st_yt S rfl rfl (ys_call Try.call26 (EvL.cons (Ev.t rfl) (EvL.cons (Ev.t rfl) EvL.nil)) (fun hp w W => c26 _ _ _ _ _ _ _ (by exact ⟨(by exact Sl.of_own W (k := 1) rfl (fun _ => rfl)), (by exact Sl.of_own W (k := 2) rfl (fun _ => rfl))⟩) (by exact ⟨(by exact Sl.of_own W (k := 16) rfl (fun _ => rfl)), (by exact Sl.of_own W (k := 17) rfl (fun _ => rfl))⟩))) rfl ?_; clear S a w; intro a w S)
          rw [rw_s] at S
          (refine st_yt S rfl rfl (Yr.ys (ys_not (Ev.t rfl))) rfl ?_; clear S a w; intro a w S)
          (refine st_y S (Yr.ys (ys_pickF (Ev.t rfl) (Ev.t rfl))) rfl ?_; clear S a w; intro a w S)
          refine st_nil ?_
          (refine (then_normal (hK2 _ _ ?_)); clear hK2)
          refine st_else S (Ev.t rfl) ?_
          refine wp_skip ?_
          (refine (then_normal (hK1 _ _ ?_)); clear hK1)
          refine wp_seq_k fun _ hK1 => ?_
          refine wp_seq_k fun _ hK2 => ?_
          refine wp_region_lit ?_
          (refine st_y S (Yr.ys (ys_move (Ev.t rfl))) rfl ?_; clear S a w; intro a w S)
          (refine st_y S (Yr.ys (ys_F (by omega) (ys_neq (Ev.t rfl) Ev.c))) rfl ?_; clear S a w; intro a w S)
          refine st_nil ?_
          (refine (then_normal (hK2 _ _ ?_)); clear hK2)
          refine st_else S (Ev.t rfl) ?_
          refine wp_skip ?_
          (refine (then_normal (hK1 _ _ ?_)); clear hK1)
          refine wp_seq_k fun _ hK1 => ?_
          refine wp_seq_k fun _ hK2 => ?_
          (refine st_quiet S (by kernel_rfl) (by kernel_rfl) ?_; clear S w; intro a S)
          (refine q_y S (Yr.ys (ys_ldA ⟨Try.isAgg36, Try.sizeOf36⟩ (Ev.t rfl) (k := 11) rfl rfl)) rfl ?_; clear S a; intro a S)
          (refine q_y S (Yr.ys (ys_ldA ⟨Try.isAgg36, Try.sizeOf36⟩ (Ev.t rfl) (k := 6) rfl rfl)) rfl ?_; clear S a; intro a S)
          (refine q_y S (ys_call Try.call33 (EvL.cons (Ev.t rfl) (EvL.cons (Ev.t rfl) EvL.nil)) (fun hp w W => c33 _ _ _ _ _ _ _ (by exact ⟨(by exact Sl.of_own W (k := 16) rfl (fun _ => rfl)), (by exact Sl.of_own W (k := 17) rfl (fun _ => rfl))⟩) (by exact ⟨(by exact Sl.of_own W (k := 7) rfl (fun _ => rfl)), (by exact Sl.of_own W (k := 8) rfl (fun _ => rfl))⟩) (by assumption) (by assumption))) rfl ?_; clear S a; intro a S)
          rw [rw_lx] at S
          (refine q_y S (Yr.ys (ys_not (Ev.t rfl))) rfl ?_; clear S a; intro a S)
          (refine q_y S (Yr.ys (ys_move (Ev.t rfl))) rfl ?_; clear S a; intro a S)
          (refine q_yt S rfl rfl (Yr.ys (ys_ldA ⟨Try.isAgg36, Try.sizeOf36⟩ (Ev.t rfl) (k := 10) rfl rfl)) rfl ?_; clear S a; intro a S)
          (refine q_yt S rfl rfl (Yr.ys (ys_ldA ⟨Try.isAgg36, Try.sizeOf36⟩ (Ev.t rfl) (k := 6) rfl rfl)) rfl ?_; clear S a; intro a S)
          (refine q_yt S rfl rfl (ys_call Try.call33 (EvL.cons (Ev.t rfl) (EvL.cons (Ev.t rfl) EvL.nil)) (fun hp w W => c33 _ _ _ _ _ _ _ (by exact ⟨(by exact Sl.of_own W (k := 14) rfl (fun _ => rfl)), (by exact Sl.of_own W (k := 15) rfl (fun _ => rfl))⟩) (by exact ⟨(by exact Sl.of_own W (k := 7) rfl (fun _ => rfl)), (by exact Sl.of_own W (k := 8) rfl (fun _ => rfl))⟩) (by assumption) (by assumption))) rfl ?_; clear S a; intro a S)
          rw [rw_ly] at S
          (refine q_yt S rfl rfl (Yr.ys (ys_not (Ev.t rfl))) rfl ?_; clear S a; intro a S)
          (refine q_y S (Yr.ys (ys_pickF (Ev.t rfl) (Ev.t rfl))) rfl ?_; clear S a; intro a S)
          (refine q_y S (Yr.ys (ys_move (Ev.t rfl))) rfl ?_; clear S a; intro a S)
          (refine q_yt S rfl rfl (Yr.ys (ys_ldA ⟨Try.isAgg36, Try.sizeOf36⟩ (Ev.t rfl) (k := 11) rfl rfl)) rfl ?_; clear S a; intro a S)
          (refine q_yt S rfl rfl (Yr.ys (ys_ldA ⟨Try.isAgg36, Try.sizeOf36⟩ (Ev.t rfl) (k := 10) rfl rfl)) rfl ?_; clear S a; intro a S)
          (refine q_yt S rfl rfl (ys_call Try.call33 (EvL.cons (Ev.t rfl) (EvL.cons (Ev.t rfl) EvL.nil)) (fun hp w W => c33 _ _ _ _ _ _ _ (by exact ⟨(by exact Sl.of_own W (k := 16) rfl (fun _ => rfl)), (by exact Sl.of_own W (k := 17) rfl (fun _ => rfl))⟩) (by exact ⟨(by exact Sl.of_own W (k := 14) rfl (fun _ => rfl)), (by exact Sl.of_own W (k := 15) rfl (fun _ => rfl))⟩) (by assumption) (by assumption))) rfl ?_; clear S a; intro a S)
          rw [rw_lxy] at S
          rw [rw_d] at S
          (refine q_yt S rfl rfl (Yr.ys (ys_ldA ⟨Try.isAgg36, Try.sizeOf36⟩ (Ev.t rfl) (k := 6) rfl rfl)) rfl ?_; clear S a; intro a S)
          (refine q_yt S rfl rfl (Yr.ys (ys_ldA ⟨Try.isAgg36, Try.sizeOf36⟩ (Ev.t rfl) (k := 10) rfl rfl)) rfl ?_; clear S a; intro a S)
          (refine q_yt S rfl rfl (ys_call Try.call26 (EvL.cons (Ev.t rfl) (EvL.cons (Ev.t rfl) EvL.nil)) (fun hp w W => c26 _ _ _ _ _ _ _ (by exact ⟨(by exact Sl.of_own W (k := 7) rfl (fun _ => rfl)), (by exact Sl.of_own W (k := 8) rfl (fun _ => rfl))⟩) (by exact ⟨(by exact Sl.of_own W (k := 14) rfl (fun _ => rfl)), (by exact Sl.of_own W (k := 15) rfl (fun _ => rfl))⟩))) rfl ?_; clear S a; intro a S)
          rw [rw_d] at S
          (refine q_yt S rfl rfl (Yr.ys (ys_neqB Try.underlying4 (Ev.t rfl) (Ev.t rfl))) rfl ?_; clear S a; intro a S)
          (refine q_y S (Yr.ys (ys_pickF (Ev.t rfl) (Ev.t rfl))) rfl ?_; clear S a; intro a S)
          (refine q_nil ?_; intro w W; replace S := St.mk S W; clear W)
          (refine (then_normal (hK2 _ _ ?_)); clear hK2)
          refine st_else S (Ev.t rfl) ?_
          refine wp_skip ?_
          (refine (then_normal (hK1 _ _ ?_)); clear hK1)
          refine wp_seq_k fun _ hK1 => ?_
          refine wp_region_lit ?_
          (refine st_y S (Yr.ys (ys_ldA ⟨Try.isAgg36, Try.sizeOf36⟩ (Ev.t rfl) (k := 6) rfl rfl)) rfl ?_; clear S a w; intro a w S)
          (refine st_y S (Yr.ys (ys_ldA ⟨Try.isAgg36, Try.sizeOf36⟩ (Ev.t rfl) (k := 9) rfl rfl)) rfl ?_; clear S a w; intro a w S)
          (refine st_m (op_calls S Try.call51 (EvL.cons (Ev.t rfl) (EvL.cons (Ev.t rfl) EvL.nil)) (c51 _ _ _ _ _ _ _ (by exact ⟨(by exact Sl.of_own S.wd (k := 7) rfl (fun _ => rfl)), (by exact Sl.of_own S.wd (k := 8) rfl (fun _ => rfl))⟩) (by exact ⟨(by exact Sl.of_own S.wd (k := 12) rfl (fun _ => rfl)), (by exact Sl.of_own S.wd (k := 13) rfl (fun _ => rfl))⟩)) rfl ?_); clear S a w; rintro _ _ ⟨A17, c18, A27, c215, rfl, rfl⟩ a w S)
          rw [rw_pz] at S
          (refine st_y S (Yr.ys (ys_move (Ev.t rfl))) rfl ?_; clear S a w; intro a w S)
          (refine st_y S (Yr.ys (ys_ext (Ev.t rfl) rfl)) rfl ?_; clear S a w; intro a w S)
          (refine st_y S (Yr.ys (ys_ext (Ev.t rfl) rfl)) rfl ?_; clear S a w; intro a w S)
          (refine st_m (op_alloc S Try.zeroValue36 (cs := _) rfl rfl ?_); clear S a w; intro g7 a w S)
          (refine st_m (op_stW S Try.sizeOf36 (Ev.t rfl) (Ev.t rfl) (k := 0) rfl rfl rfl (by simp [Value.oneCell']) ?_); clear S a w; intro a w S)
          (refine st_y S (Yr.ys (ys_assign (Ev.t rfl))) rfl ?_; clear S a w; intro a w S)
          refine st_nil ?_
          (refine (then_normal (hK1 _ _ ?_)); clear hK1)
          refine wp_seq_k fun _ hK1 => ?_
          refine wp_region_lit ?_
          (refine st_y S (Yr.ys (ys_ldA ⟨Try.isAgg36, Try.sizeOf36⟩ (Ev.t rfl) (k := 13) rfl rfl)) rfl ?_; clear S a w; intro a w S)
          (refine st_y S (Yr.ys (ys_ldA ⟨Try.isAgg36, Try.sizeOf36⟩ (Ev.t rfl) (k := 12) rfl rfl)) rfl ?_; clear S a w; intro a w S)
          (refine st_m (op_calls S Try.call51 (EvL.cons (Ev.t rfl) (EvL.cons (Ev.t rfl) EvL.nil)) (c51 _ _ _ _ _ _ _ (by exact ⟨(by exact Sl.of_own S.wd (k := 17) rfl (fun _ => rfl)), (by exact Sl.of_own S.wd (k := 18) rfl (fun _ => rfl))⟩) (by exact ⟨(by exact Sl.of_own S.wd (k := 15) rfl (fun _ => rfl)), (by exact Sl.of_own S.wd (k := 16) rfl (fun _ => rfl))⟩)) rfl ?_); clear S a w; rintro _ _ ⟨A18, c110, A28, c216, rfl, rfl⟩ a w S)
          rw [rw_yz] at S
          (refine st_y S (Yr.ys (ys_move (Ev.t rfl))) rfl ?_; clear S a w; intro a w S)
          (refine st_y S (Yr.ys (ys_ext (Ev.t rfl) rfl)) rfl ?_; clear S a w; intro a w S)
          (refine st_y S (Yr.ys (ys_ext (Ev.t rfl) rfl)) rfl ?_; clear S a w; intro a w S)
          (refine st_m (op_alloc S Try.zeroValue36 (cs := _) rfl rfl ?_); clear S a w; intro g8 a w S)
          (refine st_m (op_stW S Try.sizeOf36 (Ev.t rfl) (Ev.t rfl) (k := 0) rfl rfl rfl (by simp [Value.oneCell']) ?_); clear S a w; intro a w S)
          (refine st_y S (Yr.ys (ys_assign (Ev.t rfl))) rfl ?_; clear S a w; intro a w S)
          refine st_nil ?_
          (refine (then_normal (hK1 _ _ ?_)); clear hK1)
          refine wp_seq_k fun _ hK1 => ?_
          refine wp_seq_k fun _ hK2 => ?_
          refine wp_region_lit ?_
          (refine st_y S (Yr.ys (ys_move (Ev.t rfl))) rfl ?_; clear S a w; intro a w S)
          (refine st_y S (Yr.ys (ys_F (by omega) (ys_neq (Ev.t rfl) Ev.c))) rfl ?_; clear S a w; intro a w S)
          (refine st_y S (Yr.ys (ys_move (Ev.t rfl))) rfl ?_; clear S a w; intro a w S)
          (refine st_yt S rfl rfl (Yr.ys (ys_move (Ev.t rfl))) rfl ?_; clear S a w; intro a w S)
          (refine st_yt S rfl rfl (Yr.ys (ys_F (by omega) (ys_neq (Ev.t rfl) Ev.c))) rfl ?_; clear S a w; intro a w S)
          (refine st_y S (Yr.ys (ys_pickF (Ev.t rfl) (Ev.t rfl))) rfl ?_; clear S a w; intro a w S)
          refine st_nil ?_
          (refine (then_normal (hK2 _ _ ?_)); clear hK2)
          refine st_else S (Ev.t rfl) ?_
          refine wp_skip ?_
          (refine (then_normal (hK1 _ _ ?_)); clear hK1)
          refine wp_seq_k fun _ hK1 => ?_
          refine wp_region_lit ?_
          (refine st_y S (Yr.ys (ys_ldA ⟨Try.isAgg36, Try.sizeOf36⟩ (Ev.t rfl) (k := 17) rfl rfl)) rfl ?_; clear S a w; intro a w S)
          (refine st_y S (Yr.ys (ys_ldA ⟨Try.isAgg36, Try.sizeOf36⟩ (Ev.t rfl) (k := 0) rfl rfl)) rfl ?_; clear S a w; intro a w S)
          (refine st_m (op_calls S Try.call51 (EvL.cons (Ev.t rfl) (EvL.cons (Ev.t rfl) EvL.nil)) (c51 _ _ _ _ _ _ _ (by exact ⟨(by exact Sl.of_own S.wd (k := 22) rfl (fun _ => rfl)), (by exact Sl.of_own S.wd (k := 23) rfl (fun _ => rfl))⟩) (by exact ⟨(by exact Sl.of_own S.wd (k := 1) rfl (fun _ => rfl)), (by exact Sl.of_own S.wd (k := 2) rfl (fun _ => rfl))⟩)) rfl ?_); clear S a w; rintro _ _ ⟨A19, c115, A29, c217, rfl, rfl⟩ a w S)
          rw [rw_xt] at S
          (refine st_y S (Yr.ys (ys_move (Ev.t rfl))) rfl ?_; clear S a w; intro a w S)
          (refine st_y S (Yr.ys (ys_ext (Ev.t rfl) rfl)) rfl ?_; clear S a w; intro a w S)
          (refine st_y S (Yr.ys (ys_ext (Ev.t rfl) rfl)) rfl ?_; clear S a w; intro a w S)
          (refine st_m (op_alloc S Try.zeroValue36 (cs := _) rfl rfl ?_); clear S a w; intro g9 a w S)
          (refine st_m (op_stW S Try.sizeOf36 (Ev.t rfl) (Ev.t rfl) (k := 0) rfl rfl rfl (by simp [Value.oneCell']) ?_); clear S a w; intro a w S)
          (refine st_y S (Yr.ys (ys_assign (Ev.t rfl))) rfl ?_; clear S a w; intro a w S)
          refine st_nil ?_
          (refine (then_normal (hK1 _ _ ?_)); clear hK1)
          refine wp_seq_k fun _ hK1 => ?_
          refine wp_region_lit ?_
          (refine st_y S (Yr.ys (ys_move (Ev.t rfl))) rfl ?_; clear S a w; intro a w S)
          (refine st_y S (Yr.ys (ys_T (by omega) (ys_eql (Ev.t rfl) Ev.c))) rfl ?_; clear S a w; intro a w S)
          (refine st_y S (Yr.ys (ys_move (Ev.t rfl))) rfl ?_; clear S a w; intro a w S)
          (refine st_yt S rfl rfl (Yr.ys (ys_ldA ⟨Try.isAgg36, Try.sizeOf36⟩ (Ev.t rfl) (k := 6) rfl rfl)) rfl ?_; clear S a w; intro a w S)
          (refine st_yt S rfl rfl (Yr.ys (ys_ldA ⟨Try.isAgg36, Try.sizeOf36⟩ (Ev.t rfl) (k := 0) rfl rfl)) rfl ?_; clear S a w; intro a w S)
          (refine st_yt S rfl rfl (ys_call Try.call26 (EvL.cons (Ev.t rfl) (EvL.cons (Ev.t rfl) EvL.nil)) (fun hp w W => c26 _ _ _ _ _ _ _ (by exact ⟨(by exact Sl.of_own W (k := 7) rfl (fun _ => rfl)), (by exact Sl.of_own W (k := 8) rfl (fun _ => rfl))⟩) (by exact ⟨(by exact Sl.of_own W (k := 1) rfl (fun _ => rfl)), (by exact Sl.of_own W (k := 2) rfl (fun _ => rfl))⟩))) rfl ?_; clear S a w; intro a w S)
          rw [rw_s] at S
          (refine st_y S (Yr.ys (ys_pickT (Ev.t rfl) (Ev.t rfl))) rfl ?_; clear S a w; intro a w S)
          (refine st_y S (Yr.ys (ys_assign (Ev.t rfl))) rfl ?_; clear S a w; intro a w S)
          refine st_nil ?_
          (refine (then_normal (hK1 _ _ ?_)); clear hK1)
          refine wp_ret ?_
          refine st_ret S (results1 S Try.results11 (Rv.tmp rfl)) ?_
          exact ⟨rfl, S.wd.below⟩
end Go.Proofs.Ytjfeeiljinbmjaa
