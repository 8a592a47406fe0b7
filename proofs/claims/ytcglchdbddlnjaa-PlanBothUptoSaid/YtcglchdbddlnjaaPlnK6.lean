/- Contracts and laws that the statement Pln leans on, part 6. -/
import Derived.Test.YtcglchdbddlnjaaPlnK5
set_option linter.unusedVariables false
set_option linter.unusedSimpArgs false
set_option maxRecDepth 100000
set_option maxHeartbeats 4000000
namespace Go.Proofs.Ytcglchdbddlnjaa
open Go.Fw Go.Proofs Go.RowKit
theorem c8 (w0 : World) (p c s : Int) (v : Value) (l : List Mbr) (h : Sl Mbr.enc 4 w0 w0.heap.size v l) (hn : l.length ≤ 1048576) (p' c' s' : Int) (v' : Value) (l' : List Mbr) (h' : Sl Mbr.enc 4 w0 w0.heap.size v' l') (hn' : l'.length ≤ 1048576) (n : Int) :
    Calls Try.prog 8 #[.agg #[.int .i64 p, .int .i64 c, .int .i64 s, v], .agg #[.int .i64 p', .int .i64 c', .int .i64 s', v'], .int .i64 n] w0 fun e w' => e = .returned (.bool true) ∧ Bel w0.heap.size w0 w' := by
  have rw_4 : ∀ l : List Int, decide (l = l) = true := fun i => decide_eq_true rfl
  have rw_5 : ∀ i : Int, decide (i = i) = true := fun i => decide_eq_true rfl
  refine enter3 Try.func8 rfl Try.ntmps8 rfl fun a S => ?_
  refine wp_seq_k fun _ hK1 => ?_
  refine wp_region_lit ?_
  (refine st_m (op_box S (Ev.t rfl) rfl ?_); clear S a; intro g1 a w S)
  (refine st_m (op_box S (Ev.t rfl) rfl ?_); clear S a w; intro g2 a w S)
  (refine st_y S (Yr.ys (ys_assign Ev.c)) rfl ?_; clear S a w; intro a w S)
  refine st_nil ?_
  (refine (then_normal (hK1 _ _ ?_)); clear hK1)
  refine wp_seq_k fun _ hK1 => ?_
  (refine h_begin0 S (by kernel_rfl) ?_; clear S a w; intro a w S)
  (refine h_y (i := 0) S (by repeat (first | exact List.Sublist.refl _ | exact List.nil_sublist _ | refine .cons_cons _ ?_ | refine .cons _ ?_)) rfl (by kernel_rfl) (by kernel_rfl) (by kernel_rfl) (fun _ _ _ _ h => h) (ys_ldA ⟨Try.isAgg24, Try.sizeOf24⟩ (Ev.t rfl) (k := 1) rfl rfl) rfl ?_; clear S a w; intro a w S)
  (refine h_y (i := 2) S (by repeat (first | exact List.Sublist.refl _ | exact List.nil_sublist _ | refine .cons_cons _ ?_ | refine .cons _ ?_)) rfl (by kernel_rfl) (by kernel_rfl) (by kernel_rfl) (fun _ _ _ _ h => h) (ys_ldA ⟨Try.isAgg24, Try.sizeOf24⟩ (Ev.t rfl) (k := 0) rfl rfl) rfl ?_; clear S a w; intro a w S)
  (refine h_y (i := 4) S (by repeat (first | exact List.Sublist.refl _ | exact List.nil_sublist _ | refine .cons_cons _ ?_ | refine .cons _ ?_)) rfl (by kernel_rfl) (by kernel_rfl) (by kernel_rfl) (fun _ _ _ _ h => h) (ys_move (Ev.t rfl)) rfl ?_; clear S a w; intro a w S)
  (refine h_m (i := 1) rfl (by kernel_rfl) (op_calls S Try.call19 (EvL.cons (Ev.t rfl) EvL.nil) (c19 _ _ _ _ _ _ (by exact .old S.wd (by assumption)) (by omega)) rfl ?_); clear S a w; rintro _ _ ⟨A1, cp1, rfl, rfl⟩ a w S; refine h_on S _ (by repeat (first | exact List.Sublist.refl _ | exact List.nil_sublist _ | refine .cons_cons _ ?_ | refine .cons _ ?_)) (List.Sublist.refl _) ?_)
  (refine h_m (i := 3) rfl (by kernel_rfl) (op_calls S Try.call19 (EvL.cons (Ev.t rfl) EvL.nil) (c19 _ _ _ _ _ _ (by exact .old S.wd (by assumption)) (by omega)) rfl ?_); clear S a w; rintro _ _ ⟨A2, cp2, rfl, rfl⟩ a w S; refine h_on S _ (by repeat (first | exact List.Sublist.refl _ | exact List.nil_sublist _ | refine .cons_cons _ ?_ | refine .cons _ ?_)) (List.Sublist.refl _) ?_)
  (refine h_m (i := 5) rfl (by kernel_rfl) (op_calls S Try.call35 (EvL.cons (Ev.t rfl) (EvL.cons (Ev.t rfl) (EvL.cons (Ev.t rfl) EvL.nil))) (c35 _ _ _ _ _ _ (by exact Sl.of_own S.wd (k := 1) rfl (fun _ => rfl)) (by omega) _ _ _ _ _ (by exact Sl.of_own S.wd (k := 0) rfl (fun _ => rfl)) (by omega) _) rfl ?_); clear S a w; rintro _ _ ⟨A3, cp3, rfl, rfl⟩ a w S; refine h_on S _ (by repeat (first | exact List.Sublist.refl _ | exact List.nil_sublist _ | refine .cons_cons _ ?_ | refine .cons _ ?_)) (List.Sublist.refl _) ?_)
  (refine h_y (i := 6) S (by repeat (first | exact List.Sublist.refl _ | exact List.nil_sublist _ | refine .cons_cons _ ?_ | refine .cons _ ?_)) rfl (by kernel_rfl) (by kernel_rfl) (by kernel_rfl) (fun _ _ _ _ h => h) (ys_move (Ev.t rfl)) rfl ?_; clear S a w; intro a w S)
  (refine h_y (i := 7) S (by repeat (first | exact List.Sublist.refl _ | exact List.nil_sublist _ | refine .cons_cons _ ?_ | refine .cons _ ?_)) rfl (by kernel_rfl) (by kernel_rfl) (by kernel_rfl) (fun _ _ _ _ h => h) (ys_ext (Ev.t rfl) rfl) rfl ?_; clear S a w; intro a w S)
  (refine h_y (i := 8) S (by repeat (first | exact List.Sublist.refl _ | exact List.nil_sublist _ | refine .cons_cons _ ?_ | refine .cons _ ?_)) rfl (by kernel_rfl) (by kernel_rfl) (by kernel_rfl) (fun _ _ _ _ h => h) (ys_ext (Ev.t rfl) rfl) rfl ?_; clear S a w; intro a w S)
  (refine h_y (i := 9) S (by repeat (first | exact List.Sublist.refl _ | exact List.nil_sublist _ | refine .cons_cons _ ?_ | refine .cons _ ?_)) rfl (by kernel_rfl) (by kernel_rfl) (by kernel_rfl) (fun _ _ _ _ h => h) (ys_assign (Ev.t rfl)) rfl ?_; clear S a w; intro a w S)
  (refine h_y (i := 10) S (by repeat (first | exact List.Sublist.refl _ | exact List.nil_sublist _ | refine .cons_cons _ ?_ | refine .cons _ ?_)) rfl (by kernel_rfl) (by kernel_rfl) (by kernel_rfl) (fun _ _ _ _ h => h) (ys_assign (Ev.t rfl)) rfl ?_; clear S a w; intro a w S)
  refine h_done (by kernel_rfl) ?_
  (refine (then_normal (hK1 _ _ ?_)); clear hK1)
  refine wp_seq_k fun _ hK1 => ?_
  (refine h_begin0 S (by kernel_rfl) ?_; clear S a w; intro a w S)
  (refine h_y (i := 0) S (by repeat (first | exact List.Sublist.refl _ | exact List.nil_sublist _ | refine .cons_cons _ ?_ | refine .cons _ ?_)) rfl (by kernel_rfl) (by kernel_rfl) (by kernel_rfl) (fun _ _ _ _ h => h) (ys_ldA ⟨Try.isAgg24, Try.sizeOf24⟩ (Ev.t rfl) (k := 3) rfl rfl) rfl ?_; clear S a w; intro a w S)
  (refine h_y (i := 2) S (by repeat (first | exact List.Sublist.refl _ | exact List.nil_sublist _ | refine .cons_cons _ ?_ | refine .cons _ ?_)) rfl (by kernel_rfl) (by kernel_rfl) (by kernel_rfl) (fun _ _ _ _ h => h) (ys_ldA ⟨Try.isAgg24, Try.sizeOf24⟩ (Ev.t rfl) (k := 4) rfl rfl) rfl ?_; clear S a w; intro a w S)
  (refine h_y (i := 4) S (by repeat (first | exact List.Sublist.refl _ | exact List.nil_sublist _ | refine .cons_cons _ ?_ | refine .cons _ ?_)) rfl (by kernel_rfl) (by kernel_rfl) (by kernel_rfl) (fun _ _ _ _ h => h) (ys_move (Ev.t rfl)) rfl ?_; clear S a w; intro a w S)
  (refine h_m (i := 1) rfl (by kernel_rfl) (op_calls S Try.call19 (EvL.cons (Ev.t rfl) EvL.nil) (c19 _ _ _ _ _ _ (by exact .old S.wd (by assumption)) (by omega)) rfl ?_); clear S a w; rintro _ _ ⟨A4, cp4, rfl, rfl⟩ a w S; refine h_on S _ (by repeat (first | exact List.Sublist.refl _ | exact List.nil_sublist _ | refine .cons_cons _ ?_ | refine .cons _ ?_)) (List.Sublist.refl _) ?_)
  (refine h_m (i := 3) rfl (by kernel_rfl) (op_calls S Try.call19 (EvL.cons (Ev.t rfl) EvL.nil) (c19 _ _ _ _ _ _ (by exact .old S.wd (by assumption)) (by omega)) rfl ?_); clear S a w; rintro _ _ ⟨A5, cp5, rfl, rfl⟩ a w S; refine h_on S _ (by repeat (first | exact List.Sublist.refl _ | exact List.nil_sublist _ | refine .cons_cons _ ?_ | refine .cons _ ?_)) (List.Sublist.refl _) ?_)
  (refine h_m (i := 5) rfl (by kernel_rfl) (op_calls S Try.call36 (EvL.cons (Ev.t rfl) (EvL.cons (Ev.t rfl) (EvL.cons (Ev.t rfl) EvL.nil))) (c36 _ _ _ _ _ _ (by exact Sl.of_own S.wd (k := 1) rfl (fun _ => rfl)) (by omega) _ _ _ _ _ (by exact Sl.of_own S.wd (k := 0) rfl (fun _ => rfl)) (by omega) _) rfl ?_); clear S a w; rintro _ _ ⟨A6, cp6, rfl, rfl⟩ a w S; refine h_on S _ (by repeat (first | exact List.Sublist.refl _ | exact List.nil_sublist _ | refine .cons_cons _ ?_ | refine .cons _ ?_)) (List.Sublist.refl _) ?_)
  (refine h_y (i := 6) S (by repeat (first | exact List.Sublist.refl _ | exact List.nil_sublist _ | refine .cons_cons _ ?_ | refine .cons _ ?_)) rfl (by kernel_rfl) (by kernel_rfl) (by kernel_rfl) (fun _ _ _ _ h => h) (ys_move (Ev.t rfl)) rfl ?_; clear S a w; intro a w S)
  (refine h_y (i := 7) S (by repeat (first | exact List.Sublist.refl _ | exact List.nil_sublist _ | refine .cons_cons _ ?_ | refine .cons _ ?_)) rfl (by kernel_rfl) (by kernel_rfl) (by kernel_rfl) (fun _ _ _ _ h => h) (ys_ext (Ev.t rfl) rfl) rfl ?_; clear S a w; intro a w S)
  (refine h_y (i := 8) S (by repeat (first | exact List.Sublist.refl _ | exact List.nil_sublist _ | refine .cons_cons _ ?_ | refine .cons _ ?_)) rfl (by kernel_rfl) (by kernel_rfl) (by kernel_rfl) (fun _ _ _ _ h => h) (ys_ext (Ev.t rfl) rfl) rfl ?_; clear S a w; intro a w S)
  (refine h_y (i := 9) S (by repeat (first | exact List.Sublist.refl _ | exact List.nil_sublist _ | refine .cons_cons _ ?_ | refine .cons _ ?_)) rfl (by kernel_rfl) (by kernel_rfl) (by kernel_rfl) (fun _ _ _ _ h => h) (ys_assign (Ev.t rfl)) rfl ?_; clear S a w; intro a w S)
  (refine h_y (i := 10) S (by repeat (first | exact List.Sublist.refl _ | exact List.nil_sublist _ | refine .cons_cons _ ?_ | refine .cons _ ?_)) rfl (by kernel_rfl) (by kernel_rfl) (by kernel_rfl) (fun _ _ _ _ h => h) (ys_assign (Ev.t rfl)) rfl ?_; clear S a w; intro a w S)
  refine h_done (by kernel_rfl) ?_
  (refine (then_normal (hK1 _ _ ?_)); clear hK1)
  refine wp_seq_k fun _ hK1 => ?_
  refine wp_region_lit ?_
  (refine st_y S (Yr.ys (ys_move (Ev.t rfl))) rfl ?_; clear S a w; intro a w S)
  (refine st_y S (Yr.ys (ys_move (Ev.t rfl))) rfl ?_; clear S a w; intro a w S)
  (refine st_y S (Yr.ys (ys_T (by omega) (ys_eql (Ev.t rfl) (Ev.t rfl)))) rfl ?_; clear S a w; intro a w S)
  (refine st_y S (Yr.ys (ys_move (Ev.t rfl))) rfl ?_; clear S a w; intro a w S)
  (refine st_yt S rfl rfl (Yr.ys (ys_move (Ev.t rfl))) rfl ?_; clear S a w; intro a w S)
  (refine st_yt S rfl rfl (Yr.ys (ys_move (Ev.t rfl))) rfl ?_; clear S a w; intro a w S)
  (refine st_yt S rfl rfl (ys_call Try.call32 (EvL.cons (Ev.t rfl) (EvL.cons (Ev.t rfl) EvL.nil)) (fun hp w W => c32 _ _ _ _ _ (by exact Sl.of_own W (k := 3) rfl (fun _ => rfl)) (by exact Sl.of_own W (k := 0) rfl (fun _ => rfl)))) rfl ?_; clear S a w; intro a w S)
  simp only [List.nil_append] at S
  (refine st_y S (Yr.ys (ys_pickT (Ev.t rfl) (Ev.t rfl))) rfl ?_; clear S a w; intro a w S)
  (refine st_y S (Yr.ys (ys_move (Ev.t rfl))) rfl ?_; clear S a w; intro a w S)
  (refine st_yt S rfl rfl (ys_call Try.call21 EvL.nil (fun hp w W => c21 _)) rfl ?_; clear S a w; intro a w S)
  (refine st_y S (Yr.ys (ys_pickT (Ev.t rfl) (Ev.t rfl))) rfl ?_; clear S a w; intro a w S)
  (refine st_y S (Yr.ys (ys_assign (Ev.t rfl))) rfl ?_; clear S a w; intro a w S)
  refine st_nil ?_
  (refine (then_normal (hK1 _ _ ?_)); clear hK1)
  refine wp_ret ?_
  refine st_ret S (results1 S Try.results8 (Rv.tmp rfl)) ?_
  exact ⟨rfl, S.wd.below⟩
end Go.Proofs.Ytcglchdbddlnjaa
set_option linter.unusedVariables false
set_option linter.unusedSimpArgs false
set_option maxRecDepth 100000
set_option maxHeartbeats 4000000
namespace Go.Fw
theorem sum_set {l : List Int} {i : Nat} {y : Int} (h : l[i]? = some y) (z : Int) : (l.set i z).sum = l.sum - y + z := by
  induction l generalizing i with
  | nil => simp at h
  | cons a r ih =>
    cases i with
    | zero => simp at h; subst h; simp; omega
    | succ i => simp at h; simp [ih h]; omega
theorem bump_sum {l ns : List Int} (hl : l.length = 8) (hn : ∀ x ∈ ns, 0 ≤ x ∧ x < 8) : (bumpL l ns).sum = l.sum + ns.length := by
  induction ns using snocInd with
  | h0 => simp [bumpL]
  | h1 ns n ih =>
    rw [bumpL_snoc]
    have h8 := hn n (by simp)
    have hlen := bumpL_len l ns
    obtain ⟨y, hy⟩ : ∃ y, (bumpL l ns)[n.toNat]? = some y := ⟨_, List.getElem?_eq_getElem (by omega)⟩
    rw [sum_set hy, ih fun x hx => hn x (by simp [hx]), List.getD_eq_getElem?_getD, hy]
    simp
    omega
theorem bump_zero {l ns : List Int} {i : Nat} (h : l[i]? = some 0) (hn : ∀ x ∈ ns, x.toNat ≠ i) : (bumpL l ns)[i]? = some 0 := by
  induction ns using snocInd with
  | h0 => exact h
  | h1 ns n ih =>
    rw [bumpL_snoc, List.getElem?_set_ne (hn n (by simp))]
    exact ih fun x hx => hn x (by simp [hx])
theorem owners_many {r : Rng} {q : Int} (hc : r.can) (hs : startOk q r.parts) : (ownersR r q).length = min r.copies.toNat (inR r).length := by
  unfold ownersR
  rw [if_pos ⟨hc, hs⟩, List.length_take, walkR_len]
theorem load_sum {r : Rng} (hc : r.can) : ∀ k : Nat, (k : Int) ≤ r.parts → (loadTo r k).sum = (k : Int) * ((min r.copies.toNat (inR r).length : Nat) : Int)
  | 0, _ => by simp [loadTo]
  | k + 1, h => by
    rw [loadTo_next, bump_sum (loadTo_len r k) fun x hx => mem_inR (mem_owners hx), load_sum hc k (by omega), owners_many hc ⟨hc.1.1, by omega, by omega⟩]
    rw [show ((k + 1 : Nat) : Int) = (k : Int) + 1 by omega, Int.add_mul]
    omega
theorem load_in {r : Rng} {i : Nat} (hi : i < 8) (hn : (i : Int) ∉ inR r) : ∀ k : Nat, (loadTo r k)[i]? = some 0
  | 0 => by
    show (List.replicate 8 (0 : Int))[i]? = some 0
    rw [List.getElem?_replicate, if_pos hi]
  | k + 1 => by
    rw [loadTo_next]
    exact bump_zero (load_in hi hn k) fun x hx e => hn (by
      have := mem_inR (mem_owners hx)
      rw [show (i : Int) = x by omega]
      exact mem_owners hx)
theorem take_sum {ld : List Int} {m : Nat} (hl : ld.length = 8) (hb : ∀ x ∈ ld, 0 ≤ x ∧ x ≤ 8 * (m : Int)) : ∀ k : Nat, 0 ≤ (ld.take k).sum ∧ (ld.take k).sum ≤ 64 * (m : Int) := by
  have key : ∀ l : List Int, (∀ x ∈ l, 0 ≤ x ∧ x ≤ 8 * (m : Int)) → 0 ≤ l.sum ∧ l.sum ≤ l.length * (8 * (m : Int)) := by
    intro l
    induction l with
    | nil => intro _; simp
    | cons a r ih =>
      intro h
      have h1 := h a (by simp)
      have h2 := ih fun x hx => h x (by simp [hx])
      rw [List.sum_cons, List.length_cons, Int.natCast_add, Int.add_mul]
      omega
  intro k
  have h1 := key (ld.take k) fun x hx => hb x (List.mem_of_mem_take hx)
  refine ⟨h1.1, Int.le_trans h1.2 ?_⟩
  have : (ld.take k).length ≤ 8 := by rw [List.length_take]; omega
  have h3 : ((ld.take k).length : Int) * (8 * (m : Int)) ≤ 8 * (8 * (m : Int)) := Int.mul_le_mul_of_nonneg_right (by omega) (by omega)
  omega
end Go.Fw
namespace Go.Proofs.Ytcglchdbddlnjaa
open Go.Fw Go.Proofs Go.RowKit
theorem c7 (w0 : World) (p c s : Int) (v : Value) (l : List Mbr) (h : Sl Mbr.enc 4 w0 w0.heap.size v l) (hn : l.length ≤ 1048576) :
    Calls Try.prog 7 #[.agg #[.int .i64 p, .int .i64 c, .int .i64 s, v]] w0 fun e w' => e = .returned (.bool true) ∧ Bel w0.heap.size w0 w' := by
  by_cases hc : shapeP p c s ∧ goodL l
  rotate_left
  · have rw_l : loadR ⟨p, c, s, l⟩ = ([], 60) := if_neg hc
    refine enter1 Try.func7 rfl Try.ntmps7 rfl fun a S => ?_
    refine wp_seq_k fun _ hK1 => ?_
    refine wp_region_lit ?_
    (refine st_m (op_box S (Ev.t rfl) rfl ?_); clear S a; intro g1 a w S)
    (refine st_y S (Yr.ys (ys_assign Ev.c)) rfl ?_; clear S a w; intro a w S)
    refine st_nil ?_
    (refine (then_normal (hK1 _ _ ?_)); clear hK1)
    refine wp_seq_k fun _ hK1 => ?_
    refine wp_region_lit ?_
    (refine st_y S (Yr.ys (ys_ldA ⟨Try.isAgg24, Try.sizeOf24⟩ (Ev.t rfl) (k := 0) rfl rfl)) rfl ?_; clear S a w; intro a w S)
    (refine st_m (op_calls S Try.call19 (EvL.cons (Ev.t rfl) EvL.nil) (c19 _ _ _ _ _ _ (by exact .old S.wd (by assumption)) (by omega)) rfl ?_); clear S a w; rintro _ _ ⟨A1, cp1, rfl, rfl⟩ a w S)
    (refine st_m (op_calls S Try.call33 (EvL.cons (Ev.t rfl) EvL.nil) (c33 _ _ _ _ _ _ (by exact Sl.of_own S.wd (k := 0) rfl (fun _ => rfl)) (by omega)) rfl ?_); clear S a w; rintro _ _ ⟨A2, cp2, rfl, rfl⟩ a w S)
    rw [rw_l] at S
    (refine st_y S (Yr.ys (ys_move (Ev.t rfl))) rfl ?_; clear S a w; intro a w S)
    (refine st_y S (Yr.ys (ys_ext (Ev.t rfl) rfl)) rfl ?_; clear S a w; intro a w S)
    (refine st_y S (Yr.ys (ys_ext (Ev.t rfl) rfl)) rfl ?_; clear S a w; intro a w S)
    (refine st_y S (Yr.ys (ys_assign (Ev.t rfl))) rfl ?_; clear S a w; intro a w S)
    (refine st_y S (Yr.ys (ys_assign (Ev.t rfl))) rfl ?_; clear S a w; intro a w S)
    refine st_nil ?_
    (refine (then_normal (hK1 _ _ ?_)); clear hK1)
    refine wp_seq_k fun _ hK1 => ?_
    refine wp_seq_k fun _ hK2 => ?_
    refine wp_region_lit ?_
    (refine st_y S (Yr.ys (ys_move (Ev.t rfl))) rfl ?_; clear S a w; intro a w S)
    (refine st_y S (Yr.ys (ys_T (by omega) (ys_neq (Ev.t rfl) Ev.c))) rfl ?_; clear S a w; intro a w S)
    (refine st_y S (Yr.ys (ys_move (Ev.t rfl))) rfl ?_; clear S a w; intro a w S)
    (refine st_skip S rfl rfl rfl rfl ?_; clear S a w; intro a w S)
    (refine st_skip S rfl rfl rfl rfl ?_; clear S a w; intro a w S)
    (refine st_y S (Yr.ys (ys_pickT (Ev.t rfl) Ev.c)) rfl ?_; clear S a w; intro a w S)
    refine st_nil ?_
    (refine (then_normal (hK2 _ _ ?_)); clear hK2)
    refine st_then S (Ev.t rfl) ?_
    refine wp_seq_k fun _ hK2 => ?_
    refine wp_region_lit ?_
    (refine st_y S (ys_call Try.call21 EvL.nil (fun hp w W => c21 _)) rfl ?_; clear S a w; intro a w S)
    (refine st_y S (Yr.ys (ys_assign (Ev.t rfl))) rfl ?_; clear S a w; intro a w S)
    refine st_nil ?_
    (refine (then_normal (hK2 _ _ ?_)); clear hK2)
    refine wp_ret ?_
    refine (then_ret ?_)
    refine st_ret S (results1 S Try.results7 (Rv.tmp rfl)) ?_
    exact ⟨rfl, S.wd.below⟩
  have hca : (⟨p, c, s, l⟩ : Rng).can := hc
  have hp := parts_le hc.1.1
  obtain ⟨pn, rfl⟩ : ∃ m : Nat, p = m := ⟨p.toNat, by omega⟩
  obtain ⟨cn, rfl⟩ : ∃ m : Nat, c = m := ⟨c.toNat, by have := hc.1.2.1; omega⟩
  have rw_l : loadR ⟨pn, cn, s, l⟩ = (loadTo ⟨pn, cn, s, l⟩ pn, 0) := by unfold loadR; rw [if_pos hca]; simp
  have hsum := load_sum hca pn (Int.le_refl _)
  have hlen := loadTo_len ⟨pn, cn, s, l⟩ pn
  have hbd := loadTo_bound ⟨pn, cn, s, l⟩ pn
  have hin : ∀ i : Nat, i < 8 → (i : Int) ∉ inR ⟨pn, cn, s, l⟩ → (loadTo ⟨pn, cn, s, l⟩ pn)[i]? = some 0 := fun i hi hn => load_in hi hn pn
  have h8 := inR_le ⟨pn, cn, s, l⟩
  have rw_l1 : (loadR ⟨pn, cn, s, l⟩).1 = loadTo ⟨pn, cn, s, l⟩ pn := by rw [rw_l]
  have rw_l2 : (loadR ⟨pn, cn, s, l⟩).2 = 0 := by rw [rw_l]
  clear rw_l
  generalize loadTo ⟨pn, cn, s, l⟩ pn = ld at *
  have rw_l3 : (ld.length : Int) = 8 := by omega
  refine enter1 Try.func7 rfl Try.ntmps7 rfl fun a S => ?_
  refine wp_seq_k fun _ hK1 => ?_
  refine wp_region_lit ?_
  (refine st_m (op_box S (Ev.t rfl) rfl ?_); clear S a; intro g1 a w S)
  (refine st_y S (Yr.ys (ys_assign Ev.c)) rfl ?_; clear S a w; intro a w S)
  refine st_nil ?_
  (refine (then_normal (hK1 _ _ ?_)); clear hK1)
  refine wp_seq_k fun _ hK1 => ?_
  refine wp_region_lit ?_
  (refine st_y S (Yr.ys (ys_ldA ⟨Try.isAgg24, Try.sizeOf24⟩ (Ev.t rfl) (k := 0) rfl rfl)) rfl ?_; clear S a w; intro a w S)
  (refine st_m (op_calls S Try.call19 (EvL.cons (Ev.t rfl) EvL.nil) (c19 _ _ _ _ _ _ (by exact .old S.wd (by assumption)) (by omega)) rfl ?_); clear S a w; rintro _ _ ⟨A1, cp1, rfl, rfl⟩ a w S)
  (refine st_m (op_calls S Try.call33 (EvL.cons (Ev.t rfl) EvL.nil) (c33 _ _ _ _ _ _ (by exact Sl.of_own S.wd (k := 0) rfl (fun _ => rfl)) (by omega)) rfl ?_); clear S a w; rintro _ _ ⟨A2, cp2, rfl, rfl⟩ a w S)
  rw [rw_l2] at S
  rw [rw_l1] at S
  (refine st_y S (Yr.ys (ys_move (Ev.t rfl))) rfl ?_; clear S a w; intro a w S)
  (refine st_y S (Yr.ys (ys_ext (Ev.t rfl) rfl)) rfl ?_; clear S a w; intro a w S)
  (refine st_y S (Yr.ys (ys_ext (Ev.t rfl) rfl)) rfl ?_; clear S a w; intro a w S)
  (refine st_y S (Yr.ys (ys_assign (Ev.t rfl))) rfl ?_; clear S a w; intro a w S)
  (refine st_y S (Yr.ys (ys_assign (Ev.t rfl))) rfl ?_; clear S a w; intro a w S)
  refine st_nil ?_
  (refine (then_normal (hK1 _ _ ?_)); clear hK1)
  refine wp_seq_k fun _ hK1 => ?_
  refine wp_seq_k fun _ hK2 => ?_
  refine wp_region_lit ?_
  (refine st_y S (Yr.ys (ys_move (Ev.t rfl))) rfl ?_; clear S a w; intro a w S)
  (refine st_y S (Yr.ys (ys_F (by omega) (ys_neq (Ev.t rfl) Ev.c))) rfl ?_; clear S a w; intro a w S)
  (refine st_y S (Yr.ys (ys_move (Ev.t rfl))) rfl ?_; clear S a w; intro a w S)
  (refine st_yt S rfl rfl (ys_call Try.call21 EvL.nil (fun hp w W => c21 _)) rfl ?_; clear S a w; intro a w S)
  (refine st_yt S rfl rfl (Yr.ys (ys_not (Ev.t rfl))) rfl ?_; clear S a w; intro a w S)
  (refine st_y S (Yr.ys (ys_pickF (Ev.t rfl) (Ev.t rfl))) rfl ?_; clear S a w; intro a w S)
  refine st_nil ?_
  (refine (then_normal (hK2 _ _ ?_)); clear hK2)
  refine st_else S (Ev.t rfl) ?_
  refine wp_skip ?_
  (refine (then_normal (hK1 _ _ ?_)); clear hK1)
  refine wp_seq_k fun _ hK1 => ?_
  refine wp_region_lit ?_
  (refine st_y S (Yr.ys (ys_assign Ev.c)) rfl ?_; clear S a w; intro a w S)
  refine st_nil ?_
  (refine (then_normal (hK1 _ _ ?_)); clear hK1)
  refine wp_seq_k fun _ hK1 => ?_
  refine wp_seq_k fun _ hK2 => ?_
  refine wp_region_lit ?_
  (refine st_y S (Yr.ys (ys_move (Ev.t rfl))) rfl ?_; clear S a w; intro a w S)
  (refine st_y S (Yr.ys (ys_lenS Try.underlying40 (Ev.t rfl))) rfl ?_; clear S a w; intro a w S)
  rw [rw_l3] at S
  (refine st_y S (Yr.ys (ys_move Ev.c)) rfl ?_; clear S a w; intro a w S)
  refine st_nil ?_
  (refine (then_normal (hK2 _ _ ?_)); clear hK2)
  refine wp_block ?_
  refine st_loopM S [5, 23] (X := Nat) (fun k => [(5, true, .int .i64 (ld.take k).sum), (23, true, .int .i64 (k : Int))])
    (fun _ => [rowOf 3 1 encI A2 cp2 ld, .blk g1 (.cells #[.int .i64 pn, .int .i64 cn, .int .i64 s, v] 24)]) (fun k => k ≤ 8) (fun k => 8 - k) 0 (Nat.zero_le _) (by repeat (first | exact Fits.nil | refine Fits.skip rfl ?_ | refine Fits.cons rfl ?_)) (by repeat (first | exact Picks.nil | (refine Picks.rest ?_; (repeat (first | exact List.Sublist.refl _ | refine List.Sublist.cons_cons _ ?_ | refine List.Sublist.cons _ ?_)); done) | refine Picks.take 0 rfl ?_ | refine Picks.take 1 rfl ?_ | refine Picks.take 2 rfl ?_ | refine Picks.take 3 rfl ?_ | refine Picks.take 4 rfl ?_ | refine Picks.take 5 rfl ?_ | refine Picks.take 6 rfl ?_ | refine Picks.take 7 rfl ?_ | refine Picks.take 8 rfl ?_ | refine Picks.take 9 rfl ?_ | refine Picks.take 10 rfl ?_ | refine Picks.take 11 rfl ?_)) ?_
  clear S
  intro k a w hk S
  have hsb := take_sum hlen hbd k
  by_cases hlt : k < 8
  · have hroom := S.wd.room (k := 0) rfl
    obtain ⟨gb, rfl⟩ := S.wd.row_at (k := 0) rfl (by omega)
    obtain ⟨x, hx⟩ : ∃ x, ld[k]? = some x := ⟨_, List.getElem?_eq_getElem (by omega)⟩
    have hxb := hbd x (List.mem_of_getElem? hx)
    have hnx : (ld.take (k + 1)).sum = (ld.take k).sum + x := by rw [List.take_add_one, hx, Option.toList_some, List.sum_append]; simp
    have rw_1 : decide (x < 0) = false := decide_eq_false (by omega)
    by_cases hx0 : 0 < x
    · have rw_2 : decide (x > 0) = true := decide_eq_true hx0
      have rw_3 : decide ((k : Int) ∈ inR ⟨pn, cn, s, l⟩) = true := decide_eq_true (Decidable.byContradiction fun hno => by
        have := hin k hlt hno
        rw [hx] at this
        injection this with this
        omega)
      refine wp_seq_k fun _ hK2 => ?_
      refine wp_region_lit ?_
      (refine st_y S (Yr.ys (ys_T (by omega) (ys_lss (Ev.t rfl) (Ev.t rfl)))) rfl ?_; clear S a w; intro a w S)
      refine st_nil ?_
      (refine (then_normal (hK2 _ _ ?_)); clear hK2)
      refine wp_seq_k fun _ hK2 => ?_
      refine st_then S (Ev.t rfl) ?_
      refine wp_skip ?_
      (refine (then_normal (hK2 _ _ ?_)); clear hK2)
      refine wp_seq_k fun _ hK2 => ?_
      refine wp_block ?_
      refine wp_seq_k fun _ hK3 => ?_
      refine wp_region_lit ?_
      (refine st_y S (Yr.ys (ys_move (Ev.t rfl))) rfl ?_; clear S a w; intro a w S)
      (refine st_y S (Yr.ys (ys_ixS Try.underlying40 Try.sizeOf3 (Ev.t rfl) (Ev.t rfl) (fun _ => by omega))) rfl ?_; clear S a w; intro a w S)
      (refine st_y S (Yr.ys (ys_ldW0 ⟨Try.isAgg3, Try.sizeOf3⟩ (Ev.t rfl) (k := 0) rfl hx (fun _ => rfl) rfl)) rfl ?_; clear S a w; intro a w S)
      (refine st_y S (Yr.ys (ys_assign (Ev.t rfl))) rfl ?_; clear S a w; intro a w S)
      (refine st_y S (Yr.ys (ys_assign (Ev.t rfl))) rfl ?_; clear S a w; intro a w S)
      refine st_nil ?_
      (refine (then_normal (hK3 _ _ ?_)); clear hK3)
      refine wp_seq_k fun _ hK3 => ?_
      refine wp_seq_k fun _ hK4 => ?_
      refine wp_region_lit ?_
      (refine st_y S (Yr.ys (ys_move (Ev.t rfl))) rfl ?_; clear S a w; intro a w S)
      (refine st_y S (Yr.ys (ys_F (by omega) (ys_lss (Ev.t rfl) Ev.c))) rfl ?_; clear S a w; intro a w S)
      (refine st_y S (Yr.ys (ys_move (Ev.t rfl))) rfl ?_; clear S a w; intro a w S)
      (refine st_yt S rfl rfl (Yr.ys (ys_move (Ev.t rfl))) rfl ?_; clear S a w; intro a w S)
      (refine st_yt S rfl rfl (Yr.ys (ys_T (by omega) (ys_gtr (Ev.t rfl) Ev.c))) rfl ?_; clear S a w; intro a w S)
      (refine st_yt S rfl rfl (Yr.ys (ys_move (Ev.t rfl))) rfl ?_; clear S a w; intro a w S)
      (refine st_yt S rfl rfl (Yr.ys (ys_ldA ⟨Try.isAgg24, Try.sizeOf24⟩ (Ev.t rfl) (k := 1) rfl rfl)) rfl ?_; clear S a w; intro a w S)
      (refine st_mg S rfl rfl (op_calls S Try.call34 (EvL.cons (Ev.t rfl) EvL.nil) (c34 _ _ _ _ _ _ (by exact .old S.wd (by assumption)) (by omega)) rfl ?_); clear S a w; rintro _ _ ⟨A2, cp3, rfl, rfl⟩ a w S)
      (refine st_yt S rfl rfl (Yr.ys (ys_move (Ev.t rfl))) rfl ?_; clear S a w; intro a w S)
      (refine st_yt S rfl rfl (ys_call Try.call28 (EvL.cons (Ev.t rfl) (EvL.cons (Ev.t rfl) EvL.nil)) (fun hp w W => c28 _ _ _ _ (by exact Sl.of_own W (k := 0) rfl (fun _ => rfl)))) rfl ?_; clear S a w; intro a w S)
      rw [rw_3] at S
      (refine st_yt S rfl rfl (Yr.ys (ys_not (Ev.t rfl))) rfl ?_; clear S a w; intro a w S)
      (refine st_yt S rfl rfl (Yr.ys (ys_pickT (Ev.t rfl) (Ev.t rfl))) rfl ?_; clear S a w; intro a w S)
      (refine st_y S (Yr.ys (ys_pickF (Ev.t rfl) (Ev.t rfl))) rfl ?_; clear S a w; intro a w S)
      refine st_nil ?_
      (refine (then_normal (hK4 _ _ ?_)); clear hK4)
      refine st_else S (Ev.t rfl) ?_
      refine wp_skip ?_
      (refine (then_normal (hK3 _ _ ?_)); clear hK3)
      refine wp_region_lit ?_
      (refine st_y S (Yr.ys (ys_move (Ev.t rfl))) rfl ?_; clear S a w; intro a w S)
      (refine st_y S (Yr.ys (ys_move (Ev.t rfl))) rfl ?_; clear S a w; intro a w S)
      (refine st_y S (Yr.ys (ys_addI (Ev.t rfl) (Ev.t rfl) (fun _ => by unfold I64; omega))) rfl ?_; clear S a w; intro a w S)
      (refine st_y S (Yr.ys (ys_assign (Ev.t rfl))) rfl ?_; clear S a w; intro a w S)
      refine st_nil ?_
      (refine (in_normal (then_normal (hK2 _ _ ?_))); clear hK2)
      refine wp_region_lit ?_
      (refine st_y S (Yr.ys (ys_addI (Ev.t rfl) Ev.c (fun _ => by unfold I64; omega))) rfl ?_; clear S a w; intro a w S)
      (refine st_y S (Yr.ys (ys_move (Ev.t rfl))) rfl ?_; clear S a w; intro a w S)
      refine st_nil ?_
      refine (then_normal ?_)
      exact ⟨k + 1, by omega, by omega, by rw [hnx]; exact S.picks (by repeat (first | exact Fits.nil | refine Fits.skip rfl ?_ | refine Fits.cons rfl ?_)) (by repeat (first | exact Picks.nil | (refine Picks.rest ?_; (repeat (first | exact List.Sublist.refl _ | refine List.Sublist.cons_cons _ ?_ | refine List.Sublist.cons _ ?_)); done) | refine Picks.take 0 rfl ?_ | refine Picks.take 1 rfl ?_ | refine Picks.take 2 rfl ?_ | refine Picks.take 3 rfl ?_ | refine Picks.take 4 rfl ?_ | refine Picks.take 5 rfl ?_ | refine Picks.take 6 rfl ?_ | refine Picks.take 7 rfl ?_ | refine Picks.take 8 rfl ?_ | refine Picks.take 9 rfl ?_ | refine Picks.take 10 rfl ?_ | refine Picks.take 11 rfl ?_))⟩
    · have rw_2 : decide (x > 0) = false := decide_eq_false hx0
      refine wp_seq_k fun _ hK2 => ?_
      refine wp_region_lit ?_
      (refine st_y S (Yr.ys (ys_T (by omega) (ys_lss (Ev.t rfl) (Ev.t rfl)))) rfl ?_; clear S a w; intro a w S)
      refine st_nil ?_
      (refine (then_normal (hK2 _ _ ?_)); clear hK2)
      refine wp_seq_k fun _ hK2 => ?_
      refine st_then S (Ev.t rfl) ?_
      refine wp_skip ?_
      (refine (then_normal (hK2 _ _ ?_)); clear hK2)
      refine wp_seq_k fun _ hK2 => ?_
      refine wp_block ?_
      refine wp_seq_k fun _ hK3 => ?_
      refine wp_region_lit ?_
      (refine st_y S (Yr.ys (ys_move (Ev.t rfl))) rfl ?_; clear S a w; intro a w S)
      (refine st_y S (Yr.ys (ys_ixS Try.underlying40 Try.sizeOf3 (Ev.t rfl) (Ev.t rfl) (fun _ => by omega))) rfl ?_; clear S a w; intro a w S)
      (refine st_y S (Yr.ys (ys_ldW0 ⟨Try.isAgg3, Try.sizeOf3⟩ (Ev.t rfl) (k := 0) rfl hx (fun _ => rfl) rfl)) rfl ?_; clear S a w; intro a w S)
      (refine st_y S (Yr.ys (ys_assign (Ev.t rfl))) rfl ?_; clear S a w; intro a w S)
      (refine st_y S (Yr.ys (ys_assign (Ev.t rfl))) rfl ?_; clear S a w; intro a w S)
      refine st_nil ?_
      (refine (then_normal (hK3 _ _ ?_)); clear hK3)
      refine wp_seq_k fun _ hK3 => ?_
      refine wp_seq_k fun _ hK4 => ?_
      refine wp_region_lit ?_
      (refine st_y S (Yr.ys (ys_move (Ev.t rfl))) rfl ?_; clear S a w; intro a w S)
      (refine st_y S (Yr.ys (ys_F (by omega) (ys_lss (Ev.t rfl) Ev.c))) rfl ?_; clear S a w; intro a w S)
      (refine st_y S (Yr.ys (ys_move (Ev.t rfl))) rfl ?_; clear S a w; intro a w S)
      (refine st_yt S rfl rfl (Yr.ys (ys_move (Ev.t rfl))) rfl ?_; clear S a w; intro a w S)
      (refine st_yt S rfl rfl (Yr.ys (ys_F (by omega) (ys_gtr (Ev.t rfl) Ev.c))) rfl ?_; clear S a w; intro a w S)
      (refine st_yt S rfl rfl (Yr.ys (ys_move (Ev.t rfl))) rfl ?_; clear S a w; intro a w S)
      (refine st_skip S rfl rfl rfl rfl ?_; clear S a w; intro a w S)
      (refine st_skip S rfl rfl rfl rfl ?_; clear S a w; intro a w S)
      (refine st_skip S rfl rfl rfl rfl ?_; clear S a w; intro a w S)
      (refine st_skip S rfl rfl rfl rfl ?_; clear S a w; intro a w S)
      (refine st_skip S rfl rfl rfl rfl ?_; clear S a w; intro a w S)
      (refine st_yt S rfl rfl (Yr.ys (ys_pickF (Ev.t rfl) Ev.c)) rfl ?_; clear S a w; intro a w S)
      (refine st_y S (Yr.ys (ys_pickF (Ev.t rfl) (Ev.t rfl))) rfl ?_; clear S a w; intro a w S)
      refine st_nil ?_
      (refine (then_normal (hK4 _ _ ?_)); clear hK4)
      refine st_else S (Ev.t rfl) ?_
      refine wp_skip ?_
      (refine (then_normal (hK3 _ _ ?_)); clear hK3)
      refine wp_region_lit ?_
      (refine st_y S (Yr.ys (ys_move (Ev.t rfl))) rfl ?_; clear S a w; intro a w S)
      (refine st_y S (Yr.ys (ys_move (Ev.t rfl))) rfl ?_; clear S a w; intro a w S)
      (refine st_y S (Yr.ys (ys_addI (Ev.t rfl) (Ev.t rfl) (fun _ => by unfold I64; omega))) rfl ?_; clear S a w; intro a w S)
      (refine st_y S (Yr.ys (ys_assign (Ev.t rfl))) rfl ?_; clear S a w; intro a w S)
      refine st_nil ?_
      (refine (in_normal (then_normal (hK2 _ _ ?_))); clear hK2)
      refine wp_region_lit ?_
      (refine st_y S (Yr.ys (ys_addI (Ev.t rfl) Ev.c (fun _ => by unfold I64; omega))) rfl ?_; clear S a w; intro a w S)
      (refine st_y S (Yr.ys (ys_move (Ev.t rfl))) rfl ?_; clear S a w; intro a w S)
      refine st_nil ?_
      refine (then_normal ?_)
      exact ⟨k + 1, by omega, by omega, by rw [hnx]; exact S.picks (by repeat (first | exact Fits.nil | refine Fits.skip rfl ?_ | refine Fits.cons rfl ?_)) (by repeat (first | exact Picks.nil | (refine Picks.rest ?_; (repeat (first | exact List.Sublist.refl _ | refine List.Sublist.cons_cons _ ?_ | refine List.Sublist.cons _ ?_)); done) | refine Picks.take 0 rfl ?_ | refine Picks.take 1 rfl ?_ | refine Picks.take 2 rfl ?_ | refine Picks.take 3 rfl ?_ | refine Picks.take 4 rfl ?_ | refine Picks.take 5 rfl ?_ | refine Picks.take 6 rfl ?_ | refine Picks.take 7 rfl ?_ | refine Picks.take 8 rfl ?_ | refine Picks.take 9 rfl ?_ | refine Picks.take 10 rfl ?_ | refine Picks.take 11 rfl ?_))⟩
  obtain rfl : k = 8 := by omega
  rw [List.take_of_length_le (by omega)] at S
  have hmul : (pn : Int) * ((min cn (inR ⟨pn, cn, s, l⟩).length : Nat) : Int) ≤ 4096 ∧ 0 ≤ (pn : Int) * ((min cn (inR ⟨pn, cn, s, l⟩).length : Nat) : Int) := by
    have h3 : (pn : Int) * ((min cn (inR ⟨pn, cn, s, l⟩).length : Nat) : Int) ≤ (pn : Int) * 8 := Int.mul_le_mul_of_nonneg_left (by omega) (by omega)
    exact ⟨by omega, Int.mul_nonneg (by omega) (by omega)⟩
  refine wp_seq_k fun _ hK2 => ?_
  refine wp_region_lit ?_
  (refine st_y S (Yr.ys (ys_F (by omega) (ys_lss (Ev.t rfl) (Ev.t rfl)))) rfl ?_; clear S a w; intro a w S)
  refine st_nil ?_
  (refine (then_normal (hK2 _ _ ?_)); clear hK2)
  refine wp_seq_k fun _ hK2 => ?_
  refine st_else S (Ev.t rfl) ?_
  refine wp_exit ?_
  (refine (then_exit (then_exit (in_here (then_normal (hK1 _ _ ?_))))); clear hK1)
  refine wp_seq_k fun _ hK1 => ?_
  (refine h_begin0 S (by kernel_rfl) ?_; clear S a w; intro a w S)
  (refine h_y (i := 0) S (by repeat (first | exact List.Sublist.refl _ | exact List.nil_sublist _ | refine .cons_cons _ ?_ | refine .cons _ ?_)) rfl (by kernel_rfl) (by kernel_rfl) (by kernel_rfl) (fun _ _ _ _ h => h) (ys_move (Ev.t rfl)) rfl ?_; clear S a w; intro a w S)
  (refine h_y (i := 1) S (by repeat (first | exact List.Sublist.refl _ | exact List.nil_sublist _ | refine .cons_cons _ ?_ | refine .cons _ ?_)) rfl (by kernel_rfl) (by kernel_rfl) (by kernel_rfl) (fun _ _ _ _ h => h) (ys_lenS Try.underlying40 (Ev.t rfl)) rfl ?_; clear S a w; intro a w S)
  rw [rw_l3] at S
  (refine h_y (i := 2) S (by repeat (first | exact List.Sublist.refl _ | exact List.nil_sublist _ | refine .cons_cons _ ?_ | refine .cons _ ?_)) rfl (by kernel_rfl) (by kernel_rfl) (by kernel_rfl) (fun _ _ _ _ h => h) (ys_T (by omega) (ys_eql (Ev.t rfl) Ev.c)) rfl ?_; clear S a w; intro a w S)
  (refine h_y (i := 3) S (by repeat (first | exact List.Sublist.refl _ | exact List.nil_sublist _ | refine .cons_cons _ ?_ | refine .cons _ ?_)) rfl (by kernel_rfl) (by kernel_rfl) (by kernel_rfl) (fun _ _ _ _ h => h) (ys_move (Ev.t rfl)) rfl ?_; clear S a w; intro a w S)
  (refine h_yt (i := 4) S (by repeat (first | exact List.Sublist.refl _ | exact List.nil_sublist _ | refine .cons_cons _ ?_ | refine .cons _ ?_)) rfl (by kernel_rfl) (by kernel_rfl) (by kernel_rfl) (fun _ _ _ _ h => h) rfl rfl (ys_move (Ev.t rfl)) rfl ?_; clear S a w; intro a w S)
  (refine h_yt (i := 5) S (by repeat (first | exact List.Sublist.refl _ | exact List.nil_sublist _ | refine .cons_cons _ ?_ | refine .cons _ ?_)) rfl (by kernel_rfl) (by kernel_rfl) (by kernel_rfl) (fun _ _ _ _ h => h) rfl rfl (ys_fieldN (FieldT.mk Try.underlying24 rfl Try.sizeOf3 rfl) (Ev.t rfl) (i' := 0) rfl) rfl ?_; clear S a w; intro a w S)
  (refine h_yt (i := 6) S (by repeat (first | exact List.Sublist.refl _ | exact List.nil_sublist _ | refine .cons_cons _ ?_ | refine .cons _ ?_)) rfl (by kernel_rfl) (by kernel_rfl) (by kernel_rfl) (fun _ _ _ _ h => h) rfl rfl (ys_ld ⟨Try.isAgg3, Try.sizeOf3⟩ (Ev.t rfl) (k := 1) rfl rfl) rfl ?_; clear S a w; intro a w S)
  (refine h_yt (i := 7) S (by repeat (first | exact List.Sublist.refl _ | exact List.nil_sublist _ | refine .cons_cons _ ?_ | refine .cons _ ?_)) rfl (by kernel_rfl) (by kernel_rfl) (by kernel_rfl) (fun _ _ _ _ h => h) rfl rfl (ys_fieldN (FieldT.mk Try.underlying24 rfl Try.sizeOf3 rfl) (Ev.t rfl) (i' := 1) rfl) rfl ?_; clear S a w; intro a w S)
  (refine h_yt (i := 8) S (by repeat (first | exact List.Sublist.refl _ | exact List.nil_sublist _ | refine .cons_cons _ ?_ | refine .cons _ ?_)) rfl (by kernel_rfl) (by kernel_rfl) (by kernel_rfl) (fun _ _ _ _ h => h) rfl rfl (ys_ld ⟨Try.isAgg3, Try.sizeOf3⟩ (Ev.t rfl) (k := 1) rfl rfl) rfl ?_; clear S a w; intro a w S)
  (refine h_yt (i := 9) S (by repeat (first | exact List.Sublist.refl _ | exact List.nil_sublist _ | refine .cons_cons _ ?_ | refine .cons _ ?_)) rfl (by kernel_rfl) (by kernel_rfl) (by kernel_rfl) (fun _ _ _ _ h => h) rfl rfl (ys_ldA ⟨Try.isAgg24, Try.sizeOf24⟩ (Ev.t rfl) (k := 1) rfl rfl) rfl ?_; clear S a w; intro a w S)
  (refine h_mg (i := 10) S rfl (by kernel_rfl) rfl rfl (op_calls S Try.call34 (EvL.cons (Ev.t rfl) EvL.nil) (c34 _ _ _ _ _ _ (by exact .old S.wd (by assumption)) (by omega)) rfl ?_); clear S a w; rintro _ _ ⟨A3, cp3, rfl, rfl⟩ a w S; refine h_on S _ (by repeat (first | exact List.Sublist.refl _ | exact List.nil_sublist _ | refine .cons_cons _ ?_ | refine .cons _ ?_)) (List.Sublist.refl _) ?_)
  (refine h_yt (i := 11) S (by repeat (first | exact List.Sublist.refl _ | exact List.nil_sublist _ | refine .cons_cons _ ?_ | refine .cons _ ?_)) rfl (by kernel_rfl) (by kernel_rfl) (by kernel_rfl) (fun _ _ _ _ h => h) rfl rfl (ys_lenS Try.underlying40 (Ev.t rfl)) rfl ?_; clear S a w; intro a w S)
  (refine h_yt (i := 12) S (by repeat (first | exact List.Sublist.refl _ | exact List.nil_sublist _ | refine .cons_cons _ ?_ | refine .cons _ ?_)) rfl (by kernel_rfl) (by kernel_rfl) (by kernel_rfl) (fun _ _ _ _ h => h) rfl rfl (ys_min (Ev.t rfl) (Ev.t rfl)) rfl ?_; clear S a w; intro a w S)
  (refine h_yt (i := 13) S (by repeat (first | exact List.Sublist.refl _ | exact List.nil_sublist _ | refine .cons_cons _ ?_ | refine .cons _ ?_)) rfl (by kernel_rfl) (by kernel_rfl) (by kernel_rfl) (fun _ _ _ _ h => h) rfl rfl (ys_mul (Ev.t rfl) (Ev.t rfl)) rfl ?_; clear S a w; intro a w S)
  (refine h_yt (i := 14) S (by repeat (first | exact List.Sublist.refl _ | exact List.nil_sublist _ | refine .cons_cons _ ?_ | refine .cons _ ?_)) rfl (by kernel_rfl) (by kernel_rfl) (by kernel_rfl) (fun _ _ _ _ h => h) rfl rfl (ys_eql (Ev.t rfl) (Ev.t rfl)) rfl ?_; clear S a w; intro a w S)
  (refine h_y (i := 15) S (by repeat (first | exact List.Sublist.refl _ | exact List.nil_sublist _ | refine .cons_cons _ ?_ | refine .cons _ ?_)) rfl (by kernel_rfl) (by kernel_rfl) (by kernel_rfl) (fun _ _ _ _ h => h) (ys_pickT (Ev.t rfl) (Ev.t rfl)) rfl ?_; clear S a w; intro a w S)
  (refine h_y (i := 16) S (by repeat (first | exact List.Sublist.refl _ | exact List.nil_sublist _ | refine .cons_cons _ ?_ | refine .cons _ ?_)) rfl (by kernel_rfl) (by kernel_rfl) (by kernel_rfl) (fun _ _ _ _ h => h) (ys_assign (Ev.t rfl)) rfl ?_; clear S a w; intro a w S)
  refine h_done (by kernel_rfl) ?_
  (refine (then_normal (hK1 _ _ ?_)); clear hK1)
  refine wp_ret ?_
  refine st_ret S (results1 S Try.results7 (Rv.tmp rfl)) ?_
  refine ⟨?_, S.wd.below⟩
  dsimp only at hsum
  rw [Int.toNat_natCast] at hsum
  rw [show min (cn : Int) ((inR ⟨pn, cn, s, l⟩).length : Int) = ((min cn (inR ⟨pn, cn, s, l⟩).length : Nat) : Int) by omega, ← hsum, show IntKind.i64.wrap ld.sum = ld.sum by rw [IntKind.wrap_i64]; omega, decide_eq_true rfl]
end Go.Proofs.Ytcglchdbddlnjaa
set_option linter.unusedVariables false
set_option linter.unusedSimpArgs false
set_option maxRecDepth 100000
set_option maxHeartbeats 4000000
namespace Go.Fw
theorem little_join {p c s n : Int} {l lw : List Mbr} (hs : shapeP p c s) (hg : goodL l) (hg' : goodL lw) (hF : inL l = (inL lw).filter fun m => !decide (m = n)) (hin : n ∈ inL lw) :
    (movesTo ⟨p, c, s, l⟩ ⟨p, c, s, lw⟩ p.toNat).Pairwise (fun x y => x.node < y.node) ∧ ∀ m ∈ movesTo ⟨p, c, s, l⟩ ⟨p, c, s, lw⟩ p.toNat, m.count = n := by
  have hc : (⟨p, c, s, l⟩ : Rng).can := ⟨hs, hg⟩
  have hc' : (⟨p, c, s, lw⟩ : Rng).can := ⟨hs, hg'⟩
  have hnd : (inL lw).Nodup := (in_rise hg').imp fun h e => by omega
  have key : ∀ q : Nat, (withoutL (ownersR ⟨p, c, s, lw⟩ q) (ownersR ⟨p, c, s, l⟩ q)).length ≤ 1 ∧ ∀ x ∈ withoutL (ownersR ⟨p, c, s, lw⟩ q) (ownersR ⟨p, c, s, l⟩ q), x = n := fun q => by
    by_cases hq : startOk (q : Int) p
    · refine join_one (W := walkR ⟨p, c, s, lw⟩ (startL q p)) ?_ ?_ c.toNat ?_ ?_
      · unfold walkR inR
        rw [if_pos hc']
        exact walk_nodup hnd
      · unfold walkR inR
        rw [if_pos hc']
        exact mem_walk.2 hin
      · unfold ownersR walkR inR
        rw [if_pos ⟨hc, hq⟩, if_pos hc, if_pos hc']
        dsimp only
        rw [hF, walk_filter hnd]
      · unfold ownersR
        rw [if_pos ⟨hc', hq⟩]
    · have e : ownersR ⟨p, c, s, lw⟩ q = [] := by unfold ownersR; rw [if_neg fun h => hq h.2]
      rw [e]
      exact ⟨Nat.zero_le _, fun x hx => by simp at hx⟩
  refine ⟨movesTo_rise fun q _ => movesAt_one (key q).1, fun m hm => ?_⟩
  obtain ⟨q, h1, h2⟩ := mem_movesTo hm
  have h3 := mem_movesAt h2
  exact (key q).2 _ (List.mem_filter.2 ⟨h3.2.2.1, by simpa using h3.2.2.2⟩)
theorem little_leave {p c s n : Int} {l lw : List Mbr} (hs : shapeP p c s) (hg : goodL l) (hg' : goodL lw) (hF : inL lw = (inL l).filter fun m => !decide (m = n)) (hin : n ∈ inL l) :
    (movesTo ⟨p, c, s, l⟩ ⟨p, c, s, lw⟩ p.toNat).Pairwise (fun x y => x.node < y.node) ∧ ∀ m ∈ movesTo ⟨p, c, s, l⟩ ⟨p, c, s, lw⟩ p.toNat, m.count ≠ n ∧ m.life = n := by
  have hc : (⟨p, c, s, l⟩ : Rng).can := ⟨hs, hg⟩
  have hc' : (⟨p, c, s, lw⟩ : Rng).can := ⟨hs, hg'⟩
  have hnd : (inL l).Nodup := (in_rise hg).imp fun h e => by omega
  have key : ∀ q : Nat, (withoutL (ownersR ⟨p, c, s, lw⟩ q) (ownersR ⟨p, c, s, l⟩ q)).length ≤ 1 ∧ ∀ m ∈ movesAt (ownersR ⟨p, c, s, l⟩ q) (ownersR ⟨p, c, s, lw⟩ q) q, m.count ≠ n ∧ m.life = n := fun q => by
    by_cases hq : startOk (q : Int) p
    · refine leave_one (W := walkR ⟨p, c, s, l⟩ (startL q p)) ?_ ?_ c.toNat ?_ ?_ _
      · unfold walkR inR
        rw [if_pos hc]
        exact walk_nodup hnd
      · unfold walkR inR
        rw [if_pos hc]
        exact mem_walk.2 hin
      · unfold ownersR
        rw [if_pos ⟨hc, hq⟩]
      · unfold ownersR walkR inR
        rw [if_pos ⟨hc', hq⟩, if_pos hc, if_pos hc']
        dsimp only
        rw [hF, walk_filter hnd]
    · have e : ownersR ⟨p, c, s, l⟩ q = [] := by unfold ownersR; rw [if_neg fun h => hq h.2]
      have e' : ownersR ⟨p, c, s, lw⟩ q = [] := by unfold ownersR; rw [if_neg fun h => hq h.2]
      rw [e, e']
      exact ⟨Nat.zero_le _, fun x hx => by simp [movesAt] at hx⟩
  refine ⟨movesTo_rise fun q _ => movesAt_one (key q).1, fun m hm => ?_⟩
  obtain ⟨q, h1, h2⟩ := mem_movesTo hm
  exact (key q).2 _ h2
theorem rise_at {M : List Dot} {k : Nat} {x y : Dot} (h : M.Pairwise (fun x y => x.node < y.node)) (hx : M[k]? = some x) (hy : M[k + 1]? = some y) : x.node < y.node := by
  obtain ⟨h1, e1⟩ := List.getElem?_eq_some_iff.1 hx
  obtain ⟨h2, e2⟩ := List.getElem?_eq_some_iff.1 hy
  have := List.pairwise_iff_getElem.1 h k (k + 1) h1 h2 (by omega)
  rw [e1, e2] at this
  exact this
theorem moves_ok {p c s : Int} {l lw : List Mbr} (hs : shapeP p c s) (hg : goodL l) (hg' : goodL lw) : movesR ⟨p, c, s, l⟩ ⟨p, c, s, lw⟩ = (movesTo ⟨p, c, s, l⟩ ⟨p, c, s, lw⟩ p.toNat, 0) := by
  unfold movesR
  rw [if_pos ⟨⟨hs, hg⟩, ⟨hs, hg'⟩, rfl, rfl, rfl⟩]
end Go.Fw
namespace Go.Proofs.Ytcglchdbddlnjaa
open Go.Fw Go.Proofs Go.RowKit
theorem c4 (w0 : World) (p c s n : Int) (v : Value) (l : List Mbr) (h : Sl Mbr.enc 4 w0 w0.heap.size v l) (hn : l.length ≤ 1048576) :
    Calls Try.prog 4 #[.agg #[.int .i64 p, .int .i64 c, .int .i64 s, v], .int .i64 n] w0 fun e w' => e = .returned (.bool true) ∧ Bel w0.heap.size w0 w' := by
  by_cases hj : (joinR ⟨p, c, s, l⟩ n).2 = 0
  · obtain ⟨⟨hs, hg⟩, x, hab, hxn, hst, hx1, hee⟩ := join_above hj
    dsimp only at hs hg hab hee hst
    obtain ⟨sr, hsr⟩ : ∃ sr, joinR ⟨p, c, s, l⟩ n = (⟨p, c, s, withL l x⟩, sr) := ⟨_, Prod.ext hee rfl⟩
    rw [hsr] at hj
    dsimp only at hj
    subst hj
    subst hxn
    have rw_e := hsr
    have hw8 := withL_len l x
    have hg' := withL_good hg hab.1
    obtain ⟨hF, hin⟩ := in_join hg hab.1 hx1 hst
    clear hee hsr
    generalize withL l x = lw at *
    generalize x.node = n at *
    clear hab hx1 hst
    have rw_m := moves_ok hs hg hg'
    obtain ⟨hR, hN⟩ := little_join hs hg hg' hF hin
    have hMl := movesTo_len ⟨p, c, s, l⟩ ⟨p, c, s, lw⟩ p.toNat
    have hp := parts_le hs.1
    generalize movesTo ⟨p, c, s, l⟩ ⟨p, c, s, lw⟩ p.toNat = M at *
    refine enter2 Try.func4 rfl Try.ntmps4 rfl fun a S => ?_
    refine wp_seq_k fun _ hK1 => ?_
    refine wp_region_lit ?_
    (refine st_m (op_box S (Ev.t rfl) rfl ?_); clear S a; intro g1 a w S)
    (refine st_y S (Yr.ys (ys_assign Ev.c)) rfl ?_; clear S a w; intro a w S)
    refine st_nil ?_
    (refine (then_normal (hK1 _ _ ?_)); clear hK1)
    refine wp_seq_k fun _ hK1 => ?_
    refine wp_region_lit ?_
    (refine st_y S (Yr.ys (ys_ldA ⟨Try.isAgg24, Try.sizeOf24⟩ (Ev.t rfl) (k := 0) rfl rfl)) rfl ?_; clear S a w; intro a w S)
    (refine st_y S (Yr.ys (ys_move (Ev.t rfl))) rfl ?_; clear S a w; intro a w S)
    (refine st_m (op_calls S Try.call22 (EvL.cons (Ev.t rfl) (EvL.cons (Ev.t rfl) EvL.nil)) (c22 _ _ _ _ _ _ _ (by exact .old S.wd (by assumption)) (by omega)) rfl ?_); clear S a w; rintro _ _ ⟨A1, cp1, rfl, rfl⟩ a w S)
    rw [rw_e] at S
    (refine st_y S (Yr.ys (ys_move (Ev.t rfl))) rfl ?_; clear S a w; intro a w S)
    (refine st_y S (Yr.ys (ys_ext (Ev.t rfl) rfl)) rfl ?_; clear S a w; intro a w S)
    (refine st_y S (Yr.ys (ys_ext (Ev.t rfl) rfl)) rfl ?_; clear S a w; intro a w S)
    (refine st_m (op_alloc S Try.zeroValue24 (cs := _) rfl rfl ?_); clear S a w; intro g2 a w S)
    (refine st_m (op_stW S Try.sizeOf24 (Ev.t rfl) (Ev.t rfl) (k := 0) rfl rfl rfl (by simp [Value.oneCell']) ?_); clear S a w; intro a w S)
    (refine st_y S (Yr.ys (ys_assign (Ev.t rfl))) rfl ?_; clear S a w; intro a w S)
    refine st_nil ?_
    (refine (then_normal (hK1 _ _ ?_)); clear hK1)
    refine wp_seq_k fun _ hK1 => ?_
    refine wp_region_lit ?_
    (refine st_y S (Yr.ys (ys_move (Ev.t rfl))) rfl ?_; clear S a w; intro a w S)
    (refine st_y S (Yr.ys (ys_T (by omega) (ys_eql (Ev.t rfl) Ev.c))) rfl ?_; clear S a w; intro a w S)
    (refine st_y S (Yr.ys (ys_assign (Ev.t rfl))) rfl ?_; clear S a w; intro a w S)
    refine st_nil ?_
    (refine (then_normal (hK1 _ _ ?_)); clear hK1)
    refine wp_seq_k fun _ hK1 => ?_
    refine wp_seq_k fun _ hK2 => ?_
    refine wp_region_lit ?_
    (refine st_y S (Yr.ys (ys_move (Ev.t rfl))) rfl ?_; clear S a w; intro a w S)
    (refine st_y S (Yr.ys (ys_not (Ev.t rfl))) rfl ?_; clear S a w; intro a w S)
    refine st_nil ?_
    (refine (then_normal (hK2 _ _ ?_)); clear hK2)
    refine st_else S (Ev.t rfl) ?_
    refine wp_skip ?_
    (refine (then_normal (hK1 _ _ ?_)); clear hK1)
    refine wp_seq_k fun _ hK1 => ?_
    refine wp_seq_k fun _ hK2 => ?_
    refine wp_region_lit ?_
    (refine st_y S (Yr.ys (ys_move (Ev.t rfl))) rfl ?_; clear S a w; intro a w S)
    (refine st_y S (Yr.ys (ys_F (by omega) (ys_neq (Ev.t rfl) Ev.c))) rfl ?_; clear S a w; intro a w S)
    (refine st_y S (Yr.ys (ys_move (Ev.t rfl))) rfl ?_; clear S a w; intro a w S)
    (refine st_yt S rfl rfl (ys_call Try.call21 EvL.nil (fun hp w W => c21 _)) rfl ?_; clear S a w; intro a w S)
    (refine st_yt S rfl rfl (Yr.ys (ys_not (Ev.t rfl))) rfl ?_; clear S a w; intro a w S)
    (refine st_y S (Yr.ys (ys_pickF (Ev.t rfl) (Ev.t rfl))) rfl ?_; clear S a w; intro a w S)
    refine st_nil ?_
    (refine (then_normal (hK2 _ _ ?_)); clear hK2)
    refine st_else S (Ev.t rfl) ?_
    refine wp_skip ?_
    (refine (then_normal (hK1 _ _ ?_)); clear hK1)
    refine wp_seq_k fun _ hK1 => ?_
    (refine h_begin0 S (by kernel_rfl) ?_; clear S a w; intro a w S)
    (refine h_y (i := 0) S (by repeat (first | exact List.Sublist.refl _ | exact List.nil_sublist _ | refine .cons_cons _ ?_ | refine .cons _ ?_)) rfl (by kernel_rfl) (by kernel_rfl) (by kernel_rfl) (fun _ _ _ _ h => h) (ys_ldA ⟨Try.isAgg24, Try.sizeOf24⟩ (Ev.t rfl) (k := 2) rfl rfl) rfl ?_; clear S a w; intro a w S)
    (refine h_y (i := 2) S (by repeat (first | exact List.Sublist.refl _ | exact List.nil_sublist _ | refine .cons_cons _ ?_ | refine .cons _ ?_)) rfl (by kernel_rfl) (by kernel_rfl) (by kernel_rfl) (fun _ _ _ _ h => h) (ys_ldA ⟨Try.isAgg24, Try.sizeOf24⟩ (Ev.t rfl) (k := 0) rfl rfl) rfl ?_; clear S a w; intro a w S)
    (refine h_m (i := 1) rfl (by kernel_rfl) (op_calls S Try.call19 (EvL.cons (Ev.t rfl) EvL.nil) (c19 _ _ _ _ _ _ (by exact .old S.wd (by assumption)) (by omega)) rfl ?_); clear S a w; rintro _ _ ⟨A2, cp2, rfl, rfl⟩ a w S; refine h_on S _ (by repeat (first | exact List.Sublist.refl _ | exact List.nil_sublist _ | refine .cons_cons _ ?_ | refine .cons _ ?_)) (List.Sublist.refl _) ?_)
    simp only [List.nil_append] at S
    (refine h_m (i := 3) rfl (by kernel_rfl) (op_calls S Try.call18 (EvL.cons (Ev.t rfl) (EvL.cons (Ev.t rfl) EvL.nil)) (c18 _ _ _ _ _ _ (by exact Sl.of_own S.wd (k := 0) rfl (fun _ => rfl)) (by omega) _ _ _ _ _ (by exact Sl.of_own S.wd (k := 2) rfl (fun _ => rfl)) (by omega)) rfl ?_); clear S a w; rintro _ _ ⟨A3, cp3, rfl, rfl⟩ a w S; refine h_on S _ (by repeat (first | exact List.Sublist.refl _ | exact List.nil_sublist _ | refine .cons_cons _ ?_ | refine .cons _ ?_)) (List.Sublist.refl _) ?_)
    rw [rw_m] at S ⊢
    (refine h_y (i := 4) S (by repeat (first | exact List.Sublist.refl _ | exact List.nil_sublist _ | refine .cons_cons _ ?_ | refine .cons _ ?_)) rfl (by kernel_rfl) (by kernel_rfl) (by kernel_rfl) (fun _ _ _ _ h => h) (ys_move (Ev.t rfl)) rfl ?_; clear S a w; intro a w S)
    (refine h_y (i := 5) S (by repeat (first | exact List.Sublist.refl _ | exact List.nil_sublist _ | refine .cons_cons _ ?_ | refine .cons _ ?_)) rfl (by kernel_rfl) (by kernel_rfl) (by kernel_rfl) (fun _ _ _ _ h => h) (ys_ext (Ev.t rfl) rfl) rfl ?_; clear S a w; intro a w S)
    (refine h_y (i := 6) S (by repeat (first | exact List.Sublist.refl _ | exact List.nil_sublist _ | refine .cons_cons _ ?_ | refine .cons _ ?_)) rfl (by kernel_rfl) (by kernel_rfl) (by kernel_rfl) (fun _ _ _ _ h => h) (ys_ext (Ev.t rfl) rfl) rfl ?_; clear S a w; intro a w S)
    (refine h_y (i := 7) S (by repeat (first | exact List.Sublist.refl _ | exact List.nil_sublist _ | refine .cons_cons _ ?_ | refine .cons _ ?_)) rfl (by kernel_rfl) (by kernel_rfl) (by kernel_rfl) (fun _ _ _ _ h => h) (ys_assign (Ev.t rfl)) rfl ?_; clear S a w; intro a w S)
    (refine h_y (i := 8) S (by repeat (first | exact List.Sublist.refl _ | exact List.nil_sublist _ | refine .cons_cons _ ?_ | refine .cons _ ?_)) rfl (by kernel_rfl) (by kernel_rfl) (by kernel_rfl) (fun _ _ _ _ h => h) (ys_assign (Ev.t rfl)) rfl ?_; clear S a w; intro a w S)
    refine h_done (by kernel_rfl) ?_
    (refine (then_normal (hK1 _ _ ?_)); clear hK1)
    refine wp_seq_k fun _ hK1 => ?_
    refine wp_seq_k fun _ hK2 => ?_
    refine wp_region_lit ?_
    (refine st_y S (Yr.ys (ys_move (Ev.t rfl))) rfl ?_; clear S a w; intro a w S)
    (refine st_y S (Yr.ys (ys_F (by omega) (ys_neq (Ev.t rfl) Ev.c))) rfl ?_; clear S a w; intro a w S)
    refine st_nil ?_
    (refine (then_normal (hK2 _ _ ?_)); clear hK2)
    refine st_else S (Ev.t rfl) ?_
    refine wp_skip ?_
    (refine (then_normal (hK1 _ _ ?_)); clear hK1)
    refine wp_seq_k fun _ hK1 => ?_
    refine wp_seq_k fun _ hK2 => ?_
    refine wp_region_lit ?_
    (refine st_y S (Yr.ys (ys_move (Ev.t rfl))) rfl ?_; clear S a w; intro a w S)
    (refine st_y S (Yr.ys (ys_lenS Try.underlying25 (Ev.t rfl))) rfl ?_; clear S a w; intro a w S)
    (refine st_y S (Yr.ys (ys_move Ev.c)) rfl ?_; clear S a w; intro a w S)
    refine st_nil ?_
    (refine (then_normal (hK2 _ _ ?_)); clear hK2)
    refine wp_block ?_
    dsimp only at S
    refine st_loopM S [4, 45] (X := Nat) (fun k => [(45, true, .int .i64 (k : Int))])
      (fun _ => [rowOf 36 3 Dot.enc A3 cp3 M])
      (fun k => k ≤ M.length) (fun k => M.length - k) 0 (Nat.zero_le _) (by repeat (first | exact Fits.nil | refine Fits.skip rfl ?_ | refine Fits.cons rfl ?_)) (by repeat (first | exact Picks.nil | (refine Picks.rest ?_; (repeat (first | exact List.Sublist.refl _ | refine List.Sublist.cons_cons _ ?_ | refine List.Sublist.cons _ ?_)); done) | refine Picks.take 0 rfl ?_ | refine Picks.take 1 rfl ?_ | refine Picks.take 2 rfl ?_ | refine Picks.take 3 rfl ?_ | refine Picks.take 4 rfl ?_ | refine Picks.take 5 rfl ?_ | refine Picks.take 6 rfl ?_ | refine Picks.take 7 rfl ?_ | refine Picks.take 8 rfl ?_ | refine Picks.take 9 rfl ?_ | refine Picks.take 10 rfl ?_ | refine Picks.take 11 rfl ?_)) ?_
    clear S
    intro k a w hk S
    by_cases hlt : k < M.length
    rotate_left
    · obtain rfl : k = M.length := by omega
      refine wp_seq_k fun _ hK2 => ?_
      refine wp_region_lit ?_
      (refine st_y S (Yr.ys (ys_F (by omega) (ys_lss (Ev.t rfl) (Ev.t rfl)))) rfl ?_; clear S a w; intro a w S)
      refine st_nil ?_
      (refine (then_normal (hK2 _ _ ?_)); clear hK2)
      refine wp_seq_k fun _ hK2 => ?_
      refine st_else S (Ev.t rfl) ?_
      refine wp_exit ?_
      (refine (then_exit (then_exit (in_here (then_normal (hK1 _ _ ?_))))); clear hK1)
      refine wp_seq_k fun _ hK1 => ?_
      refine wp_region_lit ?_
      (refine st_y S (Yr.ys (ys_assign Ev.c)) rfl ?_; clear S a w; intro a w S)
      refine st_nil ?_
      (refine (then_normal (hK1 _ _ ?_)); clear hK1)
      refine wp_ret ?_
      refine st_ret S (results1 S Try.results4 (Rv.tmp rfl)) ?_
      exact ⟨rfl, S.wd.below⟩
    have hroom := S.wd.room (k := 0) rfl
    obtain ⟨gb, rfl⟩ := S.wd.row_at (k := 0) rfl (by omega)
    obtain ⟨⟨x0, x1, x2⟩, hx⟩ : ∃ x, M[k]? = some x := ⟨_, List.getElem?_eq_getElem hlt⟩
    have hx2 := hN ⟨x0, x1, x2⟩ (List.mem_of_getElem? hx)
    dsimp only at hx2
    subst hx2
    rcases k with _ | k
    · refine wp_seq_k fun _ hK2 => ?_
      refine wp_region_lit ?_
      (refine st_y S (Yr.ys (ys_T (by omega) (ys_lss (Ev.t rfl) (Ev.t rfl)))) rfl ?_; clear S a w; intro a w S)
      refine st_nil ?_
      (refine (then_normal (hK2 _ _ ?_)); clear hK2)
      refine wp_seq_k fun _ hK2 => ?_
      refine st_then S (Ev.t rfl) ?_
      refine wp_skip ?_
      (refine (then_normal (hK2 _ _ ?_)); clear hK2)
      refine wp_seq_k fun _ hK2 => ?_
      refine wp_block ?_
      refine wp_seq_k fun _ hK3 => ?_
      refine wp_region_lit ?_
      (refine st_y S (Yr.ys (ys_move (Ev.t rfl))) rfl ?_; clear S a w; intro a w S)
      (refine st_y S (Yr.ys (ys_ixS (j := 0) Try.underlying25 Try.sizeOf36 (Ev.t rfl) (Ev.t rfl) (fun _ => by omega))) rfl ?_; clear S a w; intro a w S)
      (refine st_y S (Yr.ys (ys_ldWA ⟨Try.isAgg36, Try.sizeOf36⟩ (Ev.t rfl) (k := 0) rfl hx (fun _ => rfl))) rfl ?_; clear S a w; intro a w S)
      (refine st_m (op_alloc S Try.zeroValue36 (cs := _) rfl rfl ?_); clear S a w; intro g3 a w S)
      (refine st_y S (Yr.ys (ys_assign (Ev.t rfl))) rfl ?_; clear S a w; intro a w S)
      (refine st_m (op_stW S Try.sizeOf36 (Ev.t rfl) (Ev.t rfl) (k := 0) rfl rfl rfl (by simp [Value.oneCell']) ?_); clear S a w; intro a w S)
      refine st_nil ?_
      (refine (then_normal (hK3 _ _ ?_)); clear hK3)
      refine wp_seq_k fun _ hK3 => ?_
      (refine st_quiet S (by kernel_rfl) (by kernel_rfl) ?_; clear S w; intro a S)
      (refine q_y S (Yr.ys (ys_move (Ev.t rfl))) rfl ?_; clear S a; intro a S)
      (refine q_y S (Yr.ys (ys_F (by omega) (ys_gtr (Ev.t rfl) Ev.c))) rfl ?_; clear S a; intro a S)
      (refine q_y S (Yr.ys (ys_move (Ev.t rfl))) rfl ?_; clear S a; intro a S)
      (refine q_skip S rfl rfl rfl rfl ?_; clear S a; intro a S)
      (refine q_skip S rfl rfl rfl rfl ?_; clear S a; intro a S)
      (refine q_skip S rfl rfl rfl rfl ?_; clear S a; intro a S)
      (refine q_skip S rfl rfl rfl rfl ?_; clear S a; intro a S)
      (refine q_skip S rfl rfl rfl rfl ?_; clear S a; intro a S)
      (refine q_skip S rfl rfl rfl rfl ?_; clear S a; intro a S)
      (refine q_skip S rfl rfl rfl rfl ?_; clear S a; intro a S)
      (refine q_skip S rfl rfl rfl rfl ?_; clear S a; intro a S)
      (refine q_skip S rfl rfl rfl rfl ?_; clear S a; intro a S)
      (refine q_y S (Yr.ys (ys_pickF (Ev.t rfl) Ev.c)) rfl ?_; clear S a; intro a S)
      (refine q_y S (Yr.ys (ys_move (Ev.t rfl))) rfl ?_; clear S a; intro a S)
      (refine q_yt S rfl rfl (Yr.ys (ys_move (Ev.t rfl))) rfl ?_; clear S a; intro a S)
      (refine q_yt S rfl rfl (Yr.ys (ys_move (Ev.t rfl))) rfl ?_; clear S a; intro a S)
      (refine q_yt S rfl rfl (Yr.ys (ys_fieldN (FieldT.mk Try.underlying36 rfl Try.sizeOf3 rfl) (Ev.t rfl) (i' := 2) rfl)) rfl ?_; clear S a; intro a S)
      (refine q_yt S rfl rfl (Yr.ys (ys_ld ⟨Try.isAgg3, Try.sizeOf3⟩ (Ev.t rfl) (k := 0) rfl rfl)) rfl ?_; clear S a; intro a S)
      (refine q_yt S rfl rfl (Yr.ys (ys_move (Ev.t rfl))) rfl ?_; clear S a; intro a S)
      (refine q_yt S rfl rfl (Yr.ys (ys_neq (Ev.t rfl) (Ev.t rfl))) rfl ?_; clear S a; intro a S)
      (refine q_yt S rfl rfl (Yr.ys (ys_pickT (Ev.t rfl) (Ev.t rfl))) rfl ?_; clear S a; intro a S)
      (refine q_y S (Yr.ys (ys_pickF (Ev.t rfl) (Ev.t rfl))) rfl ?_; clear S a; intro a S)
      (refine q_y S (Yr.ys (ys_move (Ev.t rfl))) rfl ?_; clear S a; intro a S)
      (refine q_yf S rfl rfl (Yr.ys (ys_move (Ev.t rfl))) rfl ?_; clear S a; intro a S)
      (refine q_yf S rfl rfl (Yr.ys (ys_not (Ev.g rfl))) rfl ?_; clear S a; intro a S)
      (refine q_yf S rfl rfl (Yr.ys (ys_move (Ev.g rfl))) rfl ?_; clear S a; intro a S)
      (refine q_yg2 S rfl rfl (Yr.ys (ys_fieldN (FieldT.mk Try.underlying36 rfl Try.sizeOf3 rfl) (Ev.t rfl) (i' := 2) rfl)) rfl ?_; clear S a; intro a S)
      (refine q_yg2 S rfl rfl (Yr.ys (ys_ld ⟨Try.isAgg3, Try.sizeOf3⟩ (Ev.g rfl) (k := 0) rfl rfl)) rfl ?_; clear S a; intro a S)
      (refine q_yg2 S rfl rfl (Yr.ys (ys_move (Ev.t rfl))) rfl ?_; clear S a; intro a S)
      (refine q_yg2 S rfl rfl (Yr.ys (ys_eql (Ev.g rfl) (Ev.g rfl))) rfl ?_; clear S a; intro a S)
      (refine q_yg2 S rfl rfl (Yr.ys (ys_move (Ev.g rfl))) rfl ?_; clear S a; intro a S)
      (refine q_yf2 S rfl rfl (Yr.ys (ys_fieldN (FieldT.mk Try.underlying36 rfl Try.sizeOf3 rfl) (Ev.t rfl) (i' := 1) rfl)) rfl ?_; clear S a; intro a S)
      (refine q_yf2 S rfl rfl (Yr.ys (ys_ld ⟨Try.isAgg3, Try.sizeOf3⟩ (Ev.g rfl) (k := 0) rfl rfl)) rfl ?_; clear S a; intro a S)
      (refine q_yf2 S rfl rfl (Yr.ys (ys_move (Ev.t rfl))) rfl ?_; clear S a; intro a S)
      (refine q_yf2 S rfl rfl (Yr.ys (ys_neq (Ev.g rfl) (Ev.g rfl))) rfl ?_; clear S a; intro a S)
      (refine q_yg2 S rfl rfl (Yr.ys (ys_or2 (Ev.g rfl) Ev.c (Ev.g rfl))) rfl ?_; clear S a; intro a S)
      (refine q_yf S rfl rfl (Yr.ys (ys_pickF (Ev.g rfl) Ev.c)) rfl ?_; clear S a; intro a S)
      (refine q_y S (Yr.ys (ys_orF (Ev.t rfl) Ev.c (Ev.g rfl))) rfl ?_; clear S a; intro a S)
      (refine q_nil ?_; intro w W; replace S := St.mk S W; clear W)
      (refine (then_normal (hK3 _ _ ?_)); clear hK3)
      refine st_if S (Ev.t rfl) (fun h1 => ?_) (fun h1 => ?_)
      refine wp_seq_k fun _ hK3 => ?_
      refine wp_region_lit ?_
      (refine st_y S (Yr.ys (ys_assign Ev.c)) rfl ?_; clear S a w; intro a w S)
      refine st_nil ?_
      (refine (then_normal (hK3 _ _ ?_)); clear hK3)
      refine wp_ret ?_
      refine (in_ret (then_ret (then_ret (in_ret (then_ret ?_)))))
      refine st_ret S (results1 S Try.results4 (Rv.tmp rfl)) ?_
      rotate_left
      refine wp_skip ?_
      (refine (in_normal (then_normal (hK2 _ _ ?_))); clear hK2)
      refine wp_region_lit ?_
      (refine st_y S (Yr.ys (ys_addI (Ev.t rfl) Ev.c (fun _ => by unfold I64; omega))) rfl ?_; clear S a w; intro a w S)
      (refine st_y S (Yr.ys (ys_move (Ev.t rfl))) rfl ?_; clear S a w; intro a w S)
      refine st_nil ?_
      refine (then_normal ?_)
      rotate_left
      · exact absurd rfl h1
      · exact ⟨1, by omega, by omega, S.picks (by repeat (first | exact Fits.nil | refine Fits.skip rfl ?_ | refine Fits.cons rfl ?_)) (by repeat (first | exact Picks.nil | (refine Picks.rest ?_; (repeat (first | exact List.Sublist.refl _ | refine List.Sublist.cons_cons _ ?_ | refine List.Sublist.cons _ ?_)); done) | refine Picks.take 0 rfl ?_ | refine Picks.take 1 rfl ?_ | refine Picks.take 2 rfl ?_ | refine Picks.take 3 rfl ?_ | refine Picks.take 4 rfl ?_ | refine Picks.take 5 rfl ?_ | refine Picks.take 6 rfl ?_ | refine Picks.take 7 rfl ?_ | refine Picks.take 8 rfl ?_ | refine Picks.take 9 rfl ?_ | refine Picks.take 10 rfl ?_ | refine Picks.take 11 rfl ?_))⟩
    · obtain ⟨⟨y0, y1, y2⟩, hy⟩ : ∃ x, M[k]? = some x := ⟨_, List.getElem?_eq_getElem (by omega)⟩
      have hxy := rise_at hR hy hx
      dsimp only at hxy
      have rw_1 : decide (y0 ≥ x0) = false := decide_eq_false (by omega)
      have rw_2 : decide ((0 : Int) < ((k + 1 : Nat) : Int)) = true := decide_eq_true (by omega)
      have rw_3 : decide (((k + 1 : Nat) : Int) > (0 : Int)) = true := decide_eq_true (by omega)
      have rw_4 : ((k + 1 : Nat) : Int) - 1 = (k : Int) := by omega
      refine wp_seq_k fun _ hK2 => ?_
      refine wp_region_lit ?_
      (refine st_y S (Yr.ys (ys_T (by omega) (ys_lss (Ev.t rfl) (Ev.t rfl)))) rfl ?_; clear S a w; intro a w S)
      refine st_nil ?_
      (refine (then_normal (hK2 _ _ ?_)); clear hK2)
      refine wp_seq_k fun _ hK2 => ?_
      refine st_then S (Ev.t rfl) ?_
      refine wp_skip ?_
      (refine (then_normal (hK2 _ _ ?_)); clear hK2)
      refine wp_seq_k fun _ hK2 => ?_
      refine wp_block ?_
      refine wp_seq_k fun _ hK3 => ?_
      refine wp_region_lit ?_
      (refine st_y S (Yr.ys (ys_move (Ev.t rfl))) rfl ?_; clear S a w; intro a w S)
      (refine st_y S (Yr.ys (ys_ixS Try.underlying25 Try.sizeOf36 (Ev.t rfl) (Ev.t rfl) (fun _ => by omega))) rfl ?_; clear S a w; intro a w S)
      (refine st_y S (Yr.ys (ys_ldWA ⟨Try.isAgg36, Try.sizeOf36⟩ (Ev.t rfl) (k := 0) rfl hx (fun _ => rfl))) rfl ?_; clear S a w; intro a w S)
      (refine st_m (op_alloc S Try.zeroValue36 (cs := _) rfl rfl ?_); clear S a w; intro g3 a w S)
      (refine st_y S (Yr.ys (ys_assign (Ev.t rfl))) rfl ?_; clear S a w; intro a w S)
      (refine st_m (op_stW S Try.sizeOf36 (Ev.t rfl) (Ev.t rfl) (k := 0) rfl rfl rfl (by simp [Value.oneCell']) ?_); clear S a w; intro a w S)
      refine st_nil ?_
      (refine (then_normal (hK3 _ _ ?_)); clear hK3)
      refine wp_seq_k fun _ hK3 => ?_
      (refine st_quiet S (by kernel_rfl) (by kernel_rfl) ?_; clear S w; intro a S)
      (refine q_y S (Yr.ys (ys_move (Ev.t rfl))) rfl ?_; clear S a; intro a S)
      (refine q_y S (Yr.ys (ys_T (by omega) (ys_gtr (Ev.t rfl) Ev.c))) rfl ?_; clear S a; intro a S)
      (refine q_y S (Yr.ys (ys_move (Ev.t rfl))) rfl ?_; clear S a; intro a S)
      (refine q_yt S rfl rfl (Yr.ys (ys_move (Ev.t rfl))) rfl ?_; clear S a; intro a S)
      (refine q_yt S rfl rfl (Yr.ys (ys_move (Ev.t rfl))) rfl ?_; clear S a; intro a S)
      (refine q_yt S rfl rfl (Yr.ys (ys_pred (Ev.t rfl) Ev.c (by omega))) rfl ?_; clear S a; intro a S)
      (refine q_yt S rfl rfl (Yr.ys (ys_ixS Try.underlying25 Try.sizeOf36 (Ev.t rfl) (Ev.t rfl) (fun _ => by omega))) rfl ?_; clear S a; intro a S)
      (refine q_yt S rfl rfl (Yr.ys (ys_field (FieldT.mk Try.underlying36 rfl Try.sizeOf3 rfl) (Ev.t rfl))) rfl ?_; clear S a; intro a S)
      (refine q_yt S rfl rfl (Yr.ys (ys_ldW ⟨Try.isAgg3, Try.sizeOf3⟩ (Ev.t rfl) (k := 1) rfl hy (fun _ => rfl) rfl)) rfl ?_; clear S a; intro a S)
      (refine q_yt S rfl rfl (Yr.ys (ys_fieldN (FieldT.mk Try.underlying36 rfl Try.sizeOf3 rfl) (Ev.t rfl) (i' := 0) rfl)) rfl ?_; clear S a; intro a S)
      (refine q_yt S rfl rfl (Yr.ys (ys_ld ⟨Try.isAgg3, Try.sizeOf3⟩ (Ev.t rfl) (k := 0) rfl rfl)) rfl ?_; clear S a; intro a S)
      (refine q_yt S rfl rfl (Yr.ys (ys_geq (Ev.t rfl) (Ev.t rfl))) rfl ?_; clear S a; intro a S)
      rw [rw_1] at S
      (refine q_y S (Yr.ys (ys_pickT (Ev.t rfl) (Ev.t rfl))) rfl ?_; clear S a; intro a S)
      (refine q_y S (Yr.ys (ys_move (Ev.t rfl))) rfl ?_; clear S a; intro a S)
      (refine q_yt S rfl rfl (Yr.ys (ys_move (Ev.t rfl))) rfl ?_; clear S a; intro a S)
      (refine q_yt S rfl rfl (Yr.ys (ys_move (Ev.t rfl))) rfl ?_; clear S a; intro a S)
      (refine q_yt S rfl rfl (Yr.ys (ys_fieldN (FieldT.mk Try.underlying36 rfl Try.sizeOf3 rfl) (Ev.t rfl) (i' := 2) rfl)) rfl ?_; clear S a; intro a S)
      (refine q_yt S rfl rfl (Yr.ys (ys_ld ⟨Try.isAgg3, Try.sizeOf3⟩ (Ev.t rfl) (k := 0) rfl rfl)) rfl ?_; clear S a; intro a S)
      (refine q_yt S rfl rfl (Yr.ys (ys_move (Ev.t rfl))) rfl ?_; clear S a; intro a S)
      (refine q_yt S rfl rfl (Yr.ys (ys_neq (Ev.t rfl) (Ev.t rfl))) rfl ?_; clear S a; intro a S)
      (refine q_yt S rfl rfl (Yr.ys (ys_pickT (Ev.t rfl) (Ev.t rfl))) rfl ?_; clear S a; intro a S)
      (refine q_y S (Yr.ys (ys_pickF (Ev.t rfl) (Ev.t rfl))) rfl ?_; clear S a; intro a S)
      (refine q_y S (Yr.ys (ys_move (Ev.t rfl))) rfl ?_; clear S a; intro a S)
      (refine q_yf S rfl rfl (Yr.ys (ys_move (Ev.t rfl))) rfl ?_; clear S a; intro a S)
      (refine q_yf S rfl rfl (Yr.ys (ys_not (Ev.g rfl))) rfl ?_; clear S a; intro a S)
      (refine q_yf S rfl rfl (Yr.ys (ys_move (Ev.g rfl))) rfl ?_; clear S a; intro a S)
      (refine q_yg2 S rfl rfl (Yr.ys (ys_fieldN (FieldT.mk Try.underlying36 rfl Try.sizeOf3 rfl) (Ev.t rfl) (i' := 2) rfl)) rfl ?_; clear S a; intro a S)
      (refine q_yg2 S rfl rfl (Yr.ys (ys_ld ⟨Try.isAgg3, Try.sizeOf3⟩ (Ev.g rfl) (k := 0) rfl rfl)) rfl ?_; clear S a; intro a S)
      (refine q_yg2 S rfl rfl (Yr.ys (ys_move (Ev.t rfl))) rfl ?_; clear S a; intro a S)
      (refine q_yg2 S rfl rfl (Yr.ys (ys_eql (Ev.g rfl) (Ev.g rfl))) rfl ?_; clear S a; intro a S)
      (refine q_yg2 S rfl rfl (Yr.ys (ys_move (Ev.g rfl))) rfl ?_; clear S a; intro a S)
      (refine q_yf2 S rfl rfl (Yr.ys (ys_fieldN (FieldT.mk Try.underlying36 rfl Try.sizeOf3 rfl) (Ev.t rfl) (i' := 1) rfl)) rfl ?_; clear S a; intro a S)
      (refine q_yf2 S rfl rfl (Yr.ys (ys_ld ⟨Try.isAgg3, Try.sizeOf3⟩ (Ev.g rfl) (k := 0) rfl rfl)) rfl ?_; clear S a; intro a S)
      (refine q_yf2 S rfl rfl (Yr.ys (ys_move (Ev.t rfl))) rfl ?_; clear S a; intro a S)
      (refine q_yf2 S rfl rfl (Yr.ys (ys_neq (Ev.g rfl) (Ev.g rfl))) rfl ?_; clear S a; intro a S)
      (refine q_yg2 S rfl rfl (Yr.ys (ys_or2 (Ev.g rfl) Ev.c (Ev.g rfl))) rfl ?_; clear S a; intro a S)
      (refine q_yf S rfl rfl (Yr.ys (ys_pickF (Ev.g rfl) Ev.c)) rfl ?_; clear S a; intro a S)
      (refine q_y S (Yr.ys (ys_orF (Ev.t rfl) Ev.c (Ev.g rfl))) rfl ?_; clear S a; intro a S)
      (refine q_nil ?_; intro w W; replace S := St.mk S W; clear W)
      (refine (then_normal (hK3 _ _ ?_)); clear hK3)
      refine st_if S (Ev.t rfl) (fun h1 => ?_) (fun h1 => ?_)
      refine wp_seq_k fun _ hK3 => ?_
      refine wp_region_lit ?_
      (refine st_y S (Yr.ys (ys_assign Ev.c)) rfl ?_; clear S a w; intro a w S)
      refine st_nil ?_
      (refine (then_normal (hK3 _ _ ?_)); clear hK3)
      refine wp_ret ?_
      refine (in_ret (then_ret (then_ret (in_ret (then_ret ?_)))))
      refine st_ret S (results1 S Try.results4 (Rv.tmp rfl)) ?_
      rotate_left
      refine wp_skip ?_
      (refine (in_normal (then_normal (hK2 _ _ ?_))); clear hK2)
      refine wp_region_lit ?_
      (refine st_y S (Yr.ys (ys_addI (Ev.t rfl) Ev.c (fun _ => by unfold I64; omega))) rfl ?_; clear S a w; intro a w S)
      (refine st_y S (Yr.ys (ys_move (Ev.t rfl))) rfl ?_; clear S a w; intro a w S)
      refine st_nil ?_
      refine (then_normal ?_)
      rotate_left
      · exact absurd rfl h1
      · exact ⟨k + 1 + 1, by omega, by omega, S.picks (by repeat (first | exact Fits.nil | refine Fits.skip rfl ?_ | refine Fits.cons rfl ?_)) (by repeat (first | exact Picks.nil | (refine Picks.rest ?_; (repeat (first | exact List.Sublist.refl _ | refine List.Sublist.cons_cons _ ?_ | refine List.Sublist.cons _ ?_)); done) | refine Picks.take 0 rfl ?_ | refine Picks.take 1 rfl ?_ | refine Picks.take 2 rfl ?_ | refine Picks.take 3 rfl ?_ | refine Picks.take 4 rfl ?_ | refine Picks.take 5 rfl ?_ | refine Picks.take 6 rfl ?_ | refine Picks.take 7 rfl ?_ | refine Picks.take 8 rfl ?_ | refine Picks.take 9 rfl ?_ | refine Picks.take 10 rfl ?_ | refine Picks.take 11 rfl ?_))⟩
  have hj8 := joinR_len ⟨p, c, s, l⟩ n
  have rw_j : decide ((joinR ⟨p, c, s, l⟩ n).2 = 0) = false := decide_eq_false hj
  by_cases hv : (leaveR ⟨p, c, s, l⟩ n).2 = 0
  · obtain ⟨⟨hs, hg⟩, x, hab, hxn, hst, hx1, hee⟩ := leave_above hv
    dsimp only at hs hg hab hee hst
    obtain ⟨sr, hsr⟩ : ∃ sr, leaveR ⟨p, c, s, l⟩ n = (⟨p, c, s, withL l x⟩, sr) := ⟨_, Prod.ext hee rfl⟩
    rw [hsr] at hv
    dsimp only at hv
    subst hv
    subst hxn
    have rw_e := hsr
    have hw8 := withL_len l x
    have hg' := withL_good hg hab.1
    obtain ⟨hF, hin⟩ := in_leave hg hab.1 hx1 hst
    clear hee hsr
    generalize withL l x = lw at *
    generalize x.node = n at *
    clear hab hx1 hst
    have rw_m := moves_ok hs hg hg'
    obtain ⟨hR, hN⟩ := little_leave hs hg hg' hF hin
    have hMl := movesTo_len ⟨p, c, s, l⟩ ⟨p, c, s, lw⟩ p.toNat
    have hp := parts_le hs.1
    generalize movesTo ⟨p, c, s, l⟩ ⟨p, c, s, lw⟩ p.toNat = M at *
    refine enter2 Try.func4 rfl Try.ntmps4 rfl fun a S => ?_
    refine wp_seq_k fun _ hK1 => ?_
    refine wp_region_lit ?_
    (refine st_m (op_box S (Ev.t rfl) rfl ?_); clear S a; intro g1 a w S)
    (refine st_y S (Yr.ys (ys_assign Ev.c)) rfl ?_; clear S a w; intro a w S)
    refine st_nil ?_
    (refine (then_normal (hK1 _ _ ?_)); clear hK1)
    refine wp_seq_k fun _ hK1 => ?_
    refine wp_region_lit ?_
    (refine st_y S (Yr.ys (ys_ldA ⟨Try.isAgg24, Try.sizeOf24⟩ (Ev.t rfl) (k := 0) rfl rfl)) rfl ?_; clear S a w; intro a w S)
    (refine st_y S (Yr.ys (ys_move (Ev.t rfl))) rfl ?_; clear S a w; intro a w S)
    (refine st_m (op_calls S Try.call22 (EvL.cons (Ev.t rfl) (EvL.cons (Ev.t rfl) EvL.nil)) (c22 _ _ _ _ _ _ _ (by exact .old S.wd (by assumption)) (by omega)) rfl ?_); clear S a w; rintro _ _ ⟨A1, cp1, rfl, rfl⟩ a w S)
    (refine st_y S (Yr.ys (ys_move (Ev.t rfl))) rfl ?_; clear S a w; intro a w S)
    (refine st_y S (Yr.ys (ys_ext (Ev.t rfl) rfl)) rfl ?_; clear S a w; intro a w S)
    (refine st_y S (Yr.ys (ys_ext (Ev.t rfl) rfl)) rfl ?_; clear S a w; intro a w S)
    (refine st_m (op_alloc S Try.zeroValue24 (cs := _) rfl rfl ?_); clear S a w; intro g2 a w S)
    (refine st_m (op_stW S Try.sizeOf24 (Ev.t rfl) (Ev.t rfl) (k := 0) rfl rfl rfl (by simp [Value.oneCell']) ?_); clear S a w; intro a w S)
    (refine st_y S (Yr.ys (ys_assign (Ev.t rfl))) rfl ?_; clear S a w; intro a w S)
    refine st_nil ?_
    (refine (then_normal (hK1 _ _ ?_)); clear hK1)
    refine wp_seq_k fun _ hK1 => ?_
    refine wp_region_lit ?_
    (refine st_y S (Yr.ys (ys_move (Ev.t rfl))) rfl ?_; clear S a w; intro a w S)
    (refine st_y S (Yr.ys (ys_F (by omega) (ys_eql (Ev.t rfl) Ev.c))) rfl ?_; clear S a w; intro a w S)
    (refine st_y S (Yr.ys (ys_assign (Ev.t rfl))) rfl ?_; clear S a w; intro a w S)
    refine st_nil ?_
    (refine (then_normal (hK1 _ _ ?_)); clear hK1)
    refine wp_seq_k fun _ hK1 => ?_
    refine wp_seq_k fun _ hK2 => ?_
    refine wp_region_lit ?_
    (refine st_y S (Yr.ys (ys_move (Ev.t rfl))) rfl ?_; clear S a w; intro a w S)
    (refine st_y S (Yr.ys (ys_not (Ev.t rfl))) rfl ?_; clear S a w; intro a w S)
    refine st_nil ?_
    (refine (then_normal (hK2 _ _ ?_)); clear hK2)
    refine st_then S (Ev.t rfl) ?_
    refine wp_region_lit ?_
    (refine st_y S (Yr.ys (ys_ldA ⟨Try.isAgg24, Try.sizeOf24⟩ (Ev.t rfl) (k := 2) rfl rfl)) rfl ?_; clear S a w; intro a w S)
    (refine st_y S (Yr.ys (ys_move (Ev.t rfl))) rfl ?_; clear S a w; intro a w S)
    (refine st_m (op_calls S Try.call23 (EvL.cons (Ev.t rfl) (EvL.cons (Ev.t rfl) EvL.nil)) (c23 _ _ _ _ _ _ _ (by exact .old S.wd (by assumption)) (by omega)) rfl ?_); clear S a w; rintro _ _ ⟨A2, cp2, rfl, rfl⟩ a w S)
    rw [rw_e] at S
    (refine st_y S (Yr.ys (ys_move (Ev.t rfl))) rfl ?_; clear S a w; intro a w S)
    (refine st_y S (Yr.ys (ys_ext (Ev.t rfl) rfl)) rfl ?_; clear S a w; intro a w S)
    (refine st_y S (Yr.ys (ys_ext (Ev.t rfl) rfl)) rfl ?_; clear S a w; intro a w S)
    (refine st_m (op_stW S Try.sizeOf24 (Ev.t rfl) (Ev.t rfl) (k := 1) rfl rfl rfl (by simp [Value.oneCell']) ?_); clear S a w; intro a w S)
    (refine st_y S (Yr.ys (ys_assign (Ev.t rfl))) rfl ?_; clear S a w; intro a w S)
    refine st_nil ?_
    (refine (then_normal (hK1 _ _ ?_)); clear hK1)
    refine wp_seq_k fun _ hK1 => ?_
    refine wp_seq_k fun _ hK2 => ?_
    refine wp_region_lit ?_
    (refine st_y S (Yr.ys (ys_move (Ev.t rfl))) rfl ?_; clear S a w; intro a w S)
    (refine st_y S (Yr.ys (ys_F (by omega) (ys_neq (Ev.t rfl) Ev.c))) rfl ?_; clear S a w; intro a w S)
    (refine st_y S (Yr.ys (ys_move (Ev.t rfl))) rfl ?_; clear S a w; intro a w S)
    (refine st_yt S rfl rfl (ys_call Try.call21 EvL.nil (fun hp w W => c21 _)) rfl ?_; clear S a w; intro a w S)
    (refine st_yt S rfl rfl (Yr.ys (ys_not (Ev.t rfl))) rfl ?_; clear S a w; intro a w S)
    (refine st_y S (Yr.ys (ys_pickF (Ev.t rfl) (Ev.t rfl))) rfl ?_; clear S a w; intro a w S)
    refine st_nil ?_
    (refine (then_normal (hK2 _ _ ?_)); clear hK2)
    refine st_else S (Ev.t rfl) ?_
    refine wp_skip ?_
    (refine (then_normal (hK1 _ _ ?_)); clear hK1)
    refine wp_seq_k fun _ hK1 => ?_
    (refine h_begin0 S (by kernel_rfl) ?_; clear S a w; intro a w S)
    (refine h_y (i := 0) S (by repeat (first | exact List.Sublist.refl _ | exact List.nil_sublist _ | refine .cons_cons _ ?_ | refine .cons _ ?_)) rfl (by kernel_rfl) (by kernel_rfl) (by kernel_rfl) (fun _ _ _ _ h => h) (ys_ldA ⟨Try.isAgg24, Try.sizeOf24⟩ (Ev.t rfl) (k := 3) rfl rfl) rfl ?_; clear S a w; intro a w S)
    (refine h_y (i := 2) S (by repeat (first | exact List.Sublist.refl _ | exact List.nil_sublist _ | refine .cons_cons _ ?_ | refine .cons _ ?_)) rfl (by kernel_rfl) (by kernel_rfl) (by kernel_rfl) (fun _ _ _ _ h => h) (ys_ldA ⟨Try.isAgg24, Try.sizeOf24⟩ (Ev.t rfl) (k := 1) rfl rfl) rfl ?_; clear S a w; intro a w S)
    (refine h_m (i := 1) rfl (by kernel_rfl) (op_calls S Try.call19 (EvL.cons (Ev.t rfl) EvL.nil) (c19 _ _ _ _ _ _ (by exact .old S.wd (by assumption)) (by omega)) rfl ?_); clear S a w; rintro _ _ ⟨A3, cp3, rfl, rfl⟩ a w S; refine h_on S _ (by repeat (first | exact List.Sublist.refl _ | exact List.nil_sublist _ | refine .cons_cons _ ?_ | refine .cons _ ?_)) (List.Sublist.refl _) ?_)
    simp only [List.nil_append] at S
    (refine h_m (i := 3) rfl (by kernel_rfl) (op_calls S Try.call18 (EvL.cons (Ev.t rfl) (EvL.cons (Ev.t rfl) EvL.nil)) (c18 _ _ _ _ _ _ (by exact Sl.of_own S.wd (k := 0) rfl (fun _ => rfl)) (by omega) _ _ _ _ _ (by exact Sl.of_own S.wd (k := 1) rfl (fun _ => rfl)) (by omega)) rfl ?_); clear S a w; rintro _ _ ⟨A4, cp4, rfl, rfl⟩ a w S; refine h_on S _ (by repeat (first | exact List.Sublist.refl _ | exact List.nil_sublist _ | refine .cons_cons _ ?_ | refine .cons _ ?_)) (List.Sublist.refl _) ?_)
    rw [rw_m] at S ⊢
    (refine h_y (i := 4) S (by repeat (first | exact List.Sublist.refl _ | exact List.nil_sublist _ | refine .cons_cons _ ?_ | refine .cons _ ?_)) rfl (by kernel_rfl) (by kernel_rfl) (by kernel_rfl) (fun _ _ _ _ h => h) (ys_move (Ev.t rfl)) rfl ?_; clear S a w; intro a w S)
    (refine h_y (i := 5) S (by repeat (first | exact List.Sublist.refl _ | exact List.nil_sublist _ | refine .cons_cons _ ?_ | refine .cons _ ?_)) rfl (by kernel_rfl) (by kernel_rfl) (by kernel_rfl) (fun _ _ _ _ h => h) (ys_ext (Ev.t rfl) rfl) rfl ?_; clear S a w; intro a w S)
    (refine h_y (i := 6) S (by repeat (first | exact List.Sublist.refl _ | exact List.nil_sublist _ | refine .cons_cons _ ?_ | refine .cons _ ?_)) rfl (by kernel_rfl) (by kernel_rfl) (by kernel_rfl) (fun _ _ _ _ h => h) (ys_ext (Ev.t rfl) rfl) rfl ?_; clear S a w; intro a w S)
    (refine h_y (i := 7) S (by repeat (first | exact List.Sublist.refl _ | exact List.nil_sublist _ | refine .cons_cons _ ?_ | refine .cons _ ?_)) rfl (by kernel_rfl) (by kernel_rfl) (by kernel_rfl) (fun _ _ _ _ h => h) (ys_assign (Ev.t rfl)) rfl ?_; clear S a w; intro a w S)
    (refine h_y (i := 8) S (by repeat (first | exact List.Sublist.refl _ | exact List.nil_sublist _ | refine .cons_cons _ ?_ | refine .cons _ ?_)) rfl (by kernel_rfl) (by kernel_rfl) (by kernel_rfl) (fun _ _ _ _ h => h) (ys_assign (Ev.t rfl)) rfl ?_; clear S a w; intro a w S)
    refine h_done (by kernel_rfl) ?_
    (refine (then_normal (hK1 _ _ ?_)); clear hK1)
    refine wp_seq_k fun _ hK1 => ?_
    refine wp_seq_k fun _ hK2 => ?_
    refine wp_region_lit ?_
    (refine st_y S (Yr.ys (ys_move (Ev.t rfl))) rfl ?_; clear S a w; intro a w S)
    (refine st_y S (Yr.ys (ys_F (by omega) (ys_neq (Ev.t rfl) Ev.c))) rfl ?_; clear S a w; intro a w S)
    refine st_nil ?_
    (refine (then_normal (hK2 _ _ ?_)); clear hK2)
    refine st_else S (Ev.t rfl) ?_
    refine wp_skip ?_
    (refine (then_normal (hK1 _ _ ?_)); clear hK1)
    refine wp_seq_k fun _ hK1 => ?_
    refine wp_seq_k fun _ hK2 => ?_
    refine wp_region_lit ?_
    (refine st_y S (Yr.ys (ys_move (Ev.t rfl))) rfl ?_; clear S a w; intro a w S)
    (refine st_y S (Yr.ys (ys_lenS Try.underlying25 (Ev.t rfl))) rfl ?_; clear S a w; intro a w S)
    (refine st_y S (Yr.ys (ys_move Ev.c)) rfl ?_; clear S a w; intro a w S)
    refine st_nil ?_
    (refine (then_normal (hK2 _ _ ?_)); clear hK2)
    refine wp_block ?_
    dsimp only at S
    refine st_loopM S [4, 45] (X := Nat) (fun k => [(45, true, .int .i64 (k : Int))])
      (fun _ => [rowOf 36 3 Dot.enc A4 cp4 M])
      (fun k => k ≤ M.length) (fun k => M.length - k) 0 (Nat.zero_le _) (by repeat (first | exact Fits.nil | refine Fits.skip rfl ?_ | refine Fits.cons rfl ?_)) (by repeat (first | exact Picks.nil | (refine Picks.rest ?_; (repeat (first | exact List.Sublist.refl _ | refine List.Sublist.cons_cons _ ?_ | refine List.Sublist.cons _ ?_)); done) | refine Picks.take 0 rfl ?_ | refine Picks.take 1 rfl ?_ | refine Picks.take 2 rfl ?_ | refine Picks.take 3 rfl ?_ | refine Picks.take 4 rfl ?_ | refine Picks.take 5 rfl ?_ | refine Picks.take 6 rfl ?_ | refine Picks.take 7 rfl ?_ | refine Picks.take 8 rfl ?_ | refine Picks.take 9 rfl ?_ | refine Picks.take 10 rfl ?_ | refine Picks.take 11 rfl ?_)) ?_
    clear S
    intro k a w hk S
    by_cases hlt : k < M.length
    rotate_left
    · obtain rfl : k = M.length := by omega
      refine wp_seq_k fun _ hK2 => ?_
      refine wp_region_lit ?_
      (refine st_y S (Yr.ys (ys_F (by omega) (ys_lss (Ev.t rfl) (Ev.t rfl)))) rfl ?_; clear S a w; intro a w S)
      refine st_nil ?_
      (refine (then_normal (hK2 _ _ ?_)); clear hK2)
      refine wp_seq_k fun _ hK2 => ?_
      refine st_else S (Ev.t rfl) ?_
      refine wp_exit ?_
      (refine (then_exit (then_exit (in_here (then_normal (hK1 _ _ ?_))))); clear hK1)
      refine wp_seq_k fun _ hK1 => ?_
      refine wp_region_lit ?_
      (refine st_y S (Yr.ys (ys_assign Ev.c)) rfl ?_; clear S a w; intro a w S)
      refine st_nil ?_
      (refine (then_normal (hK1 _ _ ?_)); clear hK1)
      refine wp_ret ?_
      refine st_ret S (results1 S Try.results4 (Rv.tmp rfl)) ?_
      exact ⟨rfl, S.wd.below⟩
    have hroom := S.wd.room (k := 0) rfl
    obtain ⟨gb, rfl⟩ := S.wd.row_at (k := 0) rfl (by omega)
    obtain ⟨⟨x0, x1, x2⟩, hx⟩ : ∃ x, M[k]? = some x := ⟨_, List.getElem?_eq_getElem hlt⟩
    obtain ⟨hx2, hx1⟩ := hN ⟨x0, x1, x2⟩ (List.mem_of_getElem? hx)
    dsimp only at hx2 hx1
    subst hx1
    have rw_5 : decide (x2 = x1) = false := decide_eq_false hx2
    have rw_6 : decide (x1 ≠ x1) = false := decide_eq_false (by simp)
    rcases k with _ | k
    · refine wp_seq_k fun _ hK2 => ?_
      refine wp_region_lit ?_
      (refine st_y S (Yr.ys (ys_T (by omega) (ys_lss (Ev.t rfl) (Ev.t rfl)))) rfl ?_; clear S a w; intro a w S)
      refine st_nil ?_
      (refine (then_normal (hK2 _ _ ?_)); clear hK2)
      refine wp_seq_k fun _ hK2 => ?_
      refine st_then S (Ev.t rfl) ?_
      refine wp_skip ?_
      (refine (then_normal (hK2 _ _ ?_)); clear hK2)
      refine wp_seq_k fun _ hK2 => ?_
      refine wp_block ?_
      refine wp_seq_k fun _ hK3 => ?_
      refine wp_region_lit ?_
      (refine st_y S (Yr.ys (ys_move (Ev.t rfl))) rfl ?_; clear S a w; intro a w S)
      (refine st_y S (Yr.ys (ys_ixS (j := 0) Try.underlying25 Try.sizeOf36 (Ev.t rfl) (Ev.t rfl) (fun _ => by omega))) rfl ?_; clear S a w; intro a w S)
      (refine st_y S (Yr.ys (ys_ldWA ⟨Try.isAgg36, Try.sizeOf36⟩ (Ev.t rfl) (k := 0) rfl hx (fun _ => rfl))) rfl ?_; clear S a w; intro a w S)
      (refine st_m (op_alloc S Try.zeroValue36 (cs := _) rfl rfl ?_); clear S a w; intro g3 a w S)
      (refine st_y S (Yr.ys (ys_assign (Ev.t rfl))) rfl ?_; clear S a w; intro a w S)
      (refine st_m (op_stW S Try.sizeOf36 (Ev.t rfl) (Ev.t rfl) (k := 0) rfl rfl rfl (by simp [Value.oneCell']) ?_); clear S a w; intro a w S)
      refine st_nil ?_
      (refine (then_normal (hK3 _ _ ?_)); clear hK3)
      refine wp_seq_k fun _ hK3 => ?_
      (refine st_quiet S (by kernel_rfl) (by kernel_rfl) ?_; clear S w; intro a S)
      (refine q_y S (Yr.ys (ys_move (Ev.t rfl))) rfl ?_; clear S a; intro a S)
      (refine q_y S (Yr.ys (ys_F (by omega) (ys_gtr (Ev.t rfl) Ev.c))) rfl ?_; clear S a; intro a S)
      (refine q_y S (Yr.ys (ys_move (Ev.t rfl))) rfl ?_; clear S a; intro a S)
      (refine q_skip S rfl rfl rfl rfl ?_; clear S a; intro a S)
      (refine q_skip S rfl rfl rfl rfl ?_; clear S a; intro a S)
      (refine q_skip S rfl rfl rfl rfl ?_; clear S a; intro a S)
      (refine q_skip S rfl rfl rfl rfl ?_; clear S a; intro a S)
      (refine q_skip S rfl rfl rfl rfl ?_; clear S a; intro a S)
      (refine q_skip S rfl rfl rfl rfl ?_; clear S a; intro a S)
      (refine q_skip S rfl rfl rfl rfl ?_; clear S a; intro a S)
      (refine q_skip S rfl rfl rfl rfl ?_; clear S a; intro a S)
      (refine q_skip S rfl rfl rfl rfl ?_; clear S a; intro a S)
      (refine q_y S (Yr.ys (ys_pickF (Ev.t rfl) Ev.c)) rfl ?_; clear S a; intro a S)
      (refine q_y S (Yr.ys (ys_move (Ev.t rfl))) rfl ?_; clear S a; intro a S)
      (refine q_yt S rfl rfl (Yr.ys (ys_move (Ev.t rfl))) rfl ?_; clear S a; intro a S)
      (refine q_yt S rfl rfl (Yr.ys (ys_move (Ev.t rfl))) rfl ?_; clear S a; intro a S)
      (refine q_skip S rfl rfl rfl rfl ?_; clear S a; intro a S)
      (refine q_skip S rfl rfl rfl rfl ?_; clear S a; intro a S)
      (refine q_skip S rfl rfl rfl rfl ?_; clear S a; intro a S)
      (refine q_skip S rfl rfl rfl rfl ?_; clear S a; intro a S)
      (refine q_yt S rfl rfl (Yr.ys (ys_pickF (Ev.t rfl) Ev.c)) rfl ?_; clear S a; intro a S)
      (refine q_y S (Yr.ys (ys_pickF (Ev.t rfl) (Ev.t rfl))) rfl ?_; clear S a; intro a S)
      (refine q_y S (Yr.ys (ys_move (Ev.t rfl))) rfl ?_; clear S a; intro a S)
      (refine q_yt S rfl rfl (Yr.ys (ys_move (Ev.t rfl))) rfl ?_; clear S a; intro a S)
      (refine q_yt S rfl rfl (Yr.ys (ys_not (Ev.t rfl))) rfl ?_; clear S a; intro a S)
      (refine q_yt S rfl rfl (Yr.ys (ys_move (Ev.t rfl))) rfl ?_; clear S a; intro a S)
      (refine q_yt S rfl rfl (Yr.ys (ys_fieldN (FieldT.mk Try.underlying36 rfl Try.sizeOf3 rfl) (Ev.t rfl) (i' := 2) rfl)) rfl ?_; clear S a; intro a S)
      (refine q_yt S rfl rfl (Yr.ys (ys_ld ⟨Try.isAgg3, Try.sizeOf3⟩ (Ev.t rfl) (k := 0) rfl rfl)) rfl ?_; clear S a; intro a S)
      (refine q_yt S rfl rfl (Yr.ys (ys_move (Ev.t rfl))) rfl ?_; clear S a; intro a S)
      (refine q_yt S rfl rfl (Yr.ys (ys_F (by omega) (ys_eql (Ev.t rfl) (Ev.t rfl)))) rfl ?_; clear S a; intro a S)
      (refine q_yt S rfl rfl (Yr.ys (ys_move (Ev.t rfl))) rfl ?_; clear S a; intro a S)
      (refine q_yt S rfl rfl (Yr.ys (ys_fieldN (FieldT.mk Try.underlying36 rfl Try.sizeOf3 rfl) (Ev.t rfl) (i' := 1) rfl)) rfl ?_; clear S a; intro a S)
      (refine q_yt S rfl rfl (Yr.ys (ys_ld ⟨Try.isAgg3, Try.sizeOf3⟩ (Ev.t rfl) (k := 0) rfl rfl)) rfl ?_; clear S a; intro a S)
      (refine q_yt S rfl rfl (Yr.ys (ys_move (Ev.t rfl))) rfl ?_; clear S a; intro a S)
      (refine q_yt S rfl rfl (Yr.ys (ys_neq (Ev.t rfl) (Ev.t rfl))) rfl ?_; clear S a; intro a S)
      rw [rw_6] at S
      (refine q_yt S rfl rfl (Yr.ys (ys_pickF (Ev.t rfl) (Ev.t rfl))) rfl ?_; clear S a; intro a S)
      (refine q_yt S rfl rfl (Yr.ys (ys_pickT (Ev.t rfl) (Ev.t rfl))) rfl ?_; clear S a; intro a S)
      (refine q_y S (Yr.ys (ys_pickF (Ev.t rfl) (Ev.t rfl))) rfl ?_; clear S a; intro a S)
      (refine q_nil ?_; intro w W; replace S := St.mk S W; clear W)
      (refine (then_normal (hK3 _ _ ?_)); clear hK3)
      refine st_else S (Ev.t rfl) ?_
      refine wp_skip ?_
      (refine (in_normal (then_normal (hK2 _ _ ?_))); clear hK2)
      refine wp_region_lit ?_
      (refine st_y S (Yr.ys (ys_addI (Ev.t rfl) Ev.c (fun _ => by unfold I64; omega))) rfl ?_; clear S a w; intro a w S)
      (refine st_y S (Yr.ys (ys_move (Ev.t rfl))) rfl ?_; clear S a w; intro a w S)
      refine st_nil ?_
      refine (then_normal ?_)
      exact ⟨1, by omega, by omega, S.picks (by repeat (first | exact Fits.nil | refine Fits.skip rfl ?_ | refine Fits.cons rfl ?_)) (by repeat (first | exact Picks.nil | (refine Picks.rest ?_; (repeat (first | exact List.Sublist.refl _ | refine List.Sublist.cons_cons _ ?_ | refine List.Sublist.cons _ ?_)); done) | refine Picks.take 0 rfl ?_ | refine Picks.take 1 rfl ?_ | refine Picks.take 2 rfl ?_ | refine Picks.take 3 rfl ?_ | refine Picks.take 4 rfl ?_ | refine Picks.take 5 rfl ?_ | refine Picks.take 6 rfl ?_ | refine Picks.take 7 rfl ?_ | refine Picks.take 8 rfl ?_ | refine Picks.take 9 rfl ?_ | refine Picks.take 10 rfl ?_ | refine Picks.take 11 rfl ?_))⟩
    · obtain ⟨⟨y0, y1, y2⟩, hy⟩ : ∃ x, M[k]? = some x := ⟨_, List.getElem?_eq_getElem (by omega)⟩
      have hxy := rise_at hR hy hx
      dsimp only at hxy
      have rw_1 : decide (y0 ≥ x0) = false := decide_eq_false (by omega)
      have rw_2 : decide ((0 : Int) < ((k + 1 : Nat) : Int)) = true := decide_eq_true (by omega)
      have rw_3 : decide (((k + 1 : Nat) : Int) > (0 : Int)) = true := decide_eq_true (by omega)
      have rw_4 : ((k + 1 : Nat) : Int) - 1 = (k : Int) := by omega
      refine wp_seq_k fun _ hK2 => ?_
      refine wp_region_lit ?_
      (refine st_y S (Yr.ys (ys_T (by omega) (ys_lss (Ev.t rfl) (Ev.t rfl)))) rfl ?_; clear S a w; intro a w S)
      refine st_nil ?_
      (refine (then_normal (hK2 _ _ ?_)); clear hK2)
      refine wp_seq_k fun _ hK2 => ?_
      refine st_then S (Ev.t rfl) ?_
      refine wp_skip ?_
      (refine (then_normal (hK2 _ _ ?_)); clear hK2)
      refine wp_seq_k fun _ hK2 => ?_
      refine wp_block ?_
      refine wp_seq_k fun _ hK3 => ?_
      refine wp_region_lit ?_
      (refine st_y S (Yr.ys (ys_move (Ev.t rfl))) rfl ?_; clear S a w; intro a w S)
      (refine st_y S (Yr.ys (ys_ixS Try.underlying25 Try.sizeOf36 (Ev.t rfl) (Ev.t rfl) (fun _ => by omega))) rfl ?_; clear S a w; intro a w S)
      (refine st_y S (Yr.ys (ys_ldWA ⟨Try.isAgg36, Try.sizeOf36⟩ (Ev.t rfl) (k := 0) rfl hx (fun _ => rfl))) rfl ?_; clear S a w; intro a w S)
      (refine st_m (op_alloc S Try.zeroValue36 (cs := _) rfl rfl ?_); clear S a w; intro g3 a w S)
      (refine st_y S (Yr.ys (ys_assign (Ev.t rfl))) rfl ?_; clear S a w; intro a w S)
      (refine st_m (op_stW S Try.sizeOf36 (Ev.t rfl) (Ev.t rfl) (k := 0) rfl rfl rfl (by simp [Value.oneCell']) ?_); clear S a w; intro a w S)
      refine st_nil ?_
      (refine (then_normal (hK3 _ _ ?_)); clear hK3)
      refine wp_seq_k fun _ hK3 => ?_
      (refine st_quiet S (by kernel_rfl) (by kernel_rfl) ?_; clear S w; intro a S)
      (refine q_y S (Yr.ys (ys_move (Ev.t rfl))) rfl ?_; clear S a; intro a S)
      (refine q_y S (Yr.ys (ys_T (by omega) (ys_gtr (Ev.t rfl) Ev.c))) rfl ?_; clear S a; intro a S)
      (refine q_y S (Yr.ys (ys_move (Ev.t rfl))) rfl ?_; clear S a; intro a S)
      (refine q_yt S rfl rfl (Yr.ys (ys_move (Ev.t rfl))) rfl ?_; clear S a; intro a S)
      (refine q_yt S rfl rfl (Yr.ys (ys_move (Ev.t rfl))) rfl ?_; clear S a; intro a S)
      (refine q_yt S rfl rfl (Yr.ys (ys_pred (Ev.t rfl) Ev.c (by omega))) rfl ?_; clear S a; intro a S)
      (refine q_yt S rfl rfl (Yr.ys (ys_ixS Try.underlying25 Try.sizeOf36 (Ev.t rfl) (Ev.t rfl) (fun _ => by omega))) rfl ?_; clear S a; intro a S)
      (refine q_yt S rfl rfl (Yr.ys (ys_field (FieldT.mk Try.underlying36 rfl Try.sizeOf3 rfl) (Ev.t rfl))) rfl ?_; clear S a; intro a S)
      (refine q_yt S rfl rfl (Yr.ys (ys_ldW ⟨Try.isAgg3, Try.sizeOf3⟩ (Ev.t rfl) (k := 1) rfl hy (fun _ => rfl) rfl)) rfl ?_; clear S a; intro a S)
      (refine q_yt S rfl rfl (Yr.ys (ys_fieldN (FieldT.mk Try.underlying36 rfl Try.sizeOf3 rfl) (Ev.t rfl) (i' := 0) rfl)) rfl ?_; clear S a; intro a S)
      (refine q_yt S rfl rfl (Yr.ys (ys_ld ⟨Try.isAgg3, Try.sizeOf3⟩ (Ev.t rfl) (k := 0) rfl rfl)) rfl ?_; clear S a; intro a S)
      (refine q_yt S rfl rfl (Yr.ys (ys_geq (Ev.t rfl) (Ev.t rfl))) rfl ?_; clear S a; intro a S)
      rw [rw_1] at S
      (refine q_y S (Yr.ys (ys_pickT (Ev.t rfl) (Ev.t rfl))) rfl ?_; clear S a; intro a S)
      (refine q_y S (Yr.ys (ys_move (Ev.t rfl))) rfl ?_; clear S a; intro a S)
      (refine q_yt S rfl rfl (Yr.ys (ys_move (Ev.t rfl))) rfl ?_; clear S a; intro a S)
      (refine q_yt S rfl rfl (Yr.ys (ys_move (Ev.t rfl))) rfl ?_; clear S a; intro a S)
      (refine q_skip S rfl rfl rfl rfl ?_; clear S a; intro a S)
      (refine q_skip S rfl rfl rfl rfl ?_; clear S a; intro a S)
      (refine q_skip S rfl rfl rfl rfl ?_; clear S a; intro a S)
      (refine q_skip S rfl rfl rfl rfl ?_; clear S a; intro a S)
      (refine q_yt S rfl rfl (Yr.ys (ys_pickF (Ev.t rfl) Ev.c)) rfl ?_; clear S a; intro a S)
      (refine q_y S (Yr.ys (ys_pickF (Ev.t rfl) (Ev.t rfl))) rfl ?_; clear S a; intro a S)
      (refine q_y S (Yr.ys (ys_move (Ev.t rfl))) rfl ?_; clear S a; intro a S)
      (refine q_yt S rfl rfl (Yr.ys (ys_move (Ev.t rfl))) rfl ?_; clear S a; intro a S)
      (refine q_yt S rfl rfl (Yr.ys (ys_not (Ev.t rfl))) rfl ?_; clear S a; intro a S)
      (refine q_yt S rfl rfl (Yr.ys (ys_move (Ev.t rfl))) rfl ?_; clear S a; intro a S)
      (refine q_yt S rfl rfl (Yr.ys (ys_fieldN (FieldT.mk Try.underlying36 rfl Try.sizeOf3 rfl) (Ev.t rfl) (i' := 2) rfl)) rfl ?_; clear S a; intro a S)
      (refine q_yt S rfl rfl (Yr.ys (ys_ld ⟨Try.isAgg3, Try.sizeOf3⟩ (Ev.t rfl) (k := 0) rfl rfl)) rfl ?_; clear S a; intro a S)
      (refine q_yt S rfl rfl (Yr.ys (ys_move (Ev.t rfl))) rfl ?_; clear S a; intro a S)
      (refine q_yt S rfl rfl (Yr.ys (ys_F (by omega) (ys_eql (Ev.t rfl) (Ev.t rfl)))) rfl ?_; clear S a; intro a S)
      (refine q_yt S rfl rfl (Yr.ys (ys_move (Ev.t rfl))) rfl ?_; clear S a; intro a S)
      (refine q_yt S rfl rfl (Yr.ys (ys_fieldN (FieldT.mk Try.underlying36 rfl Try.sizeOf3 rfl) (Ev.t rfl) (i' := 1) rfl)) rfl ?_; clear S a; intro a S)
      (refine q_yt S rfl rfl (Yr.ys (ys_ld ⟨Try.isAgg3, Try.sizeOf3⟩ (Ev.t rfl) (k := 0) rfl rfl)) rfl ?_; clear S a; intro a S)
      (refine q_yt S rfl rfl (Yr.ys (ys_move (Ev.t rfl))) rfl ?_; clear S a; intro a S)
      (refine q_yt S rfl rfl (Yr.ys (ys_neq (Ev.t rfl) (Ev.t rfl))) rfl ?_; clear S a; intro a S)
      rw [rw_6] at S
      (refine q_yt S rfl rfl (Yr.ys (ys_pickF (Ev.t rfl) (Ev.t rfl))) rfl ?_; clear S a; intro a S)
      (refine q_yt S rfl rfl (Yr.ys (ys_pickT (Ev.t rfl) (Ev.t rfl))) rfl ?_; clear S a; intro a S)
      (refine q_y S (Yr.ys (ys_pickF (Ev.t rfl) (Ev.t rfl))) rfl ?_; clear S a; intro a S)
      (refine q_nil ?_; intro w W; replace S := St.mk S W; clear W)
      (refine (then_normal (hK3 _ _ ?_)); clear hK3)
      refine st_else S (Ev.t rfl) ?_
      refine wp_skip ?_
      (refine (in_normal (then_normal (hK2 _ _ ?_))); clear hK2)
      refine wp_region_lit ?_
      (refine st_y S (Yr.ys (ys_addI (Ev.t rfl) Ev.c (fun _ => by unfold I64; omega))) rfl ?_; clear S a w; intro a w S)
      (refine st_y S (Yr.ys (ys_move (Ev.t rfl))) rfl ?_; clear S a w; intro a w S)
      refine st_nil ?_
      refine (then_normal ?_)
      exact ⟨k + 1 + 1, by omega, by omega, S.picks (by repeat (first | exact Fits.nil | refine Fits.skip rfl ?_ | refine Fits.cons rfl ?_)) (by repeat (first | exact Picks.nil | (refine Picks.rest ?_; (repeat (first | exact List.Sublist.refl _ | refine List.Sublist.cons_cons _ ?_ | refine List.Sublist.cons _ ?_)); done) | refine Picks.take 0 rfl ?_ | refine Picks.take 1 rfl ?_ | refine Picks.take 2 rfl ?_ | refine Picks.take 3 rfl ?_ | refine Picks.take 4 rfl ?_ | refine Picks.take 5 rfl ?_ | refine Picks.take 6 rfl ?_ | refine Picks.take 7 rfl ?_ | refine Picks.take 8 rfl ?_ | refine Picks.take 9 rfl ?_ | refine Picks.take 10 rfl ?_ | refine Picks.take 11 rfl ?_))⟩
  have hl8 := leaveR_len ⟨p, c, s, l⟩ n
  have rw_v : decide ((leaveR ⟨p, c, s, l⟩ n).2 ≠ 0) = true := decide_eq_true hv
  refine enter2 Try.func4 rfl Try.ntmps4 rfl fun a S => ?_
  refine wp_seq_k fun _ hK1 => ?_
  refine wp_region_lit ?_
  (refine st_m (op_box S (Ev.t rfl) rfl ?_); clear S a; intro g1 a w S)
  (refine st_y S (Yr.ys (ys_assign Ev.c)) rfl ?_; clear S a w; intro a w S)
  refine st_nil ?_
  (refine (then_normal (hK1 _ _ ?_)); clear hK1)
  refine wp_seq_k fun _ hK1 => ?_
  refine wp_region_lit ?_
  (refine st_y S (Yr.ys (ys_ldA ⟨Try.isAgg24, Try.sizeOf24⟩ (Ev.t rfl) (k := 0) rfl rfl)) rfl ?_; clear S a w; intro a w S)
  (refine st_y S (Yr.ys (ys_move (Ev.t rfl))) rfl ?_; clear S a w; intro a w S)
  (refine st_m (op_calls S Try.call22 (EvL.cons (Ev.t rfl) (EvL.cons (Ev.t rfl) EvL.nil)) (c22 _ _ _ _ _ _ _ (by exact .old S.wd (by assumption)) (by omega)) rfl ?_); clear S a w; rintro _ _ ⟨A1, cp1, rfl, rfl⟩ a w S)
  (refine st_y S (Yr.ys (ys_move (Ev.t rfl))) rfl ?_; clear S a w; intro a w S)
  (refine st_y S (Yr.ys (ys_ext (Ev.t rfl) rfl)) rfl ?_; clear S a w; intro a w S)
  (refine st_y S (Yr.ys (ys_ext (Ev.t rfl) rfl)) rfl ?_; clear S a w; intro a w S)
  (refine st_m (op_alloc S Try.zeroValue24 (cs := _) rfl rfl ?_); clear S a w; intro g2 a w S)
  (refine st_m (op_stW S Try.sizeOf24 (Ev.t rfl) (Ev.t rfl) (k := 0) rfl rfl rfl (by simp [Value.oneCell']) ?_); clear S a w; intro a w S)
  (refine st_y S (Yr.ys (ys_assign (Ev.t rfl))) rfl ?_; clear S a w; intro a w S)
  refine st_nil ?_
  (refine (then_normal (hK1 _ _ ?_)); clear hK1)
  refine wp_seq_k fun _ hK1 => ?_
  refine wp_region_lit ?_
  (refine st_y S (Yr.ys (ys_move (Ev.t rfl))) rfl ?_; clear S a w; intro a w S)
  (refine st_y S (Yr.ys (ys_F (by omega) (ys_eql (Ev.t rfl) Ev.c))) rfl ?_; clear S a w; intro a w S)
  (refine st_y S (Yr.ys (ys_assign (Ev.t rfl))) rfl ?_; clear S a w; intro a w S)
  refine st_nil ?_
  (refine (then_normal (hK1 _ _ ?_)); clear hK1)
  refine wp_seq_k fun _ hK1 => ?_
  refine wp_seq_k fun _ hK2 => ?_
  refine wp_region_lit ?_
  (refine st_y S (Yr.ys (ys_move (Ev.t rfl))) rfl ?_; clear S a w; intro a w S)
  (refine st_y S (Yr.ys (ys_not (Ev.t rfl))) rfl ?_; clear S a w; intro a w S)
  refine st_nil ?_
  (refine (then_normal (hK2 _ _ ?_)); clear hK2)
  refine st_then S (Ev.t rfl) ?_
  refine wp_region_lit ?_
  (refine st_y S (Yr.ys (ys_ldA ⟨Try.isAgg24, Try.sizeOf24⟩ (Ev.t rfl) (k := 2) rfl rfl)) rfl ?_; clear S a w; intro a w S)
  (refine st_y S (Yr.ys (ys_move (Ev.t rfl))) rfl ?_; clear S a w; intro a w S)
  (refine st_m (op_calls S Try.call23 (EvL.cons (Ev.t rfl) (EvL.cons (Ev.t rfl) EvL.nil)) (c23 _ _ _ _ _ _ _ (by exact .old S.wd (by assumption)) (by omega)) rfl ?_); clear S a w; rintro _ _ ⟨A2, cp2, rfl, rfl⟩ a w S)
  (refine st_y S (Yr.ys (ys_move (Ev.t rfl))) rfl ?_; clear S a w; intro a w S)
  (refine st_y S (Yr.ys (ys_ext (Ev.t rfl) rfl)) rfl ?_; clear S a w; intro a w S)
  (refine st_y S (Yr.ys (ys_ext (Ev.t rfl) rfl)) rfl ?_; clear S a w; intro a w S)
  (refine st_m (op_stW S Try.sizeOf24 (Ev.t rfl) (Ev.t rfl) (k := 1) rfl rfl rfl (by simp [Value.oneCell']) ?_); clear S a w; intro a w S)
  (refine st_y S (Yr.ys (ys_assign (Ev.t rfl))) rfl ?_; clear S a w; intro a w S)
  refine st_nil ?_
  (refine (then_normal (hK1 _ _ ?_)); clear hK1)
  refine wp_seq_k fun _ hK1 => ?_
  refine wp_seq_k fun _ hK2 => ?_
  refine wp_region_lit ?_
  (refine st_y S (Yr.ys (ys_move (Ev.t rfl))) rfl ?_; clear S a w; intro a w S)
  (refine st_y S (Yr.ys (ys_T (by omega) (ys_neq (Ev.t rfl) Ev.c))) rfl ?_; clear S a w; intro a w S)
  (refine st_y S (Yr.ys (ys_move (Ev.t rfl))) rfl ?_; clear S a w; intro a w S)
  (refine st_skip S rfl rfl rfl rfl ?_; clear S a w; intro a w S)
  (refine st_skip S rfl rfl rfl rfl ?_; clear S a w; intro a w S)
  (refine st_y S (Yr.ys (ys_pickT (Ev.t rfl) Ev.c)) rfl ?_; clear S a w; intro a w S)
  refine st_nil ?_
  (refine (then_normal (hK2 _ _ ?_)); clear hK2)
  refine st_then S (Ev.t rfl) ?_
  refine wp_seq_k fun _ hK2 => ?_
  refine wp_region_lit ?_
  (refine st_y S (ys_call Try.call21 EvL.nil (fun hp w W => c21 _)) rfl ?_; clear S a w; intro a w S)
  (refine st_y S (Yr.ys (ys_assign (Ev.t rfl))) rfl ?_; clear S a w; intro a w S)
  refine st_nil ?_
  (refine (then_normal (hK2 _ _ ?_)); clear hK2)
  refine wp_ret ?_
  refine (then_ret ?_)
  refine st_ret S (results1 S Try.results4 (Rv.tmp rfl)) ?_
  exact ⟨rfl, S.wd.below⟩
end Go.Proofs.Ytcglchdbddlnjaa
