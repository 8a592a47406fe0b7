/- Layer 3: the search for a mark, a context with a dot more. -/
import Derived.Test.YtjfeeiljinbmjaaCau9
import Derived.Test.YtjfeeiljinbmjaaCau6
import Derived.Test.YtjfeeiljinbmjaaInsM
import Derived.Test.YtjfeeiljinbmjaaCmpD
import Derived.Test.YtjfeeiljinbmjaaGrow
import Derived.Test.YtjfeeiljinbmjaaMore5
set_option linter.unusedVariables false
set_option linter.unusedSimpArgs false
set_option maxRecDepth 100000
namespace Go.Proofs.Ytjfeeiljinbmjaa
open Go.Fw Go.Proofs Go.RowKit

theorem may_bd {d : Dot} (h : mayD d = true) : (0 ≤ d.node ∧ d.node ≤ 1099511627776) ∧ (0 ≤ d.life ∧ d.life ≤ 1099511627776) ∧ 0 ≤ d.count ∧ d.count ≤ 1099511627776 := by
  simp only [mayD, decide_eq_true_eq] at h
  omega

theorem c122 (w0 : World) (x y z x' y' z' : Int) (h : (0 ≤ x ∧ x ≤ 1099511627776) ∧ (0 ≤ y ∧ y ≤ 1099511627776) ∧ 0 ≤ z ∧ z ≤ 1099511627776) (h' : (0 ≤ x' ∧ x' ≤ 1099511627776) ∧ (0 ≤ y' ∧ y' ≤ 1099511627776) ∧ 0 ≤ z' ∧ z' ≤ 1099511627776) :
    Calls Try.prog 122 #[.agg #[.int .i64 x, .int .i64 y, .int .i64 z], .agg #[.int .i64 x', .int .i64 y', .int .i64 z']] w0 fun e w' => e = .returned (.int .i64 (orderD (⟨x, y, z⟩ : Dot).nl (⟨x', y', z'⟩ : Dot).nl)) ∧ Bel w0.heap.size w0 w' := by
  refine enter2 Try.func122 rfl Try.ntmps122 rfl fun a S => ?_
  refine wp_seq_k fun _ hK1 => ?_
  refine wp_region_lit ?_
  (refine st_m (op_box S (Ev.t rfl) rfl ?_); clear S a; intro g1 a w S)
  (refine st_m (op_box S (Ev.t rfl) rfl ?_); clear S a w; intro g2 a w S)
  (refine st_y S (Yr.ys (ys_assign Ev.c)) rfl ?_; clear S a w; intro a w S)
  refine st_nil ?_
  (refine (then_normal (hK1 _ _ ?_)); clear hK1)
  refine wp_seq_k fun _ hK1 => ?_
  refine wp_region_lit ?_
  (refine st_y S (Yr.ys (ys_fieldN (FieldT.mk Try.underlying43 rfl Try.sizeOf3 rfl) (Ev.t rfl) (i' := 0) rfl)) rfl ?_; clear S a w; intro a w S)
  (refine st_y S (Yr.ys (ys_ld ⟨Try.isAgg3, Try.sizeOf3⟩ (Ev.t rfl) (k := 1) rfl rfl)) rfl ?_; clear S a w; intro a w S)
  (refine st_y S (Yr.ys (ys_fieldN (FieldT.mk Try.underlying43 rfl Try.sizeOf3 rfl) (Ev.t rfl) (i' := 1) rfl)) rfl ?_; clear S a w; intro a w S)
  (refine st_y S (Yr.ys (ys_ld ⟨Try.isAgg3, Try.sizeOf3⟩ (Ev.t rfl) (k := 1) rfl rfl)) rfl ?_; clear S a w; intro a w S)
  (refine st_y S (Yr.ys (ys_bld (ps := [(0, Go.Operand.tmp 6), (1, Go.Operand.tmp 8)]) (us := [_, _, _]) bld32 (EvL.cons (Ev.t rfl) (EvL.cons (Ev.t rfl) EvL.nil)) rfl)) rfl ?_; clear S a w; intro a w S)
  (refine st_y S (Yr.ys (ys_fieldN (FieldT.mk Try.underlying32 rfl Try.sizeOf3 rfl) (Ev.t rfl) (i' := 0) rfl)) rfl ?_; clear S a w; intro a w S)
  (refine st_y S (Yr.ys (ys_ld ⟨Try.isAgg3, Try.sizeOf3⟩ (Ev.t rfl) (k := 0) rfl rfl)) rfl ?_; clear S a w; intro a w S)
  (refine st_y S (Yr.ys (ys_fieldN (FieldT.mk Try.underlying32 rfl Try.sizeOf3 rfl) (Ev.t rfl) (i' := 1) rfl)) rfl ?_; clear S a w; intro a w S)
  (refine st_y S (Yr.ys (ys_ld ⟨Try.isAgg3, Try.sizeOf3⟩ (Ev.t rfl) (k := 0) rfl rfl)) rfl ?_; clear S a w; intro a w S)
  (refine st_y S (Yr.ys (ys_bld (ps := [(0, Go.Operand.tmp 11), (1, Go.Operand.tmp 13)]) (us := [_, _, _]) bld32 (EvL.cons (Ev.t rfl) (EvL.cons (Ev.t rfl) EvL.nil)) rfl)) rfl ?_; clear S a w; intro a w S)
  (refine st_y S (ys_call Try.call73 (EvL.cons (Ev.t rfl) (EvL.cons (Ev.t rfl) EvL.nil)) (fun hp w W => c73 _ _ _ _ _ _ _ (by first | assumption | omega | exact .old W (by assumption)  | (simp at hp; omega)) (by first | assumption | omega | exact .old W (by assumption)  | (simp at hp; omega)))) rfl ?_; clear S a w; intro a w S)
  (refine st_y S (Yr.ys (ys_assign (Ev.t rfl))) rfl ?_; clear S a w; intro a w S)
  refine st_nil ?_
  (refine (then_normal (hK1 _ _ ?_)); clear hK1)
  refine wp_ret ?_
  refine st_ret S (results1 S Try.results122 (Rv.tmp rfl)) ?_
  exact ⟨rfl, S.wd.below⟩

instance (a b : Dot) : Decidable (ltM a b) := inferInstanceAs (Decidable (_ ∨ _))
/-- where a mark is to stand -/
def posM (l : List Dot) (d : Dot) : Nat := (l.takeWhile fun m => decide (ltM m d)).length
theorem posM_le (l : List Dot) (d : Dot) : posM l d ≤ l.length := (List.takeWhile_sublist _).length_le
theorem posM_lt {d : Dot} : ∀ {l : List Dot}, l.Pairwise ltM → ∀ (k : Nat) (m : Dot), l[k]? = some m → (ltM m d ↔ k < posM l d)
  | [], _, k, m, h => by simp at h
  | x :: r, hp, k, m, h => by
    rw [List.pairwise_cons] at hp
    unfold posM
    rw [List.takeWhile_cons]
    cases k with
    | zero =>
      simp at h
      subst h
      by_cases hx : ltM x d
      · simp [hx]
      · simp [hx]
    | succ k =>
      simp at h
      have hm := List.mem_of_getElem? h
      have ih := posM_lt (d := d) hp.2 k m h
      have hxm := hp.1 m hm
      by_cases hx : ltM x d
      · simp only [hx, decide_true, if_true, List.length_cons]
        rw [ih]; unfold posM; omega
      · simp only [hx, decide_false]
        have : ¬ ltM m d := fun h => hx (ltM_trans hxm h)
        simp [this]

/-- there stands the mark of d's actor -/
def hasM (l : List Dot) (d : Dot) : Bool := match l[posM l d]? with
  | some m => decide (m.node = d.node ∧ m.life = d.life)
  | none => false
theorem order_nl {a b : Dot} : orderD a.nl b.nl = 0 ↔ a.node = b.node ∧ a.life = b.life := by
  simp only [orderD, Dot.nl]
  split
  · omega
  · split
    · omega
    · simp; omega

theorem c121 (w0 : World) (v1 : Value) (l : List Dot) (x y z : Int) (h : Sl Dot.enc 3 w0 w0.heap.size v1 l) (hl : l.Pairwise ltM) (hm : ∀ m ∈ l, mayD m = true) (hd : mayD ⟨x, y, z⟩ = true) (hn : l.length ≤ 4194304) :
    Calls Try.prog 121 #[v1, .agg #[.int .i64 x, .int .i64 y, .int .i64 z], .func (.func 122) #[] #[]] w0 fun e w' => e = .returned (.tuple #[.int .i64 (posM l ⟨x, y, z⟩ : Nat), .bool (hasM l ⟨x, y, z⟩)]) ∧ Bel w0.heap.size w0 w' := by
  obtain ⟨A, cap, rfl, hl0, hcap, hA⟩ := h
  have hd2 := may_bd hd
  dsimp only at hd2
  have hpl := posM_le l ⟨x, y, z⟩
  refine enter3 Try.func121 rfl Try.ntmps121 rfl fun a S => ?_
  refine wp_seq_k fun _ hK1 => ?_
  refine wp_region_lit ?_
  (refine st_m (op_box S (Ev.t rfl) rfl ?_); clear S a; intro g1 a w S)
  (refine st_y S (Yr.ys (ys_assign Ev.c)) rfl ?_; clear S a w; intro a w S)
  (refine st_y S (Yr.ys (ys_assign Ev.c)) rfl ?_; clear S a w; intro a w S)
  refine st_nil ?_
  (refine (then_normal (hK1 _ _ ?_)); clear hK1)
  refine wp_seq_k fun _ hK1 => ?_
  refine wp_region_lit ?_
  (refine st_y S (Yr.ys (ys_move (Ev.t rfl))) rfl ?_; clear S a w; intro a w S)
  (refine st_y S (Yr.ys (ys_lenS Try.underlying29 (Ev.t rfl))) rfl ?_; clear S a w; intro a w S)
  (refine st_y S (Yr.ys (ys_assign (Ev.t rfl))) rfl ?_; clear S a w; intro a w S)
  refine st_nil ?_
  (refine (then_normal (hK1 _ _ ?_)); clear hK1)
  refine wp_seq_k fun _ hK1 => ?_
  refine wp_region_lit ?_
  (refine st_y S (Yr.ys (ys_move (Ev.t rfl))) rfl ?_; clear S a w; intro a w S)
  (refine st_y S (Yr.ys (ys_assign Ev.c)) rfl ?_; clear S a w; intro a w S)
  (refine st_y S (Yr.ys (ys_assign (Ev.t rfl))) rfl ?_; clear S a w; intro a w S)
  refine st_nil ?_
  (refine (then_normal (hK1 _ _ ?_)); clear hK1)
  refine wp_seq_k fun _ hK1 => ?_
  refine wp_block ?_
  refine st_loopK S (X := Nat × Nat) (fun q => [(9, true, .int .i64 (q.1 : Int)), (10, true, .int .i64 (q.2 : Int))]) (fun _ L => L) (fun q => q.1 ≤ posM l ⟨x, y, z⟩ ∧ posM l ⟨x, y, z⟩ ≤ q.2 ∧ q.2 ≤ l.length) (fun q => q.2 - q.1) (0, l.length) ⟨Nat.zero_le _, hpl, Nat.le_refl _⟩ (by repeat (first | exact Fits.nil | refine Fits.skip rfl ?_ | refine Fits.cons rfl ?_)) (by repeat (first | exact List.Sublist.refl _ | exact List.nil_sublist _ | refine .cons_cons _ ?_ | refine .cons _ ?_)) ?_
  clear S
  intro ⟨i, j⟩ a w ⟨hi, hj, hjl⟩ S
  dsimp only at hi hj hjl S
  by_cases hlt : i < j
  · have hlt2 : (i + j) / 2 < l.length := by omega
    obtain ⟨g, o, m, rfl, hmm, hd', hc⟩ := row_at hA hlt2
    have hmb := may_bd (hm m (List.mem_of_getElem? hmm))
    have hpos := posM_lt (d := ⟨x, y, z⟩) hl _ m hmm
    rw [← orderM_iff] at hpos
    clear hA
    have rw_eta : (⟨m.node, m.life, m.count⟩ : Dot) = m := rfl
    have rw_h : ((i : Int) + j) / 2 = (((i + j) / 2 : Nat) : Int) := by omega
    refine wp_seq_k fun _ hK2 => ?_
    refine wp_seq_k fun _ hK3 => ?_
    refine wp_region_lit ?_
    (refine st_y S (Yr.ys (ys_move (Ev.t rfl))) rfl ?_; clear S a w; intro a w S)
    (refine st_y S (Yr.ys (ys_move (Ev.t rfl))) rfl ?_; clear S a w; intro a w S)
    (refine st_y S (Yr.ys (ys_T (by omega) (ys_lss (Ev.t rfl) (Ev.t rfl)))) rfl ?_; clear S a w; intro a w S)
    refine st_nil ?_
    (refine (then_normal (hK3 _ _ ?_)); clear hK3)
    refine st_then S (Ev.t rfl) ?_
    refine wp_skip ?_
    (refine (then_normal (hK2 _ _ ?_)); clear hK2)
    refine wp_block ?_
    refine wp_seq_k fun _ hK2 => ?_
    refine wp_region_lit ?_
    (refine st_y S (Yr.ys (ys_move (Ev.t rfl))) rfl ?_; clear S a w; intro a w S)
    (refine st_y S (Yr.ys (ys_move (Ev.t rfl))) rfl ?_; clear S a w; intro a w S)
    (refine st_y S (Yr.ys (ys_addI (Ev.t rfl) (Ev.t rfl) (fun _ => by unfold I64; omega))) rfl ?_; clear S a w; intro a w S)
    (refine st_y S (Yr.ys (ys_cvU Try.underlying3 Try.underlying46 (Ev.t rfl) (fun _ => by omega))) rfl ?_; clear S a w; intro a w S)
    (refine st_y S (Yr.ys (ys_shrC (m := 1) (c := 2) (Ev.t rfl) Ev.c rfl rfl)) rfl ?_; clear S a w; intro a w S)
    rw [rw_h] at S
    (refine st_y S (Yr.ys (ys_cvI Try.underlying46 Try.underlying3 (Ev.t rfl) (fun _ => by unfold I64; omega))) rfl ?_; clear S a w; intro a w S)
    (refine st_y S (Yr.ys (ys_assign (Ev.t rfl))) rfl ?_; clear S a w; intro a w S)
    refine st_nil ?_
    (refine (then_normal (hK2 _ _ ?_)); clear hK2)
    refine wp_seq_k fun _ hK2 => ?_
    (refine st_quiet S (by kernel_rfl) (by kernel_rfl) ?_; clear S w; intro a S)
    (refine q_y S (Yr.ys (ys_move (Ev.t rfl))) rfl ?_; clear S a; intro a S)
    (refine q_y S (Yr.ys (ys_move (Ev.t rfl))) rfl ?_; clear S a; intro a S)
    (refine q_y S (Yr.ys (ys_move (Ev.t rfl))) rfl ?_; clear S a; intro a S)
    (refine q_y S (Yr.ys (ys_ixS Try.underlying29 Try.sizeOf43 (Ev.t rfl) (Ev.t rfl) (fun _ => by omega))) rfl ?_; clear S a; intro a S)
    (refine q_y S (Yr.ys (ys_ldOA ⟨Try.isAgg43, Try.sizeOf43⟩ (Ev.t rfl) (vs := [_, _, _]) rfl (fun _ => hc))) rfl ?_; clear S a; intro a S)
    (refine q_y S (Yr.ys (ys_ldA ⟨Try.isAgg32, Try.sizeOf32⟩ (Ev.t rfl) (k := 0) rfl rfl)) rfl ?_; clear S a; intro a S)
    (refine q_y S (ys_callV (Ev.t rfl) Try.call122 (EvL.cons (Ev.t rfl) (EvL.cons (Ev.t rfl) EvL.nil)) (fun hp w W => c122 _ _ _ _ _ _ _ (by first | assumption | omega | exact .old W (by assumption)  | (simp at hp; omega)) (by first | assumption | omega | exact .old W (by assumption)  | (simp at hp; omega)))) rfl ?_; clear S a; intro a S)
    rw [rw_eta] at S
    (refine q_y S (Yr.ys (ys_lss (Ev.t rfl) Ev.c)) rfl ?_; clear S a; intro a S)
    (refine q_nil ?_; intro w W; replace S := St.mk S W; clear W)
    (refine (then_normal (hK2 _ _ ?_)); clear hK2)
    refine st_if S (Ev.t rfl) (fun h1 => ?_) (fun h1 => ?_)
    refine wp_region_lit ?_
    (refine st_y S (Yr.ys (ys_move (Ev.t rfl))) rfl ?_; clear S a w; intro a w S)
    (refine st_y S (Yr.ys (ys_addI (Ev.t rfl) Ev.c (fun _ => by unfold I64; omega))) rfl ?_; clear S a w; intro a w S)
    (refine st_y S (Yr.ys (ys_assign (Ev.t rfl))) rfl ?_; clear S a w; intro a w S)
    refine st_nil ?_
    refine (in_normal (then_normal ?_))
    rotate_left
    refine wp_region_lit ?_
    (refine st_y S (Yr.ys (ys_move (Ev.t rfl))) rfl ?_; clear S a w; intro a w S)
    (refine st_y S (Yr.ys (ys_assign (Ev.t rfl))) rfl ?_; clear S a w; intro a w S)
    refine st_nil ?_
    refine (in_normal (then_normal ?_))
    rotate_left
    · exact ⟨((i + j) / 2 + 1, j), ⟨by dsimp only; omega, hj, hjl⟩, by dsimp only; omega, S.weak (by repeat (first | exact Fits.nil | refine Fits.skip rfl ?_ | refine Fits.cons rfl ?_)) (by repeat (first | exact List.Sublist.refl _ | exact List.nil_sublist _ | refine .cons_cons _ ?_ | refine .cons _ ?_))⟩
    · exact ⟨(i, (i + j) / 2), ⟨hi, by dsimp only; omega, by dsimp only; omega⟩, by dsimp only; omega, S.weak (by repeat (first | exact Fits.nil | refine Fits.skip rfl ?_ | refine Fits.cons rfl ?_)) (by repeat (first | exact List.Sublist.refl _ | exact List.nil_sublist _ | refine .cons_cons _ ?_ | refine .cons _ ?_))⟩
  · obtain rfl : i = posM l ⟨x, y, z⟩ := by omega
    by_cases hin : posM l ⟨x, y, z⟩ < l.length
    · obtain ⟨g, o, m, rfl, hmm, hd', hc⟩ := row_at hA hin
      have hmb := may_bd (hm m (List.mem_of_getElem? hmm))
      have hze := order_nl (a := m) (b := ⟨x, y, z⟩)
      clear hA
      refine wp_seq_k fun _ hK2 => ?_
      refine wp_seq_k fun _ hK3 => ?_
      refine wp_region_lit ?_
      (refine st_y S (Yr.ys (ys_move (Ev.t rfl))) rfl ?_; clear S a w; intro a w S)
      (refine st_y S (Yr.ys (ys_move (Ev.t rfl))) rfl ?_; clear S a w; intro a w S)
      (refine st_y S (Yr.ys (ys_F (by omega) (ys_lss (Ev.t rfl) (Ev.t rfl)))) rfl ?_; clear S a w; intro a w S)
      refine st_nil ?_
      (refine (then_normal (hK3 _ _ ?_)); clear hK3)
      refine st_else S (Ev.t rfl) ?_
      refine wp_exit ?_
      (refine (then_exit (then_exit (in_here (then_normal (hK1 _ _ ?_))))); clear hK1)
      refine wp_seq_k fun _ hK1 => ?_
      (refine st_quiet S (by kernel_rfl) (by kernel_rfl) ?_; clear S w; intro a S)
      (refine q_y S (Yr.ys (ys_move (Ev.t rfl))) rfl ?_; clear S a; intro a S)
      (refine q_y S (Yr.ys (ys_move (Ev.t rfl))) rfl ?_; clear S a; intro a S)
      (refine q_y S (Yr.ys (ys_move (Ev.t rfl))) rfl ?_; clear S a; intro a S)
      (refine q_y S (Yr.ys (ys_T (by omega) (ys_lss (Ev.t rfl) (Ev.t rfl)))) rfl ?_; clear S a; intro a S)
      (refine q_y S (Yr.ys (ys_move (Ev.t rfl))) rfl ?_; clear S a; intro a S)
      (refine q_yt S rfl rfl (Yr.ys (ys_move (Ev.t rfl))) rfl ?_; clear S a; intro a S)
      (refine q_yt S rfl rfl (Yr.ys (ys_move (Ev.t rfl))) rfl ?_; clear S a; intro a S)
      (refine q_yt S rfl rfl (Yr.ys (ys_move (Ev.t rfl))) rfl ?_; clear S a; intro a S)
      (refine q_yt S rfl rfl (Yr.ys (ys_ixS Try.underlying29 Try.sizeOf43 (Ev.t rfl) (Ev.t rfl) (fun _ => by omega))) rfl ?_; clear S a; intro a S)
      (refine q_yt S rfl rfl (Yr.ys (ys_ldOA ⟨Try.isAgg43, Try.sizeOf43⟩ (Ev.t rfl) (vs := [_, _, _]) rfl (fun _ => hc))) rfl ?_; clear S a; intro a S)
      (refine q_yt S rfl rfl (Yr.ys (ys_ldA ⟨Try.isAgg32, Try.sizeOf32⟩ (Ev.t rfl) (k := 0) rfl rfl)) rfl ?_; clear S a; intro a S)
      (refine q_yt S rfl rfl (ys_callV (Ev.t rfl) Try.call122 (EvL.cons (Ev.t rfl) (EvL.cons (Ev.t rfl) EvL.nil)) (fun hp w W => c122 _ _ _ _ _ _ _ (by first | assumption | omega | exact .old W (by assumption)  | (simp at hp; omega)) (by first | assumption | omega | exact .old W (by assumption)  | (simp at hp; omega)))) rfl ?_; clear S a; intro a S)
      (refine q_yt S rfl rfl (Yr.ys (ys_eql (Ev.t rfl) Ev.c)) rfl ?_; clear S a; intro a S)
      (refine q_y S (Yr.ys (ys_pickT (Ev.t rfl) (Ev.t rfl))) rfl ?_; clear S a; intro a S)
      (refine q_y S (Yr.ys (ys_assign (Ev.t rfl))) rfl ?_; clear S a; intro a S)
      (refine q_y S (Yr.ys (ys_assign (Ev.t rfl))) rfl ?_; clear S a; intro a S)
      (refine q_nil ?_; intro w W; replace S := St.mk S W; clear W)
      (refine (then_normal (hK1 _ _ ?_)); clear hK1)
      refine wp_ret ?_
      refine st_ret S (results2 S Try.results121 (Rv.tmp rfl) (Rv.tmp rfl)) ?_
      refine ⟨?_, S.wd.below⟩
      have e : hasM l ⟨x, y, z⟩ = decide (orderD m.nl (⟨x, y, z⟩ : Dot).nl = 0) := by
        unfold hasM
        simp only [hmm]
        exact decide_eq_decide.2 hze.symm
      rw [e]
    · refine wp_seq_k fun _ hK2 => ?_
      refine wp_seq_k fun _ hK3 => ?_
      refine wp_region_lit ?_
      (refine st_y S (Yr.ys (ys_move (Ev.t rfl))) rfl ?_; clear S a w; intro a w S)
      (refine st_y S (Yr.ys (ys_move (Ev.t rfl))) rfl ?_; clear S a w; intro a w S)
      (refine st_y S (Yr.ys (ys_F (by omega) (ys_lss (Ev.t rfl) (Ev.t rfl)))) rfl ?_; clear S a w; intro a w S)
      refine st_nil ?_
      (refine (then_normal (hK3 _ _ ?_)); clear hK3)
      refine st_else S (Ev.t rfl) ?_
      refine wp_exit ?_
      (refine (then_exit (then_exit (in_here (then_normal (hK1 _ _ ?_))))); clear hK1)
      refine wp_seq_k fun _ hK1 => ?_
      (refine st_quiet S (by kernel_rfl) (by kernel_rfl) ?_; clear S w; intro a S)
      (refine q_y S (Yr.ys (ys_move (Ev.t rfl))) rfl ?_; clear S a; intro a S)
      (refine q_y S (Yr.ys (ys_move (Ev.t rfl))) rfl ?_; clear S a; intro a S)
      (refine q_y S (Yr.ys (ys_move (Ev.t rfl))) rfl ?_; clear S a; intro a S)
      (refine q_y S (Yr.ys (ys_F (by omega) (ys_lss (Ev.t rfl) (Ev.t rfl)))) rfl ?_; clear S a; intro a S)
      (refine q_y S (Yr.ys (ys_move (Ev.t rfl))) rfl ?_; clear S a; intro a S)
      (refine q_skip S rfl rfl rfl rfl ?_; clear S a; intro a S)
      (refine q_skip S rfl rfl rfl rfl ?_; clear S a; intro a S)
      (refine q_skip S rfl rfl rfl rfl ?_; clear S a; intro a S)
      (refine q_skip S rfl rfl rfl rfl ?_; clear S a; intro a S)
      (refine q_skip S rfl rfl rfl rfl ?_; clear S a; intro a S)
      (refine q_skip S rfl rfl rfl rfl ?_; clear S a; intro a S)
      (refine q_skip S rfl rfl rfl rfl ?_; clear S a; intro a S)
      (refine q_skip S rfl rfl rfl rfl ?_; clear S a; intro a S)
      (refine q_y S (Yr.ys (ys_pickF (Ev.t rfl) Ev.c)) rfl ?_; clear S a; intro a S)
      (refine q_y S (Yr.ys (ys_assign (Ev.t rfl))) rfl ?_; clear S a; intro a S)
      (refine q_y S (Yr.ys (ys_assign (Ev.t rfl))) rfl ?_; clear S a; intro a S)
      (refine q_nil ?_; intro w W; replace S := St.mk S W; clear W)
      (refine (then_normal (hK1 _ _ ?_)); clear hK1)
      refine wp_ret ?_
      refine st_ret S (results2 S Try.results121 (Rv.tmp rfl) (Rv.tmp rfl)) ?_
      refine ⟨?_, S.wd.below⟩
      have e : hasM l ⟨x, y, z⟩ = false := by
        unfold hasM
        rw [List.getElem?_eq_none (by omega)]
      rw [e]

theorem setL_at {d : Dot} : ∀ {l : List Dot}, l.Pairwise ltM → setL d false l = match l[posM l d]? with
      | some m => if m.node = d.node ∧ m.life = d.life then l.set (posM l d) ⟨m.node, m.life, max m.count d.count⟩ else l.take (posM l d) ++ d :: l.drop (posM l d)
      | none => l.take (posM l d) ++ d :: l.drop (posM l d)
  | [], _ => by simp [setL, posM]
  | x :: r, hp => by
    rw [List.pairwise_cons] at hp
    have ih := setL_at (d := d) hp.2
    by_cases hx : ltM x d
    · have e : posM (x :: r) d = posM r d + 1 := by simp [posM, List.takeWhile_cons, hx]
      have h1 : ¬ (x.node = d.node ∧ x.life = d.life) := by unfold ltM at hx; omega
      have h2 : ¬ (!false && belowD ⟨d.node, d.life, 0⟩ ⟨x.node, x.life, 0⟩) = true := by
        rw [Bool.not_false, Bool.true_and, belowC_iff]
        unfold ltC
        unfold ltM at hx
        dsimp only
        omega
      rw [setL, if_neg h1, if_neg h2, ih, e]
      simp only [List.getElem?_cons_succ]
      split
      · split <;> simp
      · simp
    · have e : posM (x :: r) d = 0 := by simp [posM, List.takeWhile_cons, hx]
      rw [e, setL]
      simp only [List.getElem?_cons_zero]
      split
      · rename_i h1
        rw [setL_true fun q hq => ?_]
        · simp
        · have := hp.1 q hq
          unfold ltM at this ⊢
          omega
      · rename_i h1
        have h2 : (!false && belowD ⟨d.node, d.life, 0⟩ ⟨x.node, x.life, 0⟩) = true := by
          rw [Bool.not_false, Bool.true_and, belowC_iff]
          unfold ltC
          unfold ltM at hx
          dsimp only
          omega
        rw [if_pos h2, setL_true fun q hq => ?_]
        · simp
        · have := hp.1 q hq
          unfold ltM at this hx ⊢
          omega

set_option maxHeartbeats 1000000 in
theorem c112 {w0 w : World} {L : List Chunk} {A A' : Option Addr} {cap cap' : Nat} {C : Ctx} {x y z : Int}
    (W : Wd w0 (rowOf 43 3 Dot.enc A cap C.marks :: rowOf 32 3 Dot.enc A' cap' C.cloud :: L) w) (hM : C.marks.Pairwise ltM) (hm : ∀ m ∈ C.marks, mayD m = true) (hd : mayD ⟨x, y, z⟩ = true) (hn : C.marks.length ≤ 4194304) (hn' : C.cloud.length ≤ 4194304) :
    RetsO Try.prog 112 #[.agg #[.slice A C.marks.length cap, .slice A' C.cloud.length cap'], .agg #[.int .i64 x, .int .i64 y, .int .i64 z]] w0 w fun v L' => ∃ A1 c1 A2 c2, v = .agg #[.slice A1 (growC C ⟨x, y, z⟩).marks.length c1, .slice A2 (growC C ⟨x, y, z⟩).cloud.length c2] ∧
      L' = rowOf 43 3 Dot.enc A1 c1 (growC C ⟨x, y, z⟩).marks :: rowOf 32 3 Dot.enc A2 c2 (growC C ⟨x, y, z⟩).cloud :: L := by
  have hd2 := may_bd hd
  dsimp only at hd2
  have hmk := markOf_may (x := x) (y := y) hm
  have hpl := posM_le C.marks ⟨x, y, z⟩
  unfold RetsO
  refine enterW2 W Try.func112 rfl Try.ntmps112 rfl fun a S => ?_
  unfold growC
  dsimp only
  by_cases h1 : z ≤ markOf C.marks x y
  · rw [if_pos h1]
    refine wp_seq_k fun _ hK1 => ?_
    refine wp_region_lit ?_
    (refine st_m (op_box S (Ev.t rfl) rfl ?_); clear S a; intro g1 a w S)
    (refine st_m (op_box S (Ev.t rfl) rfl ?_); clear S a w; intro g2 a w S)
    (refine st_m (op_alloc S Try.zeroValue36 (cs := _) rfl rfl ?_); clear S a w; intro g3 a w S)
    refine st_nil ?_
    (refine (then_normal (hK1 _ _ ?_)); clear hK1)
    refine wp_seq_k fun _ hK1 => ?_
    (refine st_quiet S (by kernel_rfl) (by kernel_rfl) ?_; clear S w; intro a S)
    (refine q_y S (Yr.ys (ys_ldA ⟨Try.isAgg36, Try.sizeOf36⟩ (Ev.t rfl) (k := 2) rfl rfl)) rfl ?_; clear S a; intro a S)
    (refine q_y S (Yr.ys (ys_ldA ⟨Try.isAgg32, Try.sizeOf32⟩ (Ev.t rfl) (k := 1) rfl rfl)) rfl ?_; clear S a; intro a S)
    (refine q_y S (ys_call Try.call61 (EvL.cons (Ev.t rfl) EvL.nil) (fun hp w W => c61 _ _ _ _)) rfl ?_; clear S a; intro a S)
    (refine q_y S (ys_call Try.call60 (EvL.cons (Ev.t rfl) (EvL.cons (Ev.t rfl) EvL.nil)) (fun hp w W => c60 _ _ _ _ _ _ (by first | assumption | omega | exact .old W (by assumption)  | exact Sl.of_own W (k := 3) rfl (fun _ => rfl) | exact Sl.of_own W (k := 4) rfl (fun _ => rfl) | (simp at hp; omega)))) rfl ?_; clear S a; intro a S)
    (refine q_y S (Yr.ys (ys_assign (Ev.t rfl))) rfl ?_; clear S a; intro a S)
    (refine q_nil ?_; intro w W; replace S := St.mk S W; clear W)
    (refine (then_normal (hK1 _ _ ?_)); clear hK1)
    refine wp_seq_k fun _ hK1 => ?_
    refine wp_block ?_
    refine wp_seq_k fun _ hK2 => ?_
    refine wp_region_lit ?_
    (refine st_y S (Yr.ys (ys_fieldN (FieldT.mk Try.underlying32 rfl Try.sizeOf3 rfl) (Ev.t rfl) (i' := 2) rfl)) rfl ?_; clear S a w; intro a w S)
    (refine st_y S (Yr.ys (ys_ld ⟨Try.isAgg3, Try.sizeOf3⟩ (Ev.t rfl) (k := 1) rfl rfl)) rfl ?_; clear S a w; intro a w S)
    (refine st_y S (Yr.ys (ys_move (Ev.t rfl))) rfl ?_; clear S a w; intro a w S)
    (refine st_y S (Yr.ys (ys_T (by omega) (ys_leq (Ev.t rfl) (Ev.t rfl)))) rfl ?_; clear S a w; intro a w S)
    (refine st_y S (Yr.ys (ys_assign (Ev.t rfl))) rfl ?_; clear S a w; intro a w S)
    refine st_nil ?_
    (refine (then_normal (hK2 _ _ ?_)); clear hK2)
    refine st_then S (Ev.t rfl) ?_
    refine wp_seq_k fun _ hK2 => ?_
    refine wp_region_lit ?_
    (refine st_y S (Yr.ys (ys_ldA ⟨Try.isAgg36, Try.sizeOf36⟩ (Ev.t rfl) (k := 2) rfl rfl)) rfl ?_; clear S a w; intro a w S)
    (refine st_m (op_stW S Try.sizeOf36 (Ev.t rfl) (Ev.t rfl) (k := 0) rfl rfl rfl (by simp [Value.oneCell']) ?_); clear S a w; intro a w S)
    refine st_nil ?_
    (refine (then_normal (hK2 _ _ ?_)); clear hK2)
    refine wp_ret ?_
    refine (in_ret (then_ret ?_))
    refine st_ret S (results1 S Try.results112 (Rv.cell (k := 0) ⟨Try.isAgg36, Try.sizeOf36⟩ rfl rfl rfl)) ?_
    exact ⟨_, rowOf 43 3 Dot.enc A cap C.marks :: rowOf 32 3 Dot.enc A' cap' C.cloud :: L, rfl, S.wd.sub (by repeat (first | exact List.Sublist.refl _ | exact List.nil_sublist _ | refine .cons_cons _ ?_ | refine .cons _ ?_)), A, cap, A', cap', rfl, rfl⟩
  rw [if_neg h1]
  by_cases h2 : markOf C.marks x y + 1 < z
  · rw [if_pos h2]
    refine wp_seq_k fun _ hK1 => ?_
    refine wp_region_lit ?_
    (refine st_m (op_box S (Ev.t rfl) rfl ?_); clear S a; intro g1 a w S)
    (refine st_m (op_box S (Ev.t rfl) rfl ?_); clear S a w; intro g2 a w S)
    (refine st_m (op_alloc S Try.zeroValue36 (cs := _) rfl rfl ?_); clear S a w; intro g3 a w S)
    refine st_nil ?_
    (refine (then_normal (hK1 _ _ ?_)); clear hK1)
    refine wp_seq_k fun _ hK1 => ?_
    (refine st_quiet S (by kernel_rfl) (by kernel_rfl) ?_; clear S w; intro a S)
    (refine q_y S (Yr.ys (ys_ldA ⟨Try.isAgg36, Try.sizeOf36⟩ (Ev.t rfl) (k := 2) rfl rfl)) rfl ?_; clear S a; intro a S)
    (refine q_y S (Yr.ys (ys_ldA ⟨Try.isAgg32, Try.sizeOf32⟩ (Ev.t rfl) (k := 1) rfl rfl)) rfl ?_; clear S a; intro a S)
    (refine q_y S (ys_call Try.call61 (EvL.cons (Ev.t rfl) EvL.nil) (fun hp w W => c61 _ _ _ _)) rfl ?_; clear S a; intro a S)
    (refine q_y S (ys_call Try.call60 (EvL.cons (Ev.t rfl) (EvL.cons (Ev.t rfl) EvL.nil)) (fun hp w W => c60 _ _ _ _ _ _ (by first | assumption | omega | exact .old W (by assumption)  | exact Sl.of_own W (k := 3) rfl (fun _ => rfl) | exact Sl.of_own W (k := 4) rfl (fun _ => rfl) | (simp at hp; omega)))) rfl ?_; clear S a; intro a S)
    (refine q_y S (Yr.ys (ys_assign (Ev.t rfl))) rfl ?_; clear S a; intro a S)
    (refine q_nil ?_; intro w W; replace S := St.mk S W; clear W)
    (refine (then_normal (hK1 _ _ ?_)); clear hK1)
    refine wp_seq_k fun _ hK1 => ?_
    refine wp_block ?_
    refine wp_seq_k fun _ hK2 => ?_
    refine wp_region_lit ?_
    (refine st_y S (Yr.ys (ys_fieldN (FieldT.mk Try.underlying32 rfl Try.sizeOf3 rfl) (Ev.t rfl) (i' := 2) rfl)) rfl ?_; clear S a w; intro a w S)
    (refine st_y S (Yr.ys (ys_ld ⟨Try.isAgg3, Try.sizeOf3⟩ (Ev.t rfl) (k := 1) rfl rfl)) rfl ?_; clear S a w; intro a w S)
    (refine st_y S (Yr.ys (ys_move (Ev.t rfl))) rfl ?_; clear S a w; intro a w S)
    (refine st_y S (Yr.ys (ys_F (by omega) (ys_leq (Ev.t rfl) (Ev.t rfl)))) rfl ?_; clear S a w; intro a w S)
    (refine st_y S (Yr.ys (ys_assign (Ev.t rfl))) rfl ?_; clear S a w; intro a w S)
    refine st_nil ?_
    (refine (then_normal (hK2 _ _ ?_)); clear hK2)
    refine st_else S (Ev.t rfl) ?_
    refine wp_seq_k fun _ hK2 => ?_
    refine wp_region_lit ?_
    (refine st_y S (Yr.ys (ys_fieldN (FieldT.mk Try.underlying32 rfl Try.sizeOf3 rfl) (Ev.t rfl) (i' := 2) rfl)) rfl ?_; clear S a w; intro a w S)
    (refine st_y S (Yr.ys (ys_ld ⟨Try.isAgg3, Try.sizeOf3⟩ (Ev.t rfl) (k := 1) rfl rfl)) rfl ?_; clear S a w; intro a w S)
    (refine st_y S (Yr.ys (ys_move (Ev.t rfl))) rfl ?_; clear S a w; intro a w S)
    (refine st_y S (Yr.ys (ys_addI (Ev.t rfl) Ev.c (fun _ => by unfold I64; omega))) rfl ?_; clear S a w; intro a w S)
    (refine st_y S (Yr.ys (ys_T (by omega) (ys_gtr (Ev.t rfl) (Ev.t rfl)))) rfl ?_; clear S a w; intro a w S)
    (refine st_y S (Yr.ys (ys_assign (Ev.t rfl))) rfl ?_; clear S a w; intro a w S)
    refine st_nil ?_
    (refine (then_normal (hK2 _ _ ?_)); clear hK2)
    refine st_then S (Ev.t rfl) ?_
    refine wp_seq_k fun _ hK2 => ?_
    refine wp_region_lit ?_
    (refine st_y S (Yr.ys (ys_fieldN (FieldT.mk Try.underlying36 rfl Try.sizeOf30 rfl) (Ev.t rfl) (i' := 1) rfl)) rfl ?_; clear S a w; intro a w S)
    (refine st_y S (Yr.ys (ys_ld ⟨Try.isAgg30, Try.sizeOf30⟩ (Ev.t rfl) (k := 2) rfl rfl)) rfl ?_; clear S a w; intro a w S)
    (refine st_y S (Yr.ys (ys_ldA ⟨Try.isAgg32, Try.sizeOf32⟩ (Ev.t rfl) (k := 1) rfl rfl)) rfl ?_; clear S a w; intro a w S)
    (refine st_m (op_bslice1 S Try.underlying30 inf32 rfl rfl rfl (Ev.t rfl) rfl rfl rfl ?_); clear S a w; intro g4 a w S)
    (refine st_m (op_push S Try.underlying30 inf32 rfl (k := 5) (j := 0) rfl (Ev.t rfl) (Ev.t rfl) rfl Go.Fw.Dot.mkEnc rfl rfl (by first | omega | (simp only [List.length_append, List.length_cons, List.length_nil]; omega)) rfl rfl rfl ?_); clear S a w; intro A1 cap1 a w S)
    (refine st_y S (Yr.ys (ys_fieldN (FieldT.mk Try.underlying36 rfl Try.sizeOf30 rfl) (Ev.t rfl) (i' := 1) rfl)) rfl ?_; clear S a w; intro a w S)
    (refine st_m (op_st S Try.sizeOf30 (Ev.t rfl) (Ev.t rfl) (k := 3) rfl rfl (by simp) ?_); clear S a w; intro a w S)
    refine st_nil ?_
    (refine (then_normal (hK2 _ _ ?_)); clear hK2)
    refine wp_seq_k fun _ hK2 => ?_
    refine wp_region_lit ?_
    (refine st_y S (Yr.ys (ys_ldA ⟨Try.isAgg36, Try.sizeOf36⟩ (Ev.t rfl) (k := 3) rfl rfl)) rfl ?_; clear S a w; intro a w S)
    (refine st_m (op_stW S Try.sizeOf36 (Ev.t rfl) (Ev.t rfl) (k := 1) rfl rfl rfl (by simp [Value.oneCell']) ?_); clear S a w; intro a w S)
    refine st_nil ?_
    (refine (then_normal (hK2 _ _ ?_)); clear hK2)
    refine wp_ret ?_
    refine (in_ret (then_ret ?_))
    refine st_ret S (results1 S Try.results112 (Rv.cell (k := 1) ⟨Try.isAgg36, Try.sizeOf36⟩ rfl rfl rfl)) ?_
    exact ⟨_, rowOf 43 3 Dot.enc A cap C.marks :: rowOf 32 3 Dot.enc A1 cap1 (C.cloud ++ [⟨x, y, z⟩]) :: L, rfl, S.wd.sub (by repeat (first | exact List.Sublist.refl _ | exact List.nil_sublist _ | refine .cons_cons _ ?_ | refine .cons _ ?_)), A, cap, A1, cap1, rfl, rfl⟩
  rw [if_neg h2]
  have hat := setL_at (d := ⟨x, y, z⟩) hM
  by_cases hh : hasM C.marks ⟨x, y, z⟩ = true
  · obtain ⟨m, hmm, hmx, hmy⟩ : ∃ m, C.marks[posM C.marks ⟨x, y, z⟩]? = some m ∧ m.node = x ∧ m.life = y := by
      unfold hasM at hh
      split at hh
      · rename_i m hmm
        exact ⟨m, hmm, by simpa using hh⟩
      · cases hh
    have hlt : posM C.marks ⟨x, y, z⟩ < C.marks.length := (List.getElem?_eq_some_iff.1 hmm).1
    obtain ⟨ga, rfl⟩ := W.row_at (k := 0) rfl (by have := (W.room (k := 0) rfl).1; omega)
    have rw_h : hasM C.marks ⟨x, y, z⟩ = true := hh
    have hmc := markOf_mem hM (List.mem_of_getElem? hmm)
    rw [hmx, hmy] at hmc
    have e : setL ⟨x, y, z⟩ false C.marks = C.marks.set (posM C.marks ⟨x, y, z⟩) ⟨m.node, m.life, z⟩ := by
      rw [hat, hmm]
      simp only
      rw [if_pos ⟨hmx, hmy⟩, show max m.count z = z by omega]
    rw [e]
    refine wp_seq_k fun _ hK1 => ?_
    refine wp_region_lit ?_
    (refine st_m (op_box S (Ev.t rfl) rfl ?_); clear S a; intro g1 a w S)
    (refine st_m (op_box S (Ev.t rfl) rfl ?_); clear S a w; intro g2 a w S)
    (refine st_m (op_alloc S Try.zeroValue36 (cs := _) rfl rfl ?_); clear S a w; intro g3 a w S)
    refine st_nil ?_
    (refine (then_normal (hK1 _ _ ?_)); clear hK1)
    refine wp_seq_k fun _ hK1 => ?_
    (refine st_quiet S (by kernel_rfl) (by kernel_rfl) ?_; clear S w; intro a S)
    (refine q_y S (Yr.ys (ys_ldA ⟨Try.isAgg36, Try.sizeOf36⟩ (Ev.t rfl) (k := 2) rfl rfl)) rfl ?_; clear S a; intro a S)
    (refine q_y S (Yr.ys (ys_ldA ⟨Try.isAgg32, Try.sizeOf32⟩ (Ev.t rfl) (k := 1) rfl rfl)) rfl ?_; clear S a; intro a S)
    (refine q_y S (ys_call Try.call61 (EvL.cons (Ev.t rfl) EvL.nil) (fun hp w W => c61 _ _ _ _)) rfl ?_; clear S a; intro a S)
    (refine q_y S (ys_call Try.call60 (EvL.cons (Ev.t rfl) (EvL.cons (Ev.t rfl) EvL.nil)) (fun hp w W => c60 _ _ _ _ _ _ (by first | assumption | omega | exact .old W (by assumption)  | exact Sl.of_own W (k := 3) rfl (fun _ => rfl) | exact Sl.of_own W (k := 4) rfl (fun _ => rfl) | (simp at hp; omega)))) rfl ?_; clear S a; intro a S)
    (refine q_y S (Yr.ys (ys_assign (Ev.t rfl))) rfl ?_; clear S a; intro a S)
    (refine q_nil ?_; intro w W; replace S := St.mk S W; clear W)
    (refine (then_normal (hK1 _ _ ?_)); clear hK1)
    refine wp_seq_k fun _ hK1 => ?_
    refine wp_block ?_
    refine wp_seq_k fun _ hK2 => ?_
    refine wp_region_lit ?_
    (refine st_y S (Yr.ys (ys_fieldN (FieldT.mk Try.underlying32 rfl Try.sizeOf3 rfl) (Ev.t rfl) (i' := 2) rfl)) rfl ?_; clear S a w; intro a w S)
    (refine st_y S (Yr.ys (ys_ld ⟨Try.isAgg3, Try.sizeOf3⟩ (Ev.t rfl) (k := 1) rfl rfl)) rfl ?_; clear S a w; intro a w S)
    (refine st_y S (Yr.ys (ys_move (Ev.t rfl))) rfl ?_; clear S a w; intro a w S)
    (refine st_y S (Yr.ys (ys_F (by omega) (ys_leq (Ev.t rfl) (Ev.t rfl)))) rfl ?_; clear S a w; intro a w S)
    (refine st_y S (Yr.ys (ys_assign (Ev.t rfl))) rfl ?_; clear S a w; intro a w S)
    refine st_nil ?_
    (refine (then_normal (hK2 _ _ ?_)); clear hK2)
    refine st_else S (Ev.t rfl) ?_
    refine wp_seq_k fun _ hK2 => ?_
    refine wp_region_lit ?_
    (refine st_y S (Yr.ys (ys_fieldN (FieldT.mk Try.underlying32 rfl Try.sizeOf3 rfl) (Ev.t rfl) (i' := 2) rfl)) rfl ?_; clear S a w; intro a w S)
    (refine st_y S (Yr.ys (ys_ld ⟨Try.isAgg3, Try.sizeOf3⟩ (Ev.t rfl) (k := 1) rfl rfl)) rfl ?_; clear S a w; intro a w S)
    (refine st_y S (Yr.ys (ys_move (Ev.t rfl))) rfl ?_; clear S a w; intro a w S)
    (refine st_y S (Yr.ys (ys_addI (Ev.t rfl) Ev.c (fun _ => by unfold I64; omega))) rfl ?_; clear S a w; intro a w S)
    (refine st_y S (Yr.ys (ys_F (by omega) (ys_gtr (Ev.t rfl) (Ev.t rfl)))) rfl ?_; clear S a w; intro a w S)
    (refine st_y S (Yr.ys (ys_assign (Ev.t rfl))) rfl ?_; clear S a w; intro a w S)
    refine st_nil ?_
    (refine (then_normal (hK2 _ _ ?_)); clear hK2)
    refine st_else S (Ev.t rfl) ?_
    refine wp_skip ?_
    (refine (in_normal (then_normal (hK1 _ _ ?_))); clear hK1)
    refine wp_seq_k fun _ hK1 => ?_
    refine wp_region_lit ?_
    (refine st_y S (Yr.ys (ys_fieldN (FieldT.mk Try.underlying36 rfl Try.sizeOf29 rfl) (Ev.t rfl) (i' := 0) rfl)) rfl ?_; clear S a w; intro a w S)
    (refine st_y S (Yr.ys (ys_ld ⟨Try.isAgg29, Try.sizeOf29⟩ (Ev.t rfl) (k := 2) rfl rfl)) rfl ?_; clear S a w; intro a w S)
    (refine st_y S (Yr.ys (ys_ldA ⟨Try.isAgg32, Try.sizeOf32⟩ (Ev.t rfl) (k := 1) rfl rfl)) rfl ?_; clear S a w; intro a w S)
    (refine st_y S (ys_call Try.call121 (EvL.cons (Ev.t rfl) (EvL.cons (Ev.t rfl) (EvL.cons Ev.f EvL.nil))) (fun hp w W => c121 _ _ _ _ _ _ (by first | assumption | omega | exact .old W (by assumption)  | exact Sl.of_own W (k := 3) rfl (fun _ => rfl) | exact Sl.of_own W (k := 4) rfl (fun _ => rfl) | (simp at hp; omega)) (by first | assumption | omega | exact .old W (by assumption)  | exact Sl.of_own W (k := 3) rfl (fun _ => rfl) | exact Sl.of_own W (k := 4) rfl (fun _ => rfl) | (simp at hp; omega)) (by first | assumption | omega | exact .old W (by assumption)  | exact Sl.of_own W (k := 3) rfl (fun _ => rfl) | exact Sl.of_own W (k := 4) rfl (fun _ => rfl) | (simp at hp; omega)) (by first | assumption | omega | exact .old W (by assumption)  | exact Sl.of_own W (k := 3) rfl (fun _ => rfl) | exact Sl.of_own W (k := 4) rfl (fun _ => rfl) | (simp at hp; omega)) (by first | assumption | omega | exact .old W (by assumption)  | exact Sl.of_own W (k := 3) rfl (fun _ => rfl) | exact Sl.of_own W (k := 4) rfl (fun _ => rfl) | (simp at hp; omega)))) rfl ?_; clear S a w; intro a w S)
    rw [rw_h] at S
    (refine st_y S (Yr.ys (ys_move (Ev.t rfl))) rfl ?_; clear S a w; intro a w S)
    (refine st_y S (Yr.ys (ys_ext (Ev.t rfl) rfl)) rfl ?_; clear S a w; intro a w S)
    (refine st_y S (Yr.ys (ys_ext (Ev.t rfl) rfl)) rfl ?_; clear S a w; intro a w S)
    (refine st_y S (Yr.ys (ys_assign (Ev.t rfl))) rfl ?_; clear S a w; intro a w S)
    (refine st_y S (Yr.ys (ys_assign (Ev.t rfl))) rfl ?_; clear S a w; intro a w S)
    refine st_nil ?_
    (refine (then_normal (hK1 _ _ ?_)); clear hK1)
    refine wp_seq_k fun _ hK1 => ?_
    refine wp_seq_k fun _ hK2 => ?_
    refine wp_region_lit ?_
    (refine st_y S (Yr.ys (ys_move (Ev.t rfl))) rfl ?_; clear S a w; intro a w S)
    refine st_nil ?_
    (refine (then_normal (hK2 _ _ ?_)); clear hK2)
    refine st_then S (Ev.t rfl) ?_
    refine wp_region_lit ?_
    (refine st_y S (Yr.ys (ys_fieldN (FieldT.mk Try.underlying36 rfl Try.sizeOf29 rfl) (Ev.t rfl) (i' := 0) rfl)) rfl ?_; clear S a w; intro a w S)
    (refine st_y S (Yr.ys (ys_ld ⟨Try.isAgg29, Try.sizeOf29⟩ (Ev.t rfl) (k := 2) rfl rfl)) rfl ?_; clear S a w; intro a w S)
    (refine st_y S (Yr.ys (ys_move (Ev.t rfl))) rfl ?_; clear S a w; intro a w S)
    (refine st_y S (Yr.ys (ys_fieldN (FieldT.mk Try.underlying32 rfl Try.sizeOf3 rfl) (Ev.t rfl) (i' := 2) rfl)) rfl ?_; clear S a w; intro a w S)
    (refine st_y S (Yr.ys (ys_ld ⟨Try.isAgg3, Try.sizeOf3⟩ (Ev.t rfl) (k := 1) rfl rfl)) rfl ?_; clear S a w; intro a w S)
    (refine st_y S (Yr.ys (ys_ixS Try.underlying29 Try.sizeOf43 (Ev.t rfl) (Ev.t rfl) (fun _ => by omega))) rfl ?_; clear S a w; intro a w S)
    (refine st_y S (Yr.ys (ys_field (FieldT.mk Try.underlying43 rfl Try.sizeOf3 rfl) (Ev.t rfl))) rfl ?_; clear S a w; intro a w S)
    refine st_m (op_stFld (enc := Dot.enc) (size := 3) (i := posM C.marks ⟨x, y, z⟩) (j := 2) ⟨m.node, m.life, z⟩ S (fun _ => rfl) Try.sizeOf3 (Ev.t rfl) (Ev.t rfl) rfl (k := 3) rfl hmm (by omega) rfl rfl ?_)
    clear S
    intro a w S
    refine st_nil ?_
    (refine (then_normal (hK1 _ _ ?_)); clear hK1)
    refine wp_seq_k fun _ hK1 => ?_
    refine wp_region_lit ?_
    (refine st_y S (Yr.ys (ys_ldA ⟨Try.isAgg36, Try.sizeOf36⟩ (Ev.t rfl) (k := 2) rfl rfl)) rfl ?_; clear S a w; intro a w S)
    (refine st_m (op_stW S Try.sizeOf36 (Ev.t rfl) (Ev.t rfl) (k := 0) rfl rfl rfl (by simp [Value.oneCell']) ?_); clear S a w; intro a w S)
    refine st_nil ?_
    (refine (then_normal (hK1 _ _ ?_)); clear hK1)
    refine wp_ret ?_
    refine st_ret S (results1 S Try.results112 (Rv.cell (k := 0) ⟨Try.isAgg36, Try.sizeOf36⟩ rfl rfl rfl)) ?_
    refine ⟨_, rowOf 43 3 Dot.enc (some ⟨ga, 0, none⟩) cap (C.marks.set (posM C.marks ⟨x, y, z⟩) ⟨m.node, m.life, z⟩) :: rowOf 32 3 Dot.enc A' cap' C.cloud :: L, rfl, S.wd.sub (by repeat (first | exact List.Sublist.refl _ | exact List.nil_sublist _ | refine .cons_cons _ ?_ | refine .cons _ ?_)), some ⟨ga, 0, none⟩, cap, A', cap', ?_, rfl⟩
    simp
  · have rw_h : hasM C.marks ⟨x, y, z⟩ = false := by simpa using hh
    have e : setL ⟨x, y, z⟩ false C.marks = C.marks.take (posM C.marks ⟨x, y, z⟩) ++ ⟨x, y, z⟩ :: C.marks.drop (posM C.marks ⟨x, y, z⟩) := by
      rw [hat]
      unfold hasM at rw_h
      split
      · rename_i m hmm
        rw [hmm] at rw_h
        rw [if_neg (by simpa using rw_h)]
      · rfl
    rw [e]
    refine wp_seq_k fun _ hK1 => ?_
    refine wp_region_lit ?_
    (refine st_m (op_box S (Ev.t rfl) rfl ?_); clear S a; intro g1 a w S)
    (refine st_m (op_box S (Ev.t rfl) rfl ?_); clear S a w; intro g2 a w S)
    (refine st_m (op_alloc S Try.zeroValue36 (cs := _) rfl rfl ?_); clear S a w; intro g3 a w S)
    refine st_nil ?_
    (refine (then_normal (hK1 _ _ ?_)); clear hK1)
    refine wp_seq_k fun _ hK1 => ?_
    (refine st_quiet S (by kernel_rfl) (by kernel_rfl) ?_; clear S w; intro a S)
    (refine q_y S (Yr.ys (ys_ldA ⟨Try.isAgg36, Try.sizeOf36⟩ (Ev.t rfl) (k := 2) rfl rfl)) rfl ?_; clear S a; intro a S)
    (refine q_y S (Yr.ys (ys_ldA ⟨Try.isAgg32, Try.sizeOf32⟩ (Ev.t rfl) (k := 1) rfl rfl)) rfl ?_; clear S a; intro a S)
    (refine q_y S (ys_call Try.call61 (EvL.cons (Ev.t rfl) EvL.nil) (fun hp w W => c61 _ _ _ _)) rfl ?_; clear S a; intro a S)
    (refine q_y S (ys_call Try.call60 (EvL.cons (Ev.t rfl) (EvL.cons (Ev.t rfl) EvL.nil)) (fun hp w W => c60 _ _ _ _ _ _ (by first | assumption | omega | exact .old W (by assumption)  | exact Sl.of_own W (k := 3) rfl (fun _ => rfl) | exact Sl.of_own W (k := 4) rfl (fun _ => rfl) | (simp at hp; omega)))) rfl ?_; clear S a; intro a S)
    (refine q_y S (Yr.ys (ys_assign (Ev.t rfl))) rfl ?_; clear S a; intro a S)
    (refine q_nil ?_; intro w W; replace S := St.mk S W; clear W)
    (refine (then_normal (hK1 _ _ ?_)); clear hK1)
    refine wp_seq_k fun _ hK1 => ?_
    refine wp_block ?_
    refine wp_seq_k fun _ hK2 => ?_
    refine wp_region_lit ?_
    (refine st_y S (Yr.ys (ys_fieldN (FieldT.mk Try.underlying32 rfl Try.sizeOf3 rfl) (Ev.t rfl) (i' := 2) rfl)) rfl ?_; clear S a w; intro a w S)
    (refine st_y S (Yr.ys (ys_ld ⟨Try.isAgg3, Try.sizeOf3⟩ (Ev.t rfl) (k := 1) rfl rfl)) rfl ?_; clear S a w; intro a w S)
    (refine st_y S (Yr.ys (ys_move (Ev.t rfl))) rfl ?_; clear S a w; intro a w S)
    (refine st_y S (Yr.ys (ys_F (by omega) (ys_leq (Ev.t rfl) (Ev.t rfl)))) rfl ?_; clear S a w; intro a w S)
    (refine st_y S (Yr.ys (ys_assign (Ev.t rfl))) rfl ?_; clear S a w; intro a w S)
    refine st_nil ?_
    (refine (then_normal (hK2 _ _ ?_)); clear hK2)
    refine st_else S (Ev.t rfl) ?_
    refine wp_seq_k fun _ hK2 => ?_
    refine wp_region_lit ?_
    (refine st_y S (Yr.ys (ys_fieldN (FieldT.mk Try.underlying32 rfl Try.sizeOf3 rfl) (Ev.t rfl) (i' := 2) rfl)) rfl ?_; clear S a w; intro a w S)
    (refine st_y S (Yr.ys (ys_ld ⟨Try.isAgg3, Try.sizeOf3⟩ (Ev.t rfl) (k := 1) rfl rfl)) rfl ?_; clear S a w; intro a w S)
    (refine st_y S (Yr.ys (ys_move (Ev.t rfl))) rfl ?_; clear S a w; intro a w S)
    (refine st_y S (Yr.ys (ys_addI (Ev.t rfl) Ev.c (fun _ => by unfold I64; omega))) rfl ?_; clear S a w; intro a w S)
    (refine st_y S (Yr.ys (ys_F (by omega) (ys_gtr (Ev.t rfl) (Ev.t rfl)))) rfl ?_; clear S a w; intro a w S)
    (refine st_y S (Yr.ys (ys_assign (Ev.t rfl))) rfl ?_; clear S a w; intro a w S)
    refine st_nil ?_
    (refine (then_normal (hK2 _ _ ?_)); clear hK2)
    refine st_else S (Ev.t rfl) ?_
    refine wp_skip ?_
    (refine (in_normal (then_normal (hK1 _ _ ?_))); clear hK1)
    refine wp_seq_k fun _ hK1 => ?_
    refine wp_region_lit ?_
    (refine st_y S (Yr.ys (ys_fieldN (FieldT.mk Try.underlying36 rfl Try.sizeOf29 rfl) (Ev.t rfl) (i' := 0) rfl)) rfl ?_; clear S a w; intro a w S)
    (refine st_y S (Yr.ys (ys_ld ⟨Try.isAgg29, Try.sizeOf29⟩ (Ev.t rfl) (k := 2) rfl rfl)) rfl ?_; clear S a w; intro a w S)
    (refine st_y S (Yr.ys (ys_ldA ⟨Try.isAgg32, Try.sizeOf32⟩ (Ev.t rfl) (k := 1) rfl rfl)) rfl ?_; clear S a w; intro a w S)
    (refine st_y S (ys_call Try.call121 (EvL.cons (Ev.t rfl) (EvL.cons (Ev.t rfl) (EvL.cons Ev.f EvL.nil))) (fun hp w W => c121 _ _ _ _ _ _ (by first | assumption | omega | exact .old W (by assumption)  | exact Sl.of_own W (k := 3) rfl (fun _ => rfl) | exact Sl.of_own W (k := 4) rfl (fun _ => rfl) | (simp at hp; omega)) (by first | assumption | omega | exact .old W (by assumption)  | exact Sl.of_own W (k := 3) rfl (fun _ => rfl) | exact Sl.of_own W (k := 4) rfl (fun _ => rfl) | (simp at hp; omega)) (by first | assumption | omega | exact .old W (by assumption)  | exact Sl.of_own W (k := 3) rfl (fun _ => rfl) | exact Sl.of_own W (k := 4) rfl (fun _ => rfl) | (simp at hp; omega)) (by first | assumption | omega | exact .old W (by assumption)  | exact Sl.of_own W (k := 3) rfl (fun _ => rfl) | exact Sl.of_own W (k := 4) rfl (fun _ => rfl) | (simp at hp; omega)) (by first | assumption | omega | exact .old W (by assumption)  | exact Sl.of_own W (k := 3) rfl (fun _ => rfl) | exact Sl.of_own W (k := 4) rfl (fun _ => rfl) | (simp at hp; omega)))) rfl ?_; clear S a w; intro a w S)
    rw [rw_h] at S
    (refine st_y S (Yr.ys (ys_move (Ev.t rfl))) rfl ?_; clear S a w; intro a w S)
    (refine st_y S (Yr.ys (ys_ext (Ev.t rfl) rfl)) rfl ?_; clear S a w; intro a w S)
    (refine st_y S (Yr.ys (ys_ext (Ev.t rfl) rfl)) rfl ?_; clear S a w; intro a w S)
    (refine st_y S (Yr.ys (ys_assign (Ev.t rfl))) rfl ?_; clear S a w; intro a w S)
    (refine st_y S (Yr.ys (ys_assign (Ev.t rfl))) rfl ?_; clear S a w; intro a w S)
    refine st_nil ?_
    (refine (then_normal (hK1 _ _ ?_)); clear hK1)
    refine wp_seq_k fun _ hK1 => ?_
    refine wp_seq_k fun _ hK2 => ?_
    refine wp_region_lit ?_
    (refine st_y S (Yr.ys (ys_move (Ev.t rfl))) rfl ?_; clear S a w; intro a w S)
    refine st_nil ?_
    (refine (then_normal (hK2 _ _ ?_)); clear hK2)
    refine st_else S (Ev.t rfl) ?_
    refine wp_region_lit ?_
    (refine st_y S (Yr.ys (ys_fieldN (FieldT.mk Try.underlying36 rfl Try.sizeOf29 rfl) (Ev.t rfl) (i' := 0) rfl)) rfl ?_; clear S a w; intro a w S)
    (refine st_y S (Yr.ys (ys_ld ⟨Try.isAgg29, Try.sizeOf29⟩ (Ev.t rfl) (k := 2) rfl rfl)) rfl ?_; clear S a w; intro a w S)
    (refine st_y S (Yr.ys (ys_move (Ev.t rfl))) rfl ?_; clear S a w; intro a w S)
    (refine st_y S (Yr.ys (ys_ldA ⟨Try.isAgg32, Try.sizeOf32⟩ (Ev.t rfl) (k := 1) rfl rfl)) rfl ?_; clear S a w; intro a w S)
    (refine st_m (op_bslice1 S Try.underlying29 inf43 rfl rfl rfl (Ev.t rfl) rfl rfl rfl ?_); clear S a w; intro g4 a w S)
    have hlen : (C.marks.take (posM C.marks ⟨x, y, z⟩) ++ (⟨x, y, z⟩ : Dot) :: C.marks.drop (posM C.marks ⟨x, y, z⟩)).length = C.marks.length + 1 := by simp; omega
    replace S := S.pull 4 rfl
    refine st_m (op_callO S Try.call123 (EvL.cons (Ev.t rfl) (EvL.cons (Ev.t rfl) (EvL.cons (Ev.t rfl) EvL.nil))) (k123 (enc := Dot.enc) (x := ⟨x, y, z⟩) (fun _ => rfl) (fun x u hu => by simp [Dot.enc] at hu; rcases hu with rfl | rfl | rfl <;> rfl) S.wd rfl (posM C.marks ⟨x, y, z⟩) hpl hn) rfl ?_)
    clear S
    rintro _ _ ⟨A1, c1, rfl, rfl⟩ a w S
    (refine st_y S (Yr.ys (ys_fieldN (FieldT.mk Try.underlying36 rfl Try.sizeOf29 rfl) (Ev.t rfl) (i' := 0) rfl)) rfl ?_; clear S a w; intro a w S)
    (refine st_m (op_st S Try.sizeOf29 (Ev.t rfl) (Ev.t rfl) (k := 3) rfl rfl (by simp) ?_); clear S a w; intro a w S)
    refine st_nil ?_
    (refine (then_normal (hK1 _ _ ?_)); clear hK1)
    refine wp_seq_k fun _ hK1 => ?_
    refine wp_region_lit ?_
    (refine st_y S (Yr.ys (ys_ldA ⟨Try.isAgg36, Try.sizeOf36⟩ (Ev.t rfl) (k := 3) rfl rfl)) rfl ?_; clear S a w; intro a w S)
    (refine st_m (op_stW S Try.sizeOf36 (Ev.t rfl) (Ev.t rfl) (k := 1) rfl rfl rfl (by simp [Value.oneCell']) ?_); clear S a w; intro a w S)
    refine st_nil ?_
    (refine (then_normal (hK1 _ _ ?_)); clear hK1)
    refine wp_ret ?_
    refine st_ret S (results1 S Try.results112 (Rv.cell (k := 1) ⟨Try.isAgg36, Try.sizeOf36⟩ rfl rfl rfl)) ?_
    refine ⟨_, rowOf 43 3 Dot.enc A1 c1 (C.marks.take (posM C.marks ⟨x, y, z⟩) ++ (⟨x, y, z⟩ : Dot) :: C.marks.drop (posM C.marks ⟨x, y, z⟩)) :: rowOf 32 3 Dot.enc A' cap' C.cloud :: L, rfl, S.wd.sub (by repeat (first | exact List.Sublist.refl _ | exact List.nil_sublist _ | refine .cons_cons _ ?_ | refine .cons _ ?_)), A1, c1, A', cap', ?_, rfl⟩
    dsimp only
    rw [hlen]
end Go.Proofs.Ytjfeeiljinbmjaa
