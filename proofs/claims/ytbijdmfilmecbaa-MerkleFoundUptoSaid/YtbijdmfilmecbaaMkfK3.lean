/- Contracts and laws that the statement Mkf leans on, part 3. -/
import Derived.Test.YtbijdmfilmecbaaMkfK2
set_option linter.unusedVariables false
set_option linter.unusedSimpArgs false
namespace Go.Fw
open Go.RowKit
def diffT (T U : List KH) (n : Nat) (p : Int) : Bool := decide (hashT U (4 - n) p.toNat ≠ hashT T (4 - n) p.toNat)
def candT (T U : List KH) : Nat → List Int
  | 0 => [0]
  | n + 1 => belowT ((candT T U n).filter (diffT T U n))
theorem unlike_sums {T U : List KH} {n : Nat} (l : List Int) : unlikeT U (n : Int) (sumsT T (n : Int) l) = l.filter (diffT T U n) := by
  have e : (4 - (n : Int)).toNat = 4 - n := by omega
  unfold unlikeT sumsT
  rw [List.filter_map, List.map_map, e]
  exact (List.map_congr_left fun _ _ => rfl).trans (List.map_id _)
theorem below_mem {l : List Int} {p : Int} : p ∈ belowT l ↔ ∃ r ∈ l, p = 2 * r ∨ p = 2 * r + 1 := by
  unfold belowT
  rw [List.mem_flatMap]
  simp
theorem cand_ok {T U : List KH} : ∀ (n : Nat), ∀ p ∈ candT T U n, 0 ≤ p ∧ p < 2 ^ n
  | 0, p, hp => by
    have : p = 0 := by simpa [candT] using hp
    subst this
    decide
  | n + 1, p, hp => by
    rw [candT, below_mem] at hp
    obtain ⟨r, hr, h⟩ := hp
    have ih := cand_ok n r (List.mem_filter.1 hr).1
    rw [Int.pow_succ]
    omega
theorem cand_okP {T U : List KH} {n : Nat} (hn : n ≤ 4) : okP (n : Int) 4 (candT T U n) = true := by
  unfold okP
  rw [decide_eq_true (show (0 : Int) ≤ n by omega), decide_eq_true (show (n : Int) ≤ 4 by omega), Bool.true_and, Bool.true_and, List.all_eq_true]
  intro p hp
  have := cand_ok n p hp
  rw [Int.toNat_natCast]
  exact decide_eq_true this
theorem filt_okP {T U : List KH} {n : Nat} (hn : n ≤ 4) {d : Int} (hd : (n : Int) ≤ d) : okP (n : Int) d ((candT T U n).filter (diffT T U n)) = true := by
  unfold okP
  rw [decide_eq_true (show (0 : Int) ≤ n by omega), decide_eq_true hd, Bool.true_and, Bool.true_and, List.all_eq_true]
  intro p hp
  have := cand_ok n p (List.mem_filter.1 hp).1
  rw [Int.toNat_natCast]
  exact decide_eq_true this
def underT (T : List KH) (n p : Nat) : List KH := T.filter fun x => decide (placeK x.1 / 2 ^ (4 - n) = p)
def NoClash (T U : List KH) : Prop := ∀ n, n ≤ 4 → ∀ p, p < 2 ^ n → hashT T (4 - n) p = hashT U (4 - n) p → underT T n p = underT U n p
theorem part_under {T : List KH} {n q : Nat} : partT T q = (underT T n (q / 2 ^ (4 - n))).filter fun x => decide (placeK x.1 = q) := by
  unfold partT underT
  rw [List.filter_filter]
  refine List.filter_congr fun x _ => ?_
  by_cases h : placeK x.1 = q
  · rw [h]; simp
  · simp [h]
theorem cand_mem {T U : List KH} (hc : NoClash T U) {q : Nat} (hq : q < 16) (hd : hashT T 0 q ≠ hashT U 0 q) : ∀ n, n ≤ 4 → ((q / 2 ^ (4 - n) : Nat) : Int) ∈ candT T U n ∧ diffT T U n ((q / 2 ^ (4 - n) : Nat) : Int) = true := by
  have hdiff : ∀ n, n ≤ 4 → diffT T U n ((q / 2 ^ (4 - n) : Nat) : Int) = true := fun n hn => by
    unfold diffT
    rw [Int.toNat_natCast]
    refine decide_eq_true fun e => hd ?_
    have hlt : q / 2 ^ (4 - n) < 2 ^ n := by
      rw [Nat.div_lt_iff_lt_mul (Nat.two_pow_pos _), ← Nat.pow_add, show n + (4 - n) = 4 by omega]
      exact hq
    have h1 := hc n hn _ hlt e.symm
    rw [hashT, hashT, part_under (T := T) (n := n), part_under (T := U) (n := n), h1]
  intro n
  induction n with
  | zero =>
    intro hn
    refine ⟨?_, hdiff 0 hn⟩
    have : q / 2 ^ (4 - 0) = 0 := Nat.div_eq_of_lt hq
    rw [this]
    simp [candT]
  | succ n ih =>
    intro hn
    obtain ⟨h1, h2⟩ := ih (by omega)
    refine ⟨?_, hdiff (n + 1) hn⟩
    rw [candT, below_mem]
    refine ⟨_, List.mem_filter.2 ⟨h1, h2⟩, ?_⟩
    have e : q / 2 ^ (4 - n) = q / 2 ^ (4 - (n + 1)) / 2 := by
      rw [Nat.div_div_eq_div_mul, ← Nat.pow_succ, show (4 - (n + 1)).succ = 4 - n by omega]
    rw [e]
    omega
theorem sets_from {T : List KH} : ∀ (l : List Sm) {S : List KH}, KhOk S → hashOk l → (∀ x ∈ S, x ∈ T) → (∀ s ∈ l, (s.key, s.hash) ∈ T) → ∀ x ∈ setsT S l, x ∈ T
  | [], _, _, _, h, _ => h
  | s :: r, S, hS, hh, h, hl => by
    show ∀ x ∈ setsT (if nameB s.key = true then setT s.key s.hash S else S) r, x ∈ T
    by_cases hn : nameB s.key = true
    · rw [if_pos hn]
      refine sets_from r (setT_ok hS hn (hh s (by simp))) (fun x hx => hh x (by simp [hx])) (fun x hx => ?_) (fun x hx => hl x (by simp [hx]))
      rcases (setT_mem hS.sorted).1 hx with rfl | ⟨hx, _⟩
      · exact hl s (by simp)
      · exact h x hx
    · rw [if_neg hn]
      exact sets_from r hS (fun x hx => hh x (by simp [hx])) h (fun x hx => hl x (by simp [hx]))
theorem keysT_mem {T : List KH} {l : List Int} {s : Sm} : s ∈ keysT T l ↔ ∃ p ∈ l, ∃ x ∈ partT T p.toNat, s = smP p x := by
  unfold keysT
  rw [List.mem_flatMap]
  constructor
  · rintro ⟨p, hp, h⟩
    obtain ⟨x, hx, rfl⟩ := List.mem_map.1 h
    exact ⟨p, hp, x, hx, rfl⟩
  · rintro ⟨p, hp, x, hx, rfl⟩
    exact ⟨p, hp, List.mem_map.2 ⟨x, hx, rfl⟩⟩
theorem keysT_ok {T : List KH} (hT : KhOk T) (l : List Int) : hashOk (keysT T l) ∧ namesOk (keysT T l) = true ∧ ∀ s ∈ keysT T l, (s.key, s.hash) ∈ T := by
  have key : ∀ s ∈ keysT T l, (s.key, s.hash) ∈ T := fun s hs => by
    obtain ⟨p, _, x, hx, rfl⟩ := keysT_mem.1 hs
    exact (partT_mem.1 hx).1
  refine ⟨fun s hs => hT.hash _ (key s hs), ?_, key⟩
  unfold namesOk
  rw [List.all_eq_true]
  exact fun s hs => hT.name _ (key s hs)
theorem keysT_tree {T : List KH} (hT : KhOk T) {l : List Int} (h0 : ∀ p ∈ l, 0 ≤ p) {k : List UInt8} {h : Int} : (k, h) ∈ setsT [] (keysT T l) ↔ (k, h) ∈ T ∧ (placeK k : Int) ∈ l := by
  obtain ⟨k1, k2, k3⟩ := keysT_ok hT l
  have hsub := sets_from (T := T) (keysT T l) kh_nil k1 (by simp) k3
  have hhas := sets_has (k := k) (keysT T l) kh_nil k1 k2
  generalize hpk : placeK k = pk
  have hkey : (∃ s ∈ keysT T l, s.key = k) → (pk : Int) ∈ l := by
    rintro ⟨s, hs, he⟩
    obtain ⟨p, hp, x, hx, hxs⟩ := keysT_mem.1 hs
    have h2 := (partT_mem.1 hx).2
    have h1 := h0 p hp
    have h3 : x.1 = k := by rw [← he, hxs]; rfl
    rw [h3, hpk] at h2
    rw [h2, Int.toNat_of_nonneg h1]
    exact hp
  constructor
  · intro hm
    refine ⟨hsub _ hm, hkey ?_⟩
    rcases hhas.1 ⟨h, hm⟩ with ⟨_, h1⟩ | h1
    · cases h1
    · exact h1
  · rintro ⟨hm, hp⟩
    have hpt : (k, h) ∈ partT T ((pk : Int).toNat) := partT_mem.2 ⟨hm, by rw [Int.toNat_natCast]; exact hpk⟩
    obtain ⟨h', hm'⟩ := hhas.2 (.inr ⟨smP (pk : Int) (k, h), keysT_mem.2 ⟨_, hp, (k, h), hpt, rfl⟩, rfl⟩)
    rw [key_inj hT.sorted hm (hsub _ hm')]
    exact hm'
theorem miss_ext {U : List KH} {s1 s2 : List Sm} {p1 p2 : List Int} (hU : KhOk U) (h1 : hashOk s1) (h2 : hashOk s2) (h : ∀ k, k ∈ missT U s1 p1 ↔ k ∈ missT U s2 p2) : missT U s1 p1 = missT U s2 p2 := by
  have a1 := miss_sorted (places := p1) hU h1
  have a2 := miss_sorted (places := p2) hU h2
  rw [List.pairwise_map] at a1 a2
  exact mem_ext_sorted (R := fun a b => Op.bytesLess a b = true) (fun a => by rw [less_irr]; simp) (fun a b h => by rw [less_asymm h]; simp) a1 a2 h
theorem found_all {T U : List KH} (hT : KhOk T) (hU : KhOk U) (hc : NoClash T U) :
    missT U (keysT T ((candT T U 4).filter (diffT T U 4))) ((candT T U 4).filter (diffT T U 4)) = missT U (T.map (smP 0)) ((List.range 16).map fun i : Nat => (i : Int)) := by
  obtain ⟨X, hX⟩ : ∃ X, (candT T U 4).filter (diffT T U 4) = X := ⟨_, rfl⟩
  rw [hX]
  have h0 : ∀ p ∈ X, 0 ≤ p := fun p hp => by rw [← hX] at hp; exact (cand_ok 4 p (List.mem_filter.1 hp).1).1
  obtain ⟨k1, k2, k3⟩ := keysT_ok hT X
  have hX2 : ∀ k, hashT T 0 (placeK k) ≠ hashT U 0 (placeK k) → ((placeK k : Nat) : Int) ∈ X := fun k hne => by
    have := cand_mem hc (placeK_lt k) hne 4 (Nat.le_refl _)
    rw [show placeK k / 2 ^ (4 - 4) = placeK k by simp] at this
    rw [← hX]
    exact List.mem_filter.2 this
  have hpart : ∀ k, ((placeK k : Nat) : Int) ∉ X → partT T (placeK k) = partT U (placeK k) := fun k hn => by
    have he : hashT T 0 (placeK k) = hashT U 0 (placeK k) := Decidable.byContradiction fun h => hn (hX2 k h)
    have h1 := hc 4 (Nat.le_refl _) (placeK k) (placeK_lt k) he
    rw [part_under (T := T) (n := 4), part_under (T := U) (n := 4), show placeK k / 2 ^ (4 - 4) = placeK k by simp, h1]
  have hn2 : namesOk (T.map (smP 0)) = true := by
    unfold namesOk
    rw [List.all_eq_true]
    intro s hs
    obtain ⟨x, hx, rfl⟩ := List.mem_map.1 hs
    exact hT.name x hx
  refine miss_ext hU k1 (smp_ok hT) fun k => ?_
  rw [miss_mem hU k1 k2, miss_mem hU (smp_ok hT) hn2, sets_self T hT]
  have hV := sets_ok _ k1 kh_nil
  have hall : ((placeK k : Nat) : Int) ∈ (List.range 16).map fun i : Nat => (i : Int) := List.mem_map.2 ⟨placeK k, List.mem_range.2 (placeK_lt k), rfl⟩
  have hget : ((placeK k : Nat) : Int) ∈ X → getT (setsT [] (keysT T X)) k = getT T k := fun hp => by
    cases hg : getT T k with
    | some v => exact getT_mem hV.sorted ((keysT_tree hT h0).2 ⟨getT_some hg, hp⟩)
    | none =>
      cases hg2 : getT (setsT [] (keysT T X)) k with
      | none => rfl
      | some v => exact absurd rfl (getT_none hg _ ((keysT_tree hT h0).1 (getT_some hg2)).1)
  constructor
  · rintro ⟨hp, h⟩
    refine ⟨hall, ?_⟩
    rw [hget hp] at h
    rcases h with h | ⟨⟨u, hu⟩, h⟩
    · exact .inl h
    · exact .inr ⟨⟨u, ((keysT_tree hT h0).1 hu).1⟩, h⟩
  · rintro ⟨_, h⟩
    have hp : ((placeK k : Nat) : Int) ∈ X := Decidable.byContradiction fun hn => by
      have he := hpart k hn
      rcases h with ⟨v, hv, h⟩ | ⟨⟨u, hu⟩, h⟩
      · have : (k, v) ∈ partT T (placeK k) := by rw [he]; exact partT_mem.2 ⟨hv, rfl⟩
        exact h (getT_mem hT.sorted (partT_mem.1 this).1)
      · have : (k, u) ∈ partT U (placeK k) := by rw [← he]; exact partT_mem.2 ⟨hu, rfl⟩
        exact h u (partT_mem.1 this).1
    refine ⟨hp, ?_⟩
    rw [hget hp]
    rcases h with h | ⟨⟨u, hu⟩, h⟩
    · exact .inl h
    · exact .inr ⟨⟨u, (keysT_tree hT h0).2 ⟨hu, hp⟩⟩, h⟩
end Go.Fw
set_option linter.unusedVariables false
set_option linter.unusedSimpArgs false
set_option maxRecDepth 100000
set_option maxHeartbeats 4000000
namespace Go.Fw
open Go.RowKit
theorem under_snoc_yes {T : List KH} {n p q : Nat} {x : KH} (h : T[q]? = some x) (hx : placeK x.1 / 2 ^ (4 - n) = p) : (underT (T.take (q + 1)) n p).map (smP 0) = (underT (T.take q) n p).map (smP 0) ++ [smP 0 x] := by
  unfold underT
  rw [List.take_add_one, h, Option.toList_some, List.filter_append, List.map_append]
  simp [hx]
theorem under_snoc_no {T : List KH} {n p q : Nat} {x : KH} (h : T[q]? = some x) (hx : ¬ placeK x.1 / 2 ^ (4 - n) = p) : (underT (T.take (q + 1)) n p).map (smP 0) = (underT (T.take q) n p).map (smP 0) := by
  unfold underT
  rw [List.take_add_one, h, Option.toList_some, List.filter_append, List.map_append]
  simp [hx]
theorem under_len (T : List KH) (n p : Nat) : (underT T n p).length ≤ T.length := List.length_filter_le _ _
theorem smP_inj {l l' : List KH} : l.map (smP 0) = l'.map (smP 0) ↔ l = l' := by
  constructor
  · intro h
    induction l generalizing l' with
    | nil => cases l' with
      | nil => rfl
      | cons y s => simp at h
    | cons x r ih => cases l' with
      | nil => simp at h
      | cons y s =>
        rw [List.map_cons, List.map_cons, List.cons.injEq] at h
        have h1 : x = y := by
          have e := h.1
          unfold smP at e
          simp only [Sm.mk.injEq, true_and] at e
          exact Prod.ext e.1 e.2
        rw [h1, ih h.2]
  · intro h; rw [h]
def clB (T U : List KH) (n p : Nat) : Bool := decide (hashT T (4 - n) p = hashT U (4 - n) p) && !decide ((underT T n p).map (smP 0) = (underT U n p).map (smP 0))
def clL (T U : List KH) (n m : Nat) : Bool := (List.range m).any fun p => clB T U n p
def clA (T U : List KH) (n : Nat) : Bool := (List.range n).any fun i => clL T U i (2 ^ i)
theorem clL_succ (T U : List KH) (n m : Nat) : clL T U n (m + 1) = (clL T U n m || clB T U n m) := by unfold clL; rw [List.range_succ, List.any_append]; simp
theorem clA_succ (T U : List KH) (n : Nat) : clA T U (n + 1) = (clA T U n || clL T U n (2 ^ n)) := by unfold clA; rw [List.range_succ, List.any_append]; simp
theorem clL_true {T U : List KH} {n m p : Nat} (hp : p < m) (h : clB T U n p = true) : clL T U n m = true := List.any_eq_true.2 ⟨p, List.mem_range.2 hp, h⟩
theorem clA_true {T U : List KH} {n m : Nat} (hp : n < m) (h : clL T U n (2 ^ n) = true) : clA T U m = true := List.any_eq_true.2 ⟨n, List.mem_range.2 hp, h⟩
theorem no_clash {T U : List KH} (h : clA T U 5 = false) : NoClash T U := fun n hn p hp he => by
  refine Decidable.byContradiction fun hne => ?_
  have : clA T U 5 = true := clA_true (n := n) (by omega) (clL_true hp (by
    unfold clB
    rw [decide_eq_true he, Bool.true_and, decide_eq_false (fun e => hne (smP_inj.1 e))]
    rfl))
  rw [h] at this
  cases this
end Go.Fw
namespace Go.Proofs.Ytbijdmfilmecbaa
open Go.Fw Go.Proofs Go.RowKit Go.Proofs.Try
theorem c62 (w0 : World) (g cap : Nat) (A : Option Addr) (T : List KH) (n p : Nat) (h : DocAt w0 g A cap T) (hT : KhOk T) (hl : T.length ≤ 4194304) (hn : n < 5) :
    Rets Try.prog 62 #[.pointer (some ⟨g, 0, none⟩), .int .i64 (n : Int), .int .i64 (p : Int)] w0 fun v L => ∃ B c, v = .slice B ((underT T n p).map (smP 0)).length c ∧ L = [rowOf 28 3 Sm.enc B c ((underT T n p).map (smP 0))] := by
  have hk := h.keys
  obtain ⟨A', cap', e, hl1, hcap, hA⟩ := h.row
  cases e
  unfold Go.Fw.Rets
  refine enter3 func62 rfl ntmps62 rfl fun a S => sg S (.ac rfl <| .z) fun a w S => sg S (.ac rfl <| .z) fun a w S => wp_seq_k fun _ hK1 => sg S (.mv rfl <| .yy (ys_nilc (.t rfl)) rfl <| .fa underlying69 sizeOf22 0 rfl rfl rfl <| .yy (ys_ldO ⟨isAgg22, sizeOf22⟩ (.t rfl) (fun _ => hk)) rfl <| .ln underlying22 rfl <| .mc rfl <| .z) fun a w S => wp_block ?_
  refine st_lpM (S.nil_ 28 3 Sm.enc none) [7, 15] (X := Nat × Option Addr × Nat) (fun q => [(7, true, .slice q.2.1 ((underT (T.take q.1) n p).map (smP 0)).length q.2.2), (15, true, .int .i64 (q.1 : Int))]) (fun q => [rowOf 28 3 Sm.enc q.2.1 q.2.2 ((underT (T.take q.1) n p).map (smP 0))]) (fun q => q.1 ≤ T.length) (fun q => T.length - q.1) (0, none, 0) (Nat.zero_le _) ?_
  clear S
  rintro ⟨q, B, cB⟩ a w hq S
  dsimp only at hq S
  have hpl : ((underT (T.take q) n p).map (smP 0)).length ≤ T.length := by
    rw [List.length_map]
    exact Nat.le_trans (under_len _ _ _) (by rw [List.length_take]; omega)
  by_cases hlt : q < T.length
  · obtain ⟨gr, o_, x, rfl, hx, hd, hcx⟩ := row_at hA hlt
    have hxl := name_len (hT.name x (List.mem_of_getElem? hx))
    have hy := under_snoc_yes (n := n) (p := p) hx
    have hno := under_snoc_no (n := n) (p := p) hx
    generalize (underT (T.take q) n p).map (smP 0) = M at *
    obtain ⟨d, hd4⟩ : ∃ d, 4 - n = d := ⟨_, rfl⟩
    rw [hd4] at hy hno
    have rw_4 : (4 : Int) - (n : Int) = (d : Int) := by omega
    have rw_5 : IntKind.i64.wrap ((4 : Int) - (n : Int)) = (d : Int) := by rw [IntKind.wrap_i64]; omega
    have hpk := placeK_lt x.1
    obtain ⟨pk, rw_pk⟩ : ∃ y, placeK x.1 = y := ⟨_, rfl⟩
    rw [rw_pk] at hpk hy hno
    have rw_q : Int.fdiv ((pk : Nat) : Int) (2 ^ d) = ((pk / 2 ^ d : Nat) : Int) := by rw [Int.fdiv_eq_ediv_of_nonneg _ (by have := Int.pow_pos (n := 2) (m := d) (by omega); omega)]; simp
    generalize pk / 2 ^ d = z at *
    by_cases hz : z = p
    · have rw_z : decide ((z : Int) = (p : Int)) = true := decide_eq_true (by omega)
      have hst := hy hz
      refine sg S (.lt (by omega) rfl rfl <| .z) fun a w S => wp_seq_k fun _ hK2 => st_then S (.t rfl) (wp_skip (then_normal (hK2 _ _ (wp_seq_k fun _ hK2 => wp_block (wp_seq_k fun _ hK3 => wp_region_lit (run S (.ix underlying22 sizeOf28 (by omega) rfl rfl <| .yy (ys_ldOA ⟨isAgg28, sizeOf28⟩ (.t rfl) (vs := [_, _, _]) rfl (fun _ => hcx)) rfl <| .z) fun a w S => st_m (op_alloc S zeroValue28 (cs := _) rfl rfl fun g1 a w S => st_m (op_stW S sizeOf28 (.t rfl) (.t rfl) (k := 0) rfl rfl rfl (by simp [Value.oneCell']) fun a w S => st_nil (then_normal (hK3 _ _ (wp_seq_k fun _ hK3 => wp_region_lit (run S (.fa underlying28 sizeOf9 1 rfl rfl rfl <| .ld gt9 0 rfl rfl rfl <| .xx (ys_call call15 (.cons (.t rfl) .nil) (fun hp w W => c15 _ _ (by omega))) rfl <| .z) fun a w S => ?_))))))))))))
      rw [rw_pk] at S
      refine run S (.mv rfl <| .yy (ys_subI Ev.c (.t rfl) (fun _ => by unfold I64; omega)) rfl <| .z) fun a w S => ?_
      rw [rw_4] at S
      refine run S (.yy (ys_shr (.t rfl) (.t rfl) (Nat.ble_eq_true_of_le (by show _ ≤ 64; omega))) rfl <| .z) fun a w S => ?_
      rw [rw_q] at S
      refine run S (.mv rfl <| .yy (ys_T (by omega) (ys_eql (.t rfl) (.t rfl))) rfl <| .z) fun a w S => st_nil (then_normal (hK3 _ _ (st_then S (.t rfl) (wp_region_lit (run S (.mv rfl <| .la gt28 0 rfl rfl rfl <| .z) fun a w S => st_m (op_bslice1 S underlying22 inf28 rfl rfl rfl (.t rfl) rfl rfl rfl fun g2 a w S => st_m (op_push S underlying22 inf28 rfl (k := 2) (j := 0) rfl (.t rfl) (.t rfl) rfl Go.Fw.Sm.mkEnc rfl rfl (by first | omega | (simp only [List.length_append, List.length_cons, List.length_nil]; omega)) rfl rfl rfl fun A1 cap1 a w S => run S (.as rfl <| .z) fun a w S => st_nil (in_normal (then_normal (hK2 _ _ (wp_region_lit (run S (.ad (by unfold I64; omega) rfl <| .mv rfl <| .z) fun a w S => st_nil (then_normal ?_)))))))))))))
      exact ⟨(q + 1, A1, cap1), by dsimp only; omega, by dsimp only; omega, by dsimp only; rw [hst]; exact S.pk⟩
    · have rw_z : decide ((z : Int) = (p : Int)) = false := decide_eq_false (by omega)
      have hst := hno hz
      refine sg S (.lt (by omega) rfl rfl <| .z) fun a w S => wp_seq_k fun _ hK2 => st_then S (.t rfl) (wp_skip (then_normal (hK2 _ _ (wp_seq_k fun _ hK2 => wp_block (wp_seq_k fun _ hK3 => wp_region_lit (run S (.ix underlying22 sizeOf28 (by omega) rfl rfl <| .yy (ys_ldOA ⟨isAgg28, sizeOf28⟩ (.t rfl) (vs := [_, _, _]) rfl (fun _ => hcx)) rfl <| .z) fun a w S => st_m (op_alloc S zeroValue28 (cs := _) rfl rfl fun g1 a w S => st_m (op_stW S sizeOf28 (.t rfl) (.t rfl) (k := 0) rfl rfl rfl (by simp [Value.oneCell']) fun a w S => st_nil (then_normal (hK3 _ _ (wp_seq_k fun _ hK3 => wp_region_lit (run S (.fa underlying28 sizeOf9 1 rfl rfl rfl <| .ld gt9 0 rfl rfl rfl <| .xx (ys_call call15 (.cons (.t rfl) .nil) (fun hp w W => c15 _ _ (by omega))) rfl <| .z) fun a w S => ?_))))))))))))
      rw [rw_pk] at S
      refine run S (.mv rfl <| .yy (ys_subI Ev.c (.t rfl) (fun _ => by unfold I64; omega)) rfl <| .z) fun a w S => ?_
      rw [rw_4] at S
      refine run S (.yy (ys_shr (.t rfl) (.t rfl) (Nat.ble_eq_true_of_le (by show _ ≤ 64; omega))) rfl <| .z) fun a w S => ?_
      rw [rw_q] at S
      refine run S (.mv rfl <| .yy (ys_F (by omega) (ys_eql (.t rfl) (.t rfl))) rfl <| .z) fun a w S => st_nil (then_normal (hK3 _ _ (st_else S (.t rfl) (wp_skip (in_normal (then_normal (hK2 _ _ (wp_region_lit (run S (.ad (by unfold I64; omega) rfl <| .mv rfl <| .z) fun a w S => st_nil (then_normal ?_))))))))))
      exact ⟨(q + 1, B, cB), by dsimp only; omega, by dsimp only; omega, by dsimp only; rw [hst]; exact S.pk⟩
  obtain rfl : q = T.length := by omega
  rw [List.take_length] at S
  refine sg S (.ge (by omega) rfl rfl <| .z) fun a w S => wp_seq_k fun _ hK2 => st_else S (.t rfl) (wp_exit (then_exit (then_exit (in_here (then_normal (hK1 _ _ (sg S (.mv rfl <| .as rfl <| .z) fun a w S => wp_ret (st_ret S (results1 S results62 (Rv.tmp rfl)) ?_))))))))
  exact ⟨_, _, rfl, S.wd.pk, _, _, rfl, rfl⟩
theorem c34 (w0 : World) (g cap g' cap' : Nat) (A A' : Option Addr) (T U : List KH) (h : DocAt w0 g A cap T) (h' : DocAt w0 g' A' cap' U) (hT : KhOk T) (hU : KhOk U) (hl : T.length ≤ 4194304) (hl' : U.length ≤ 4194304) :
    Calls Try.prog 34 #[.pointer (some ⟨g, 0, none⟩), .pointer (some ⟨g', 0, none⟩)] w0 fun e w' => e = .returned (.bool (clA T U 5)) ∧ Bel w0.heap.size w0 w' := by
  refine enter2 func34 rfl ntmps34 rfl fun a S => sg S (.ac rfl <| .z) fun a w S => wp_seq_k fun _ hK1 => sg S (.mc rfl <| .z) fun a w S => wp_block ?_
  refine st_lpM S [4, 7] (X := Nat) (fun q => [(4, true, .bool false), (7, true, .int .i64 (q : Int))]) (fun _ => []) (fun q => q ≤ 5 ∧ clA T U q = false) (fun q => 5 - q) 0 ⟨Nat.zero_le _, rfl⟩ ?_
  clear S
  rintro i a w ⟨hi, hci⟩ S
  by_cases hlt : i < 5
  · obtain ⟨m, hm⟩ : ∃ m, 2 ^ i = m := ⟨_, rfl⟩
    have hm16 : m ≤ 16 := by rw [← hm]; exact pow_le16 hlt
    have rw_s : IntKind.i64.wrap (1 * 2 ^ i) = (m : Int) := by rw [pow_shl (by omega), ← hm]; simp
    have hsa := clA_succ T U i
    rw [hci, hm, Bool.false_or] at hsa
    refine sg S (.yy (ys_T (by omega) (ys_lss (.t rfl) Ev.c)) rfl <| .z) fun a w S => wp_seq_k fun _ hK2 => st_then S (.t rfl) (wp_skip (then_normal (hK2 _ _ (wp_seq_k fun _ hK2 => wp_block (sg S (.mv rfl <| .as rfl <| .z) fun a w S => wp_seq_k fun _ hK3 => wp_region_lit (run S (.mv rfl <| .yy (ys_shl Ev.c (.t rfl) (Nat.ble_eq_true_of_le (by show _ ≤ 64; omega))) rfl <| .z) fun a w S => ?_))))))
    rw [rw_s] at S
    refine run S (.mc rfl <| .z) fun a w S => st_nil (then_normal (hK3 _ _ (wp_block ?_)))
    refine st_lpM S [4, 12] (X := Nat) (fun q => [(4, true, .bool false), (12, true, .int .i64 (q : Int))]) (fun _ => []) (fun q => q ≤ m ∧ clL T U i q = false) (fun q => m - q) 0 ⟨Nat.zero_le _, rfl⟩ ?_
    clear S
    rintro p a w ⟨hp, hcp⟩ S
    by_cases hpm : p < m
    · have hsl := clL_succ T U i p
      rw [hcp, Bool.false_or] at hsl
      have hb : clB T U i p = (decide (hashT T (4 - i) p = hashT U (4 - i) p) && !decide ((underT T i p).map (smP 0) = (underT U i p).map (smP 0))) := rfl
      have h1 : (0 : Int) ≤ (i : Int) ∧ (i : Int) ≤ 4 := by omega
      have h2 : (0 : Int) ≤ (p : Int) ∧ (p : Int) < 2 ^ (i : Int).toNat := by
        refine ⟨by omega, ?_⟩
        rw [Int.toNat_natCast]
        have h3 : ((2 ^ i : Nat) : Int) = 2 ^ i := by simp
        rw [← h3, hm]; omega
      have rw_t : (4 - (i : Int)).toNat = 4 - i := by omega
      have rw_p : ((p : Int)).toNat = p := Int.toNat_natCast p
      obtain ⟨x, rw_x⟩ : ∃ y, hashT T (4 - i) p = y := ⟨_, rfl⟩
      obtain ⟨y, rw_y⟩ : ∃ y, hashT U (4 - i) p = y := ⟨_, rfl⟩
      rw [rw_x, rw_y] at hb
      by_cases hxy : x = y
      · have rw_d := decide_eq_true hxy
        rw [rw_d, Bool.true_and] at hb
        by_cases hun : (underT T i p).map (smP 0) = (underT U i p).map (smP 0)
        · have rw_u := decide_eq_true hun
          rw [rw_u] at hb
          refine sg S (.lt (by omega) rfl rfl <| .z) fun a w S => wp_seq_k fun _ hK3 => st_then S (.t rfl) (wp_skip (then_normal (hK3 _ _ (wp_seq_k fun _ hK3 => wp_block (sg S (.mv rfl <| .as rfl <| .z) fun a w S => wp_seq_k fun _ hK4 => wp_region_lit (run S (.mv rfl <| .mv rfl <| .mv rfl <| .xx (ys_call call56 (.cons (.t rfl) (.cons (.t rfl) (.cons (.t rfl) .nil))) (fun hp w W => c56 _ _ _ _ _ _ _ (by exact .old W (by assumption)) (by assumption) (by assumption) (by assumption) (by assumption))) rfl <| .z) fun a w S => ?_))))))
          rw [rw_t] at S
          rw [rw_p] at S
          rw [rw_x] at S
          refine run S (.mv rfl <| .mv rfl <| .mv rfl <| .xx (ys_call call56 (.cons (.t rfl) (.cons (.t rfl) (.cons (.t rfl) .nil))) (fun hp w W => c56 _ _ _ _ _ _ _ (by exact .old W (by assumption)) (by assumption) (by assumption) (by assumption) (by assumption))) rfl <| .z) fun a w S => ?_
          rw [rw_t] at S
          rw [rw_p] at S
          rw [rw_y] at S
          refine run S (.yy (ys_T (by omega) (ys_eql (.t rfl) (.t rfl))) rfl <| .mv rfl <| .gy rfl rfl (ys_move (.t rfl)) <| .gy rfl rfl (ys_move (.t rfl)) <| .gy rfl rfl (ys_move (.t rfl)) <| .z) fun a w S => ?_
          (refine st_mg S rfl rfl (op_calls S call62 (.cons (.t rfl) (.cons (.t rfl) (.cons (.t rfl) .nil))) (c62 _ _ _ _ _ _ _ (by exact .old S.wd (by assumption)) (by assumption) (by assumption) (by assumption)) rfl ?_); clear S a w; rintro _ _ ⟨B1, c1, rfl, rfl⟩ a w S)
          refine run S (.gy rfl rfl (ys_move (.t rfl)) <| .gy rfl rfl (ys_move (.t rfl)) <| .gy rfl rfl (ys_move (.t rfl)) <| .z) fun a w S => ?_
          (refine st_mg S rfl rfl (op_calls S call62 (.cons (.t rfl) (.cons (.t rfl) (.cons (.t rfl) .nil))) (c62 _ _ _ _ _ _ _ (by exact .old S.wd (by assumption)) (by assumption) (by assumption) (by assumption)) rfl ?_); clear S a w; rintro _ _ ⟨B2, c2, rfl, rfl⟩ a w S)
          refine run S (.gx rfl rfl (ys_call call24 (.cons (.t rfl) (.cons (.t rfl) .nil)) (fun hp w W => c24 _ _ _ _ _ (by exact Sl.of_own W (k := 1) rfl (fun _ => rfl)) (by exact Sl.of_own W (k := 0) rfl (fun _ => rfl)))) <| .z) fun a w S => ?_
          rw [rw_u] at S
          refine run S (.gy rfl rfl (ys_not (.t rfl)) <| .yy (ys_pickT (.t rfl) (.t rfl)) rfl <| .z) fun a w S => st_nil (then_normal (hK4 _ _ (st_else S (.t rfl) (wp_skip (in_normal (then_normal (hK3 _ _ (wp_region_lit (run S (.ad (by unfold I64; omega) rfl <| .mv rfl <| .z) fun a w S => st_nil (then_normal ?_))))))))))
          exact ⟨p + 1, ⟨by omega, by rw [hsl, hb]; rfl⟩, by omega, S.pk⟩
        · have rw_u := decide_eq_false hun
          rw [rw_u] at hb
          refine sg S (.lt (by omega) rfl rfl <| .z) fun a w S => wp_seq_k fun _ hK3 => st_then S (.t rfl) (wp_skip (then_normal (hK3 _ _ (wp_seq_k fun _ hK3 => wp_block (sg S (.mv rfl <| .as rfl <| .z) fun a w S => wp_seq_k fun _ hK4 => wp_region_lit (run S (.mv rfl <| .mv rfl <| .mv rfl <| .xx (ys_call call56 (.cons (.t rfl) (.cons (.t rfl) (.cons (.t rfl) .nil))) (fun hp w W => c56 _ _ _ _ _ _ _ (by exact .old W (by assumption)) (by assumption) (by assumption) (by assumption) (by assumption))) rfl <| .z) fun a w S => ?_))))))
          rw [rw_t] at S
          rw [rw_p] at S
          rw [rw_x] at S
          refine run S (.mv rfl <| .mv rfl <| .mv rfl <| .xx (ys_call call56 (.cons (.t rfl) (.cons (.t rfl) (.cons (.t rfl) .nil))) (fun hp w W => c56 _ _ _ _ _ _ _ (by exact .old W (by assumption)) (by assumption) (by assumption) (by assumption) (by assumption))) rfl <| .z) fun a w S => ?_
          rw [rw_t] at S
          rw [rw_p] at S
          rw [rw_y] at S
          refine run S (.yy (ys_T (by omega) (ys_eql (.t rfl) (.t rfl))) rfl <| .mv rfl <| .gy rfl rfl (ys_move (.t rfl)) <| .gy rfl rfl (ys_move (.t rfl)) <| .gy rfl rfl (ys_move (.t rfl)) <| .z) fun a w S => ?_
          (refine st_mg S rfl rfl (op_calls S call62 (.cons (.t rfl) (.cons (.t rfl) (.cons (.t rfl) .nil))) (c62 _ _ _ _ _ _ _ (by exact .old S.wd (by assumption)) (by assumption) (by assumption) (by assumption)) rfl ?_); clear S a w; rintro _ _ ⟨B1, c1, rfl, rfl⟩ a w S)
          refine run S (.gy rfl rfl (ys_move (.t rfl)) <| .gy rfl rfl (ys_move (.t rfl)) <| .gy rfl rfl (ys_move (.t rfl)) <| .z) fun a w S => ?_
          (refine st_mg S rfl rfl (op_calls S call62 (.cons (.t rfl) (.cons (.t rfl) (.cons (.t rfl) .nil))) (c62 _ _ _ _ _ _ _ (by exact .old S.wd (by assumption)) (by assumption) (by assumption) (by assumption)) rfl ?_); clear S a w; rintro _ _ ⟨B2, c2, rfl, rfl⟩ a w S)
          refine run S (.gx rfl rfl (ys_call call24 (.cons (.t rfl) (.cons (.t rfl) .nil)) (fun hp w W => c24 _ _ _ _ _ (by exact Sl.of_own W (k := 1) rfl (fun _ => rfl)) (by exact Sl.of_own W (k := 0) rfl (fun _ => rfl)))) <| .z) fun a w S => ?_
          rw [rw_u] at S
          refine run S (.gy rfl rfl (ys_not (.t rfl)) <| .yy (ys_pickT (.t rfl) (.t rfl)) rfl <| .z) fun a w S => st_nil (then_normal (hK4 _ _ (st_then S (.t rfl) (sg S (.ac rfl <| .z) fun a w S => wp_ret (in_ret (then_ret (then_ret (in_ret (in_ret (then_ret (then_ret (in_ret (then_ret (st_ret S (results1 S results34 (Rv.tmp rfl)) ?_))))))))))))))
          exact ⟨by rw [clA_true hlt (by rw [hm]; exact clL_true hpm (by rw [hb]; rfl))], S.wd.below⟩
      · have rw_d := decide_eq_false hxy
        rw [rw_d, Bool.false_and] at hb
        refine sg S (.lt (by omega) rfl rfl <| .z) fun a w S => wp_seq_k fun _ hK3 => st_then S (.t rfl) (wp_skip (then_normal (hK3 _ _ (wp_seq_k fun _ hK3 => wp_block (sg S (.mv rfl <| .as rfl <| .z) fun a w S => wp_seq_k fun _ hK4 => wp_region_lit (run S (.mv rfl <| .mv rfl <| .mv rfl <| .xx (ys_call call56 (.cons (.t rfl) (.cons (.t rfl) (.cons (.t rfl) .nil))) (fun hp w W => c56 _ _ _ _ _ _ _ (by exact .old W (by assumption)) (by assumption) (by assumption) (by assumption) (by assumption))) rfl <| .z) fun a w S => ?_))))))
        rw [rw_t] at S
        rw [rw_p] at S
        rw [rw_x] at S
        refine run S (.mv rfl <| .mv rfl <| .mv rfl <| .xx (ys_call call56 (.cons (.t rfl) (.cons (.t rfl) (.cons (.t rfl) .nil))) (fun hp w W => c56 _ _ _ _ _ _ _ (by exact .old W (by assumption)) (by assumption) (by assumption) (by assumption) (by assumption))) rfl <| .z) fun a w S => ?_
        rw [rw_t] at S
        rw [rw_p] at S
        rw [rw_y] at S
        refine run S (.yy (ys_F (by omega) (ys_eql (.t rfl) (.t rfl))) rfl <| .mv rfl <| .sk rfl rfl rfl <| .sk rfl rfl rfl <| .sk rfl rfl rfl <| .sk rfl rfl rfl <| .sk rfl rfl rfl <| .sk rfl rfl rfl <| .sk rfl rfl rfl <| .sk rfl rfl rfl <| .sk rfl rfl rfl <| .sk rfl rfl rfl <| .yy (ys_pickF (.t rfl) Ev.c) rfl <| .z) fun a w S => st_nil (then_normal (hK4 _ _ (st_else S (.t rfl) (wp_skip (in_normal (then_normal (hK3 _ _ (wp_region_lit (run S (.ad (by unfold I64; omega) rfl <| .mv rfl <| .z) fun a w S => st_nil (then_normal ?_))))))))))
        exact ⟨p + 1, ⟨by omega, by rw [hsl, hb]⟩, by omega, S.pk⟩
    obtain rfl : p = m := by omega
    refine sg S (.ge (by omega) rfl rfl <| .z) fun a w S => wp_seq_k fun _ hK3 => st_else S (.t rfl) (wp_exit (then_exit (then_exit (in_here (in_normal (then_normal (hK2 _ _ (wp_region_lit (run S (.ad (by unfold I64; omega) rfl <| .mv rfl <| .z) fun a w S => st_nil (then_normal ?_))))))))))
    exact ⟨i + 1, ⟨by omega, by rw [hsa, hcp]⟩, by omega, S.pk⟩
  obtain rfl : i = 5 := by omega
  refine sg S (.yy (ys_F (by omega) (ys_lss (.t rfl) Ev.c)) rfl <| .z) fun a w S => wp_seq_k fun _ hK2 => st_else S (.t rfl) (wp_exit (then_exit (then_exit (in_here (then_normal (hK1 _ _ (sg S (.ac rfl <| .z) fun a w S => wp_ret (st_ret S (results1 S results34 (Rv.tmp rfl)) ?_))))))))
  exact ⟨by rw [hci], S.wd.below⟩
end Go.Proofs.Ytbijdmfilmecbaa
set_option linter.unusedVariables false
set_option linter.unusedSimpArgs false
namespace Go.Fw
open Go.RowKit
theorem below_nodup : ∀ {l : List Int}, l.Nodup → (belowT l).Nodup
  | [], _ => by simp [belowT]
  | x :: r, h => by
    rw [List.nodup_cons] at h
    have ih := below_nodup h.2
    show (([2 * x, 2 * x + 1] : List Int) ++ belowT r).Nodup
    rw [List.nodup_append]
    refine ⟨by simp; omega, ih, fun a ha b hb e => ?_⟩
    subst e
    obtain ⟨y, hy, h1⟩ := below_mem.1 hb
    have : y = x := by
      simp at ha
      omega
    subst this
    exact h.1 hy
theorem cand_nodup (T U : List KH) : ∀ n, (candT T U n).Nodup
  | 0 => by simp [candT]
  | n + 1 => below_nodup ((cand_nodup T U n).filter _)
theorem keysT_congr {T S : List KH} : ∀ {l : List Int}, (∀ p ∈ l, partT T p.toNat = partT S p.toNat) → keysT T l = keysT S l
  | [], _ => rfl
  | p :: r, h => by
    have ih := keysT_congr (l := r) fun q hq => h q (by simp [hq])
    unfold keysT at ih ⊢
    rw [List.flatMap_cons, List.flatMap_cons, ih, h p (by simp)]
theorem keysT_few : ∀ {l : List Int} (T : List KH), l.Nodup → (∀ p ∈ l, 0 ≤ p) → (keysT T l).length ≤ T.length
  | [], T, _, _ => by simp [keysT]
  | p :: r, T, hn, h0 => by
    rw [List.nodup_cons] at hn
    have ih := keysT_few (T.filter fun x => !decide (placeK x.1 = p.toNat)) hn.2 fun q hq => h0 q (by simp [hq])
    have e : keysT T r = keysT (T.filter fun x => !decide (placeK x.1 = p.toNat)) r := keysT_congr fun q hq => by
      unfold partT
      rw [List.filter_filter]
      refine List.filter_congr fun x _ => ?_
      have h1 := h0 p (by simp)
      have h2 := h0 q (by simp [hq])
      have h3 : q ≠ p := fun e => hn.1 (by rw [← e]; exact hq)
      by_cases h4 : placeK x.1 = q.toNat
      · have h5 : ¬ placeK x.1 = p.toNat := by omega
        simp [h4, h5]
        omega
      · simp [h4]
    have hsum : (partT T p.toNat).length + (T.filter fun x => !decide (placeK x.1 = p.toNat)).length = T.length := by
      unfold partT
      clear ih e
      induction T with
      | nil => rfl
      | cons x s ihs =>
        by_cases hx : placeK x.1 = p.toNat
        · simp [hx]; omega
        · simp [hx]; omega
    show (((partT T p.toNat).map (smP p)) ++ keysT T r).length ≤ T.length
    rw [List.length_append, List.length_map, e]
    omega
end Go.Fw
set_option linter.unusedVariables false
set_option linter.unusedSimpArgs false
set_option maxRecDepth 100000
set_option maxHeartbeats 4000000
namespace Go.Fw
open Go.RowKit
def askT (T U : List KH) (n : Nat) : List Int := if n < 5 then candT T U n else (candT T U 4).filter (diffT T U 4)
theorem cand_len (T U : List KH) : ∀ n, (candT T U n).length ≤ 2 ^ n
  | 0 => by simp [candT]
  | n + 1 => by
    have ih := cand_len T U n
    have h1 := List.length_filter_le (diffT T U n) (candT T U n)
    rw [candT, below_len, Nat.pow_succ]
    omega
theorem sums_places (T : List KH) (lv : Int) (l : List Int) : (sumsT T lv l).map (·.place) = l := by
  unfold sumsT
  rw [List.map_map]
  exact (List.map_congr_left fun _ _ => rfl).trans (List.map_id _)
end Go.Fw
namespace Go.Proofs.Ytbijdmfilmecbaa
open Go.Fw Go.Proofs Go.RowKit Go.Proofs.Try
theorem ice_row {w0 w : World} {L : List Chunk} {e cap : Nat} {A : Option Addr} {l : List Int} (W : Wd w0 (rowOf e 1 encI A cap l :: L) w) : ∃ bs, Wd w0 (.ice w bs :: L) w ∧ SlIn encI 1 w bs (.slice A l.length cap) l :=
  ⟨_, Wd.freeze (cs := [rowOf e 1 encI A cap l]) W, SlIn.row W (k := 0) rfl encI_len (fun b hb => List.mem_flatMap.2 ⟨_, by simp, hb⟩)⟩
theorem c7 (w0 : World) (v1 v2 : Value) (l m : List Sm) (h1 : Sl Sm.enc 3 w0 w0.heap.size v1 l) (s1 : Sums l) (h2 : Sl Sm.enc 3 w0 w0.heap.size v2 m) (s2 : Sums m) (hlm : l.length + m.length ≤ 1048576) :
    Calls Try.prog 7 #[v1, v2] w0 fun e w' => e = .returned (.bool true) ∧ Bel w0.heap.size w0 w' := by
  have hT := s1.ok
  have hTl := s1.room
  have hl1 := s1.len
  have hU := s2.ok
  have hUl := s2.room
  have hl2 := s2.len
  have hTl2 := sets_len l []
  have hUl2 := sets_len m []
  rw [List.length_nil] at hTl2 hUl2
  cases hcl : clA (setsT [] l) (setsT [] m) 5 with
  | true =>
    have rw_c := hcl
    refine enter2 func7 rfl ntmps7 rfl fun a S => sg S (.ac rfl <| .z) fun a w S => wp_seq_k fun _ hK1 => wp_region_lit (run S (.mv rfl <| .z) fun a w S => ?_)
    (refine st_m (op_calls S call20 (.cons (.t rfl) .nil) (c20 _ _ _ (by exact .old S.wd (by assumption)) (by assumption)) rfl ?_); clear S a w; rintro _ _ ⟨g1, A1, cap1, rfl, rfl⟩ a w S)
    refine run S (.mv rfl <| .z) fun a w S => ?_
    (refine st_m (op_calls S call20 (.cons (.t rfl) .nil) (c20 _ _ _ (by exact .old S.wd (by assumption)) (by assumption)) rfl ?_); clear S a w; rintro _ _ ⟨g2, A2, cap2, rfl, rfl⟩ a w S)
    refine run S (.as rfl <| .as rfl <| .z) fun a w S => st_nil (then_normal (hK1 _ _ (wp_seq_k fun _ hK1 => sg S (.xx (ys_call call14 .nil (fun hp w W => c14 _)) rfl <| .nt rfl <| .z) fun a w S => st_else S (.t rfl) (wp_skip (then_normal (hK1 _ _ (wp_seq_k fun _ hK1 => wp_seq_k fun _ hK2 => wp_region_lit (run S (.mv rfl <| .mv rfl <| .xx (ys_call call34 (.cons (.t rfl) (.cons (.t rfl) .nil)) (fun hp w W => c34 _ _ _ _ _ _ _ _ _ (by exact sl_m2 W (k := 2) rfl) (by exact sl_m2 W (k := 0) rfl) (by assumption) (by assumption) (by omega) (by omega))) rfl <| .z) fun a w S => ?_))))))))
    rw [rw_c] at S
    refine st_nil (then_normal (hK2 _ _ (st_then S (.t rfl) (sg S (.ac rfl <| .z) fun a w S => wp_ret (then_ret (st_ret S (results1 S results7 (Rv.tmp rfl)) ?_))))))
    exact ⟨rfl, S.wd.below⟩
  | false =>
    have rw_c := hcl
    have hfa := found_all hT hU (no_clash hcl)
    refine enter2 func7 rfl ntmps7 rfl fun a S => sg S (.ac rfl <| .z) fun a w S => wp_seq_k fun _ hK1 => wp_region_lit (run S (.mv rfl <| .z) fun a w S => ?_)
    (refine st_m (op_calls S call20 (.cons (.t rfl) .nil) (c20 _ _ _ (by exact .old S.wd (by assumption)) (by assumption)) rfl ?_); clear S a w; rintro _ _ ⟨g1, A1, cap1, rfl, rfl⟩ a w S)
    refine run S (.mv rfl <| .z) fun a w S => ?_
    (refine st_m (op_calls S call20 (.cons (.t rfl) .nil) (c20 _ _ _ (by exact .old S.wd (by assumption)) (by assumption)) rfl ?_); clear S a w; rintro _ _ ⟨g2, A2, cap2, rfl, rfl⟩ a w S)
    refine run S (.as rfl <| .as rfl <| .z) fun a w S => st_nil (then_normal (hK1 _ _ (wp_seq_k fun _ hK1 => sg S (.xx (ys_call call14 .nil (fun hp w W => c14 _)) rfl <| .nt rfl <| .z) fun a w S => st_else S (.t rfl) (wp_skip (then_normal (hK1 _ _ (wp_seq_k fun _ hK1 => wp_seq_k fun _ hK2 => wp_region_lit (run S (.mv rfl <| .mv rfl <| .xx (ys_call call34 (.cons (.t rfl) (.cons (.t rfl) .nil)) (fun hp w W => c34 _ _ _ _ _ _ _ _ _ (by exact sl_m2 W (k := 2) rfl) (by exact sl_m2 W (k := 0) rfl) (by assumption) (by assumption) (by omega) (by omega))) rfl <| .z) fun a w S => ?_))))))))
    rw [rw_c] at S
    refine st_nil (then_normal (hK2 _ _ (st_else S (.t rfl) (wp_skip (then_normal (hK1 _ _ (wp_seq_k fun _ hK1 => wp_region_lit (run S (.mv rfl <| .z) fun a w S => ?_))))))))
    (refine st_m (op_calls S call10 (.cons (.t rfl) .nil) (c10 _ _ _ (by exact .old S.wd (by assumption)) (by omega)) rfl ?_); clear S a w; rintro _ _ ⟨A3, c1, rfl, rfl⟩ a w S)
    (refine st_m (op_calls S call9 (.cons (.t rfl) .nil) (c9 _ _ _ (by exact Sl.of_own S.wd (k := 0) rfl (fun _ => rfl)) (by assumption)) rfl ?_); clear S a w; rintro _ _ ⟨g3, A4, cap3, gs1, w11, bs1, rfl, rfl, hr11⟩ a w S)
    refine run S (.mv rfl <| .z) fun a w S => ?_
    (refine st_m (op_calls S call10 (.cons (.t rfl) .nil) (c10 _ _ _ (by exact .old S.wd (by assumption)) (by omega)) rfl ?_); clear S a w; rintro _ _ ⟨A5, c2, rfl, rfl⟩ a w S)
    (refine st_m (op_calls S call9 (.cons (.t rfl) .nil) (c9 _ _ _ (by exact Sl.of_own S.wd (k := 0) rfl (fun _ => rfl)) (by assumption)) rfl ?_); clear S a w; rintro _ _ ⟨g4, A6, cap4, gs2, w12, bs2, rfl, rfl, hr12⟩ a w S)
    refine run S (.as rfl <| .as rfl <| .z) fun a w S => st_nil (then_normal (hK1 _ _ (wp_seq_k fun _ hK1 => wp_region_lit (st_m (op_bslice1 S underlying42 inf3 rfl rfl rfl Ev.c rfl rfl rfl fun g5 a w S => run S (.as rfl <| .z) fun a w S => st_nil (then_normal (hK1 _ _ (wp_seq_k fun _ hK1 => sg S (.mc rfl <| .z) fun a w S => wp_block ?_))))))))
    generalize setsT [] l = T at *
    generalize setsT [] m = U at *
    have hc0 : w.cell? ⟨g5, 0, none⟩ = some (.int .i64 0) := Wd.cell S.wd (k := 0) rfl rfl
    have W0 := S.wd.picks (L' := .blk g5 (.cells #[.int .i64 0] 3) :: treeP g4 A6 cap4 gs2 w12 bs2 (treeP g3 A4 cap3 gs1 w11 bs1 (docP g2 A2 cap2 U (docP g1 A1 cap1 T [])))) (by repeat (first | exact Picks.nil | (refine Picks.rest ?_; (repeat (first | exact List.Sublist.refl _ | refine List.Sublist.cons_cons _ ?_ | refine List.Sublist.cons _ ?_)); done) | refine Picks.take 0 rfl ?_ | refine Picks.take 1 rfl ?_ | refine Picks.take 2 rfl ?_ | refine Picks.take 3 rfl ?_ | refine Picks.take 4 rfl ?_ | refine Picks.take 5 rfl ?_ | refine Picks.take 6 rfl ?_ | refine Picks.take 7 rfl ?_ | refine Picks.take 8 rfl ?_ | refine Picks.take 9 rfl ?_ | refine Picks.take 10 rfl ?_ | refine Picks.take 11 rfl ?_))
    have W1 := Wd.freeze (cs := [.blk g5 (.cells #[.int .i64 0] 3)]) W0
    have hi0 : SlIn encI 1 w ([Chunk.blk g5 (.cells #[.int .i64 0] 3)].flatMap Chunk.blocks) (.slice (some ⟨g5, 0, none⟩) (askT T U 0).length 1) (askT T U 0) := by
      refine ⟨_, 1, rfl, Nat.le_refl 1, by omega, fun _ => ⟨g5, 0, rfl, by simp [Chunk.blocks], fun k x hx j u hu => ?_⟩⟩
      have hk : k = 0 := by
        have := (List.getElem?_eq_some_iff.1 hx).1
        have e : (askT T U 0).length = 1 := rfl
        omega
      subst hk
      have hx0 : x = 0 := by
        have e : (askT T U 0)[0]? = some 0 := rfl
        rw [e] at hx
        exact (Option.some.inj hx).symm
      subst hx0
      have hj : j = 0 := by
        have := (List.getElem?_eq_some_iff.1 hu).1
        simp [encI] at this
        exact this
      subst hj
      have hu0 : u = .int .i64 0 := by simpa [encI] using hu.symm
      subst hu0
      exact hc0
    replace S := St.mk S.kn W1
    generalize [Chunk.blk g5 (.cells #[.int .i64 0] 3)].flatMap Chunk.blocks = bs0 at *
    refine st_lpM S [4, 9, 34] (X := Nat × Option Addr × Nat × World × List Nat) (fun q => [(4, true, .bool false), (9, true, .slice q.2.1 (askT T U q.1).length q.2.2.1), (34, true, .int .i64 (q.1 : Int))]) (fun q => .ice q.2.2.2.1 q.2.2.2.2 :: treeP g4 A6 cap4 gs2 w12 bs2 (treeP g3 A4 cap3 gs1 w11 bs1 (docP g2 A2 cap2 U (docP g1 A1 cap1 T []))))
      (fun q => q.1 ≤ 5 ∧ SlIn encI 1 q.2.2.2.1 q.2.2.2.2 (.slice q.2.1 (askT T U q.1).length q.2.2.1) (askT T U q.1)) (fun q => 5 - q.1) (0, some ⟨g5, 0, none⟩, 1, _, bs0) ⟨Nat.zero_le _, hi0⟩ ?_
    clear S W0 W1 hi0 hc0
    rintro ⟨i, B, cB, w1, bs⟩ a w ⟨hi, hin⟩ S
    dsimp only at hi hin S
    by_cases hlt : i < 5
    · have ea : askT T U i = candT T U i := by unfold askT; rw [if_pos hlt]
      rw [ea] at hin S
      have hok := cand_okP (T := T) (U := U) (n := i) (by omega)
      have hcl2 := Nat.le_trans (cand_len T U i) (pow_le16 hlt)
      have hfl2 := List.length_filter_le (diffT T U i) (candT T U i)
      have hsl := sums_len' T (i : Int) (candT T U i)
      have rw_1 : (sumsA T (i : Int) (candT T U i)).1 = sumsT T (i : Int) (candT T U i) := by unfold sumsA; rw [if_pos hok]
      have rw_1b : (sumsA T (i : Int) (candT T U i)).2 = 0 := by unfold sumsA; rw [if_pos hok]
      have rw_2 : (unlikeA U (i : Int) (sumsT T (i : Int) (candT T U i))).1 = (candT T U i).filter (diffT T U i) := by unfold unlikeA; rw [sums_places, if_pos hok, unlike_sums]
      have rw_2b : (unlikeA U (i : Int) (sumsT T (i : Int) (candT T U i))).2 = 0 := by unfold unlikeA; rw [sums_places, if_pos hok]
      have rw_0 : decide ((0 : Int) ≠ 0) = false := rfl
      by_cases h4 : i < 4
      · have rw_4 : decide ((i : Int) < 4) = true := decide_eq_true (by omega)
        have rw_3 : (belowA (i : Int) ((candT T U i).filter (diffT T U i))).1 = belowT ((candT T U i).filter (diffT T U i)) := by unfold belowA; rw [if_pos (filt_okP (by omega) (by omega))]
        have rw_3b : (belowA (i : Int) ((candT T U i).filter (diffT T U i))).2 = 0 := by unfold belowA; rw [if_pos (filt_okP (by omega) (by omega))]
        have e5 : askT T U (i + 1) = belowT ((candT T U i).filter (diffT T U i)) := by unfold askT; rw [if_pos (by omega)]; rfl
        refine sg S (.yy (ys_T (by omega) (ys_lss (.t rfl) Ev.c)) rfl <| .z) fun a w S => wp_seq_k fun _ hK2 => st_then S (.t rfl) (wp_skip (then_normal (hK2 _ _ (wp_seq_k fun _ hK2 => wp_block (sg S (.mv rfl <| .as rfl <| .z) fun a w S => wp_seq_k fun _ hK3 => wp_region_lit (run S (.mv rfl <| .mv rfl <| .mv rfl <| .z) fun a w S => ?_))))))
        (refine st_m (op_calls S call22 (.cons (.t rfl) (.cons (.t rfl) (.cons (.t rfl) .nil))) (c22 _ _ _ _ _ _ _ _ _ (by exact sl_m1 S.wd (k := 4) rfl) (by assumption) (by omega) (by exact SlIn.sl (by assumption) S.wd (k := 0) rfl) (by omega)) rfl ?_); clear S a w; rintro _ _ ⟨B1, c3, rfl, rfl⟩ a w S)
        rw [rw_1] at S
        rw [rw_1b] at S
        refine run S (.mv rfl <| .ex rfl rfl <| .ex rfl rfl <| .as rfl <| .as rfl <| .z) fun a w S => st_nil (then_normal (hK3 _ _ (wp_seq_k fun _ hK3 => sg S (.mv rfl <| .yy (ys_F (by omega) (ys_neq (.t rfl) Ev.c)) rfl <| .z) fun a w S => st_else S (.t rfl) (wp_skip (then_normal (hK3 _ _ (wp_seq_k fun _ hK3 => wp_region_lit (run S (.mv rfl <| .mv rfl <| .mv rfl <| .z) fun a w S => ?_))))))))
        (refine st_m (op_calls S call27 (.cons (.t rfl) (.cons (.t rfl) (.cons (.t rfl) .nil))) (c27 _ _ _ _ _ _ _ _ _ (by exact sl_m1 S.wd (k := 2) rfl) (by assumption) (by omega) (by exact Sl.of_own S.wd (k := 0) rfl (fun _ => rfl)) (by omega)) rfl ?_); clear S a w; rintro _ _ ⟨B2, c4, rfl, rfl⟩ a w S)
        rw [rw_2] at S
        rw [rw_2b] at S
        refine run S (.mv rfl <| .ex rfl rfl <| .ex rfl rfl <| .as rfl <| .as rfl <| .z) fun a w S => st_nil (then_normal (hK3 _ _ (wp_seq_k fun _ hK3 => sg S (.mv rfl <| .yy (ys_F (by omega) (ys_neq (.t rfl) Ev.c)) rfl <| .z) fun a w S => st_else S (.t rfl) (wp_skip (then_normal (hK3 _ _ (sg S (.mv rfl <| .yy (ys_T (by omega) (ys_lss (.t rfl) Ev.c)) rfl <| .z) fun a w S => st_then S (.t rfl) (wp_seq_k fun _ hK3 => wp_region_lit (run S (.mv rfl <| .mv rfl <| .z) fun a w S => ?_)))))))))
        (refine st_m (op_calls S call30 (.cons (.t rfl) (.cons (.t rfl) .nil)) (c30 _ _ _ _ (by exact Sl.of_own S.wd (k := 0) rfl (fun _ => rfl)) (by omega)) rfl ?_); clear S a w; rintro _ _ ⟨B3, c8, rfl, rfl⟩ a w S)
        rw [rw_3] at S
        rw [rw_3b] at S
        refine run S (.mv rfl <| .ex rfl rfl <| .ex rfl rfl <| .as rfl <| .as rfl <| .z) fun a w S => st_nil (then_normal (hK3 _ _ (sg S (.mv rfl <| .yy (ys_F (by omega) (ys_neq (.t rfl) Ev.c)) rfl <| .z) fun a w S => st_else S (.t rfl) (wp_skip (in_normal (then_normal (hK2 _ _ (wp_region_lit (run S (.ad (by unfold I64; omega) rfl <| .mv rfl <| .z) fun a w S => st_nil (then_normal ?_))))))))))
        generalize belowT ((candT T U i).filter (diffT T U i)) = Y at *
        generalize (candT T U i).filter (diffT T U i) = X at *
        generalize candT T U i = C at *
        obtain ⟨bs', W2, hin2⟩ := ice_row (S.wd.picks (L' := rowOf 3 1 encI B3 c8 Y :: treeP g4 A6 cap4 gs2 w12 bs2 (treeP g3 A4 cap3 gs1 w11 bs1 (docP g2 A2 cap2 U (docP g1 A1 cap1 T [])))) (by repeat (first | exact Picks.nil | (refine Picks.rest ?_; (repeat (first | exact List.Sublist.refl _ | refine List.Sublist.cons_cons _ ?_ | refine List.Sublist.cons _ ?_)); done) | refine Picks.take 0 rfl ?_ | refine Picks.take 1 rfl ?_ | refine Picks.take 2 rfl ?_ | refine Picks.take 3 rfl ?_ | refine Picks.take 4 rfl ?_ | refine Picks.take 5 rfl ?_ | refine Picks.take 6 rfl ?_ | refine Picks.take 7 rfl ?_ | refine Picks.take 8 rfl ?_ | refine Picks.take 9 rfl ?_ | refine Picks.take 10 rfl ?_ | refine Picks.take 11 rfl ?_)))
        rw [← e5] at hin2
        exact ⟨(i + 1, B3, c8, w, bs'), ⟨by dsimp only; omega, hin2⟩, by dsimp only; omega, by dsimp only; rw [e5]; exact (St.mk S.kn W2).pk⟩
      · have rw_4 : decide ((i : Int) < 4) = false := decide_eq_false (by omega)
        have hi4 : i = 4 := by omega
        have e5 : askT T U (i + 1) = (candT T U i).filter (diffT T U i) := by rw [hi4]; rfl
        refine sg S (.yy (ys_T (by omega) (ys_lss (.t rfl) Ev.c)) rfl <| .z) fun a w S => wp_seq_k fun _ hK2 => st_then S (.t rfl) (wp_skip (then_normal (hK2 _ _ (wp_seq_k fun _ hK2 => wp_block (sg S (.mv rfl <| .as rfl <| .z) fun a w S => wp_seq_k fun _ hK3 => wp_region_lit (run S (.mv rfl <| .mv rfl <| .mv rfl <| .z) fun a w S => ?_))))))
        (refine st_m (op_calls S call22 (.cons (.t rfl) (.cons (.t rfl) (.cons (.t rfl) .nil))) (c22 _ _ _ _ _ _ _ _ _ (by exact sl_m1 S.wd (k := 4) rfl) (by assumption) (by omega) (by exact SlIn.sl (by assumption) S.wd (k := 0) rfl) (by omega)) rfl ?_); clear S a w; rintro _ _ ⟨B1, c3, rfl, rfl⟩ a w S)
        rw [rw_1] at S
        rw [rw_1b] at S
        refine run S (.mv rfl <| .ex rfl rfl <| .ex rfl rfl <| .as rfl <| .as rfl <| .z) fun a w S => st_nil (then_normal (hK3 _ _ (wp_seq_k fun _ hK3 => sg S (.mv rfl <| .yy (ys_F (by omega) (ys_neq (.t rfl) Ev.c)) rfl <| .z) fun a w S => st_else S (.t rfl) (wp_skip (then_normal (hK3 _ _ (wp_seq_k fun _ hK3 => wp_region_lit (run S (.mv rfl <| .mv rfl <| .mv rfl <| .z) fun a w S => ?_))))))))
        (refine st_m (op_calls S call27 (.cons (.t rfl) (.cons (.t rfl) (.cons (.t rfl) .nil))) (c27 _ _ _ _ _ _ _ _ _ (by exact sl_m1 S.wd (k := 2) rfl) (by assumption) (by omega) (by exact Sl.of_own S.wd (k := 0) rfl (fun _ => rfl)) (by omega)) rfl ?_); clear S a w; rintro _ _ ⟨B2, c4, rfl, rfl⟩ a w S)
        rw [rw_2] at S
        rw [rw_2b] at S
        refine run S (.mv rfl <| .ex rfl rfl <| .ex rfl rfl <| .as rfl <| .as rfl <| .z) fun a w S => st_nil (then_normal (hK3 _ _ (wp_seq_k fun _ hK3 => sg S (.mv rfl <| .yy (ys_F (by omega) (ys_neq (.t rfl) Ev.c)) rfl <| .z) fun a w S => st_else S (.t rfl) (wp_skip (then_normal (hK3 _ _ (sg S (.mv rfl <| .yy (ys_F (by omega) (ys_lss (.t rfl) Ev.c)) rfl <| .z) fun a w S => st_else S (.t rfl) (wp_skip (in_normal (then_normal (hK2 _ _ (wp_region_lit (run S (.ad (by unfold I64; omega) rfl <| .mv rfl <| .z) fun a w S => st_nil (then_normal ?_))))))))))))))
        generalize (candT T U i).filter (diffT T U i) = X at *
        generalize candT T U i = C at *
        obtain ⟨bs', W2, hin2⟩ := ice_row (S.wd.picks (L' := rowOf 3 1 encI B2 c4 X :: treeP g4 A6 cap4 gs2 w12 bs2 (treeP g3 A4 cap3 gs1 w11 bs1 (docP g2 A2 cap2 U (docP g1 A1 cap1 T [])))) (by repeat (first | exact Picks.nil | (refine Picks.rest ?_; (repeat (first | exact List.Sublist.refl _ | refine List.Sublist.cons_cons _ ?_ | refine List.Sublist.cons _ ?_)); done) | refine Picks.take 0 rfl ?_ | refine Picks.take 1 rfl ?_ | refine Picks.take 2 rfl ?_ | refine Picks.take 3 rfl ?_ | refine Picks.take 4 rfl ?_ | refine Picks.take 5 rfl ?_ | refine Picks.take 6 rfl ?_ | refine Picks.take 7 rfl ?_ | refine Picks.take 8 rfl ?_ | refine Picks.take 9 rfl ?_ | refine Picks.take 10 rfl ?_ | refine Picks.take 11 rfl ?_)))
        rw [← e5] at hin2
        exact ⟨(i + 1, B2, c4, w, bs'), ⟨by dsimp only; omega, hin2⟩, by dsimp only; omega, by dsimp only; rw [e5]; exact (St.mk S.kn W2).pk⟩
    have hi5 : i = 5 := by omega
    have ea : askT T U i = (candT T U 4).filter (diffT T U 4) := by rw [hi5]; rfl
    have hok : okP 4 4 ((candT T U 4).filter (diffT T U 4)) = true := filt_okP (T := T) (U := U) (n := 4) (by omega) (d := 4) (by omega)
    have hnd : ((candT T U 4).filter (diffT T U 4)).Nodup := (cand_nodup T U 4).filter _
    have hp0 : ∀ p ∈ (candT T U 4).filter (diffT T U 4), 0 ≤ p := fun p hp => (cand_ok 4 p (List.mem_filter.1 hp).1).1
    have hln : ((candT T U 4).filter (diffT T U 4)).length ≤ 16 := Nat.le_trans (List.length_filter_le _ _) (cand_len T U 4)
    rw [ea] at hin S
    generalize (candT T U 4).filter (diffT T U 4) = X at *
    have hkf := keysT_few T hnd hp0
    obtain ⟨z1, z2, z3⟩ := keysT_ok hT X
    have hsK : Sums (keysT T X) := ⟨z1, fun x hx => Nat.le_trans (name_len (hT.name _ (z3 x hx))) (by omega), by omega⟩
    have hlt5 : ¬ ((i : Int) < 5) := by omega
    have rw_1 : (keysA T X).1 = keysT T X := by unfold keysA; rw [if_pos hok]
    have rw_1b : (keysA T X).2 = 0 := by unfold keysA; rw [if_pos hok]
    have rw_2 : (missA U (keysT T X) X).1 = missT U (keysT T X) X := by unfold missA; rw [if_pos hok, if_pos z2]
    have rw_2b : (missA U (keysT T X) X).2 = 0 := by unfold missA; rw [if_pos hok, if_pos z2]
    have rw_0 : decide ((0 : Int) ≠ 0) = false := rfl
    have hTU : U.length + (keysT T X).length ≤ 1048576 := by omega
    have hml : (T.map (smP 0)).length = T.length := List.length_map ..
    have hsT : Sums (T.map (smP 0)) := ⟨smp_ok hT, fun x hx => by obtain ⟨y, hy, rfl⟩ := List.mem_map.1 hx; exact Nat.le_trans (name_len (hT.name y hy)) (by omega), by omega⟩
    have hnT : namesOk (T.map (smP 0)) = true := by
      unfold namesOk
      rw [List.all_eq_true]
      intro s hs
      obtain ⟨x, hx, rfl⟩ := List.mem_map.1 hs
      exact hT.name x hx
    have hok16 : okP 4 4 (upTo 16) = true := by decide +kernel
    have rw_3 : (missA U (T.map (smP 0)) (upTo 16)).1 = missT U (T.map (smP 0)) (upTo 16) := by unfold missA; rw [if_pos hok16, if_pos hnT]
    have rw_3b : (missA U (T.map (smP 0)) (upTo 16)).2 = 0 := by unfold missA; rw [if_pos hok16, if_pos hnT]
    have hul := upTo_len 16
    have hTU2 : U.length + (T.map (smP 0)).length ≤ 1048576 := by omega
    have hfa2 : missT U (keysT T X) X = missT U (T.map (smP 0)) (upTo 16) := hfa
    generalize hF1 : missT U (keysT T X) X = F1 at *
    generalize hF2 : missT U (T.map (smP 0)) (upTo 16) = F2 at *
    have rw_F : decide (F1 = F2) = true := decide_eq_true hfa2
    refine sg S (.yy (ys_F (by omega) (ys_lss (.t rfl) Ev.c)) rfl <| .z) fun a w S => wp_seq_k fun _ hK2 => st_else S (.t rfl) (wp_exit (then_exit (then_exit (in_here (then_normal (hK1 _ _ (wp_seq_k fun _ hK1 => wp_region_lit (run S (.mv rfl <| .mv rfl <| .z) fun a w S => ?_))))))))
    (refine st_m (op_calls S call25 (.cons (.t rfl) (.cons (.t rfl) .nil)) (c25 _ _ _ _ _ _ _ _ (by exact sl_m1 S.wd (k := 4) rfl) (by assumption) (by assumption) (by exact SlIn.sl (by assumption) S.wd (k := 0) rfl) (by omega)) rfl ?_); clear S a w; rintro _ _ ⟨B1, c3, rfl, rfl⟩ a w S)
    rw [rw_1] at S
    rw [rw_1b] at S
    refine run S (.mv rfl <| .ex rfl rfl <| .ex rfl rfl <| .as rfl <| .as rfl <| .z) fun a w S => st_nil (then_normal (hK1 _ _ (wp_seq_k fun _ hK1 => sg S (.mv rfl <| .yy (ys_F (by omega) (ys_neq (.t rfl) Ev.c)) rfl <| .z) fun a w S => st_else S (.t rfl) (wp_skip (then_normal (hK1 _ _ (wp_seq_k fun _ hK1 => wp_region_lit (run S (.mv rfl <| .mv rfl <| .mv rfl <| .z) fun a w S => ?_))))))))
    (refine st_m (op_calls S call32 (.cons (.t rfl) (.cons (.t rfl) (.cons (.t rfl) .nil))) (c32 _ _ _ _ _ _ _ _ _ _ (by exact sl_m1 S.wd (k := 2) rfl) (by assumption) (by exact SlIn.sl (by assumption) S.wd (k := 1) rfl) (by omega) (by exact Sl.of_own S.wd (k := 0) rfl (fun _ => rfl)) (by assumption) (by assumption)) rfl ?_); clear S a w; rintro _ _ ⟨B2, c4, rfl, rfl⟩ a w S)
    rw [rw_2b] at S
    rw [rw_2] at S
    refine run S (.mv rfl <| .ex rfl rfl <| .ex rfl rfl <| .as rfl <| .as rfl <| .z) fun a w S => st_nil (then_normal (hK1 _ _ (wp_seq_k fun _ hK1 => sg S (.mv rfl <| .yy (ys_F (by omega) (ys_neq (.t rfl) Ev.c)) rfl <| .z) fun a w S => st_else S (.t rfl) (wp_skip (then_normal (hK1 _ _ (wp_seq_k fun _ hK1 => h_begin0 S (by kernel_rfl) fun a w S => hy 0 S rfl (ys_move (.t rfl)) rfl fun a w S => hy 2 S rfl (ys_move (.t rfl)) rfl fun a w S => hy 3 S rfl (ys_nilc (.t rfl)) rfl fun a w S => hy 4 S rfl (ys_fieldN (FieldT.mk underlying69 rfl sizeOf22 rfl) (.t rfl) (i' := 0) rfl) rfl fun a w S => ?_)))))))
    refine hy 5 S rfl (ys_ld ⟨isAgg22, sizeOf22⟩ (.t rfl) (k := 11) rfl rfl) rfl fun a w S => ?_
    (refine h_m (i := 1) rfl (by kernel_rfl) (op_calls S call36 .nil (c36 _) rfl ?_); clear S a w; rintro _ _ ⟨B3, c8, rfl, rfl⟩ a w S; refine h_n2 S ?_)
    have hsl : Sl Sm.enc 3 w w.heap.size (.slice A1 T.length cap1) (T.map (smP 0)) := by
      have h9 : Sl Kh.enc 3 w w.heap.size (.slice A1 T.length cap1) T := by first | exact Sl.of_own S.wd (k := 12) rfl Kh.enc_len | exact Sl.of_own S.wd (k := 13) rfl Kh.enc_len | exact Sl.of_own S.wd (k := 11) rfl Kh.enc_len | exact Sl.of_own S.wd (k := 14) rfl Kh.enc_len
      have h10 := kh_sm h9
      rwa [hml] at h10
    (refine h_m (i := 6) rfl (by kernel_rfl) (op_calls S call35 (.cons (.t rfl) (.cons (.t rfl) (.cons (.t rfl) .nil))) (c35 _ _ _ _ _ _ _ _ _ (by exact sl_m2 S.wd (k := 10) rfl) (by assumption) (by exact Sl.of_own S.wd (k := 0) rfl (fun _ => rfl)) (by omega) (by assumption) (by assumption) (by assumption)) rfl ?_); clear S a; rintro _ _ ⟨B4, c16, rfl, rfl⟩ a w S; refine h_n2 S ?_)
    rw [rw_3b] at S
    rw [rw_3] at S ⊢
    refine hy 7 S rfl (ys_move (.t rfl)) rfl fun a w S => hy 8 S rfl (ys_ext (.t rfl) rfl) rfl fun a w S => hy 9 S rfl (ys_ext (.t rfl) rfl) rfl fun a w S => hy 10 S rfl (ys_assign (.t rfl)) rfl fun a w S => hy 11 S rfl (ys_assign (.t rfl)) rfl fun a w S => h_done (by kernel_rfl) (then_normal (hK1 _ _ (wp_seq_k fun _ hK1 => wp_region_lit ?_)))
    refine run S (.mv rfl <| .mv rfl <| .xx (ys_call call37 (.cons (.t rfl) (.cons (.t rfl) .nil)) (fun hp w W => c37 _ _ _ _ _ (by exact Sl.of_own W (k := 2) rfl (fun _ => rfl)) (by exact Sl.of_own W (k := 0) rfl (fun _ => rfl)))) rfl <| .z) fun a w S => ?_
    rw [rw_F] at S
    refine run S (.as rfl <| .z) fun a w S => st_nil (then_normal (hK1 _ _ (wp_ret (st_ret S (results1 S results7 (Rv.tmp rfl)) ?_))))
    exact ⟨rfl, S.wd.below⟩
end Go.Proofs.Ytbijdmfilmecbaa
