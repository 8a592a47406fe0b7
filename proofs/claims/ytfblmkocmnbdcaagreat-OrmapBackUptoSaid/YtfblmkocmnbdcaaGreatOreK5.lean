/- Contracts and laws that the statement Ore leans on, part 5. -/
import Derived.Test.YtfblmkocmnbdcaaGreatOreK4
set_option linter.unusedVariables false
set_option linter.unusedSimpArgs false
namespace Go.Fw
open Go.RowKit
theorem numR_fwd (post : List UInt8) : ∀ (x i : Nat) (n : Int), i ≤ 8 → x < 128 ^ (9 - i) → (0 < i → 0 < x) → numR i n (numB x ++ post) = (n + (x : Int) * 128 ^ i, i + (numB x).length, 0) := by
  intro x
  induction x using Nat.strongRecOn with
  | _ x ih =>
    intro i n hi hx h0
    by_cases hs : x < 128
    · rw [numB_small hs]
      have hb : (b8 (x : Int)).toNat = x := by have := b8_val (x : Int); omega
      rw [List.singleton_append, numR, hb, if_neg (by omega), if_pos hs, if_neg (by omega)]
      have : (x : Int) % 128 = x := by omega
      rw [this]
      rfl
    · rw [numB_big hs]
      have hb : (b8 ((x % 128 + 128 : Nat) : Int)).toNat = x % 128 + 128 := by have := b8_val ((x % 128 + 128 : Nat) : Int); omega
      have hi8 : i < 8 := by
        rcases Nat.lt_or_ge i 8 with h | h
        · exact h
        · obtain rfl : i = 8 := by omega
          simp at hx; omega
      have hp : 128 ^ (9 - i) = 128 ^ (9 - (i + 1)) * 128 := by rw [show 9 - i = (9 - (i + 1)) + 1 by omega, Nat.pow_succ]
      rw [List.cons_append, numR, hb, if_neg (by omega), if_neg (by omega), ih (x / 128) (by omega) (i + 1) _ (by omega) (by rw [hp] at hx; omega) (by omega)]
      have hq : (((x % 128 + 128 : Nat) : Int)) % 128 = ((x % 128 : Nat) : Int) := by omega
      have h5 : (128 : Int) ^ (i + 1) = 128 * 128 ^ i := by rw [Int.pow_succ, Int.mul_comm]
      have hxx : (x : Int) = ((x % 128 : Nat) : Int) + ((x / 128 : Nat) : Int) * 128 := by omega
      rw [hq, h5]
      refine Prod.ext ?_ (Prod.ext ?_ rfl)
      · dsimp only
        conv => rhs; rw [hxx, Int.add_mul, Int.mul_assoc]
        omega
      · simp only [List.length_cons]; omega
theorem numR_inv : ∀ (l : List UInt8) (i : Nat) (n : Int), (numR i n l).2.2 = 0 → i ≤ 8 → ∃ y : Nat, (numR i n l).1 = n + (y : Int) * 128 ^ i ∧ i < (numR i n l).2.1 ∧ numB y = l.take ((numR i n l).2.1 - i) ∧ (0 < i → 0 < y)
  | [], _, _, h, _ => by simp [numR] at h
  | x :: r, i, n, h, hi => by
    have hx8 : x.toNat < 256 := x.toNat_lt
    unfold numR at h ⊢
    split at h
    · simp at h
    · rename_i h1
      rw [if_neg h1]
      split at h
      · rename_i h2
        rw [if_pos h2]
        split at h
        · simp at h
        · rename_i h3
          rw [if_neg h3]
          refine ⟨x.toNat, ?_, ?_, ?_, ?_⟩
          · dsimp only
            rw [show (x.toNat : Int) % 128 = x.toNat by omega]
          · dsimp only; omega
          · dsimp only
            rw [numB_small h2, show i + 1 - i = 1 by omega, b8_nat]; rfl
          · intro hi0; omega
      · rename_i h2
        rw [if_neg h2]
        obtain ⟨y, e1, e2, e3, e4⟩ := numR_inv r (i + 1) _ h (by omega)
        have h5 : (128 : Int) ^ (i + 1) = 128 * 128 ^ i := by rw [Int.pow_succ, Int.mul_comm]
        have hy := e4 (by omega)
        refine ⟨x.toNat % 128 + 128 * y, ?_, by omega, ?_, by omega⟩
        · rw [e1, h5]
          have : (((x.toNat % 128 + 128 * y : Nat)) : Int) = (x.toNat : Int) % 128 + (y : Int) * 128 := by omega
          rw [this, Int.add_mul, Int.mul_assoc]
          omega
        · rw [numB_big (by omega), show (x.toNat % 128 + 128 * y) / 128 = y by omega, e3, show (numR (i + 1) (n + (x.toNat : Int) % 128 * 128 ^ i) r).2.1 - i = ((numR (i + 1) (n + (x.toNat : Int) % 128 * 128 ^ i) r).2.1 - (i + 1)) + 1 by omega, List.take_succ_cons]
          congr 1
          rw [b8_of (x := x)]
          omega
theorem take_more {b : List UInt8} {k j : Nat} : b.take (k + j) = b.take k ++ (b.drop k).take j := List.take_add
theorem numAt_fwd {pre post : List UInt8} {x : Int} (h0 : 0 ≤ x) (h1 : x ≤ 9223372036854775807) : numAt (putL pre x ++ post) pre.length = (x, (putL pre x).length, 0) := by
  unfold numAt putL
  rw [List.append_assoc, List.drop_left, numR_fwd post x.toNat 0 0 (by omega) (by simp; omega) (by omega)]
  refine Prod.ext ?_ (Prod.ext ?_ rfl)
  · dsimp only; rw [Int.pow_zero]; omega
  · simp
theorem numAt_inv {b : List UInt8} {k : Nat} (h : (numAt b k).2.2 = 0) : b.take (numAt b k).2.1 = putL (b.take k) (numAt b k).1 := by
  obtain ⟨y, e1, e2, e3, _⟩ := numR_inv (b.drop k) 0 0 h (by omega)
  unfold numAt putL
  dsimp only
  rw [take_more, e1]
  congr 1
  have hy : ((0 : Int) + (y : Int) * 128 ^ 0).toNat = y := by rw [Int.pow_zero]; omega
  rw [hy, e3, Nat.sub_zero]
theorem dotB_app (pre : List UInt8) (d : Dot) : ∃ X, dotB pre d = pre ++ X := ⟨numB d.node.toNat ++ numB d.life.toNat ++ numB d.count.toNat, by simp [dotB, putL]⟩
theorem foldB_app : ∀ (l : List Dot) (pre : List UInt8), ∃ X, l.foldl dotB pre = pre ++ X
  | [], pre => ⟨[], by simp⟩
  | d :: r, pre => by
    obtain ⟨X, hX⟩ := dotB_app pre d
    obtain ⟨Y, hY⟩ := foldB_app r (dotB pre d)
    exact ⟨X ++ Y, by rw [List.foldl_cons, hY, hX, List.append_assoc]⟩
theorem dotAt_fwd {pre post : List UInt8} {d : Dot} (h : mayD d = true) : dotAt (dotB pre d ++ post) pre.length = (d, (dotB pre d).length, 0) := by
  have hl := may_lim h
  have e1 : dotB pre d ++ post = putL pre d.node ++ (numB d.life.toNat ++ (numB d.count.toNat ++ post)) := by simp [dotB, putL]
  have e2 : dotB pre d ++ post = putL (putL pre d.node) d.life ++ (numB d.count.toNat ++ post) := by simp [dotB, putL]
  have n1 : numAt (dotB pre d ++ post) pre.length = (d.node, (putL pre d.node).length, 0) := by rw [e1]; exact numAt_fwd (by omega) (by omega)
  have n2 : numAt (dotB pre d ++ post) (putL pre d.node).length = (d.life, (putL (putL pre d.node) d.life).length, 0) := by rw [e2]; exact numAt_fwd (by omega) (by omega)
  have n3 : numAt (dotB pre d ++ post) (putL (putL pre d.node) d.life).length = (d.count, (dotB pre d).length, 0) := by exact numAt_fwd (by omega) (by omega)
  unfold dotAt
  rw [n1, bindR_ok rfl]
  dsimp only
  rw [n2, bindR_ok rfl]
  dsimp only
  rw [n3, bindR_ok rfl]
theorem bindR_zero {α β : Type} {r : α × Nat × Int} {z : β} {f : α → Nat → β × Nat × Int} (h : (bindR r z f).2.2 = 0) : r.2.2 = 0 ∧ bindR r z f = f r.1 r.2.1 := by
  by_cases h1 : r.2.2 = 0
  · exact ⟨h1, bindR_ok h1⟩
  · rw [bindR_bad h1] at h
    exact absurd h h1
theorem dotAt_inv {b : List UInt8} {k : Nat} (h : (dotAt b k).2.2 = 0) : b.take (dotAt b k).2.1 = dotB (b.take k) (dotAt b k).1 := by
  unfold dotAt at h ⊢
  obtain ⟨h1, e1⟩ := bindR_zero h
  rw [e1] at h ⊢
  obtain ⟨h2, e2⟩ := bindR_zero h
  rw [e2] at h ⊢
  obtain ⟨h3, e3⟩ := bindR_zero h
  rw [e3]
  dsimp only
  rw [numAt_inv h3, numAt_inv h2, numAt_inv h1]
  rfl
theorem dotsAt_fwd {post : List UInt8} : ∀ {l acc : List Dot} {pre : List UInt8}, (∀ x ∈ l, mayD x = true) → dotsAt (l.foldl dotB pre ++ post) l.length acc pre.length = (acc ++ l, (l.foldl dotB pre).length, 0)
  | [], acc, pre, _ => by simp [dotsAt]
  | d :: r, acc, pre, h => by
    obtain ⟨X, hX⟩ := foldB_app r (dotB pre d)
    have e : (d :: r).foldl dotB pre ++ post = dotB pre d ++ (X ++ post) := by rw [List.foldl_cons, hX, List.append_assoc]
    rw [List.length_cons, dotsAt]
    have hd : dotAt ((d :: r).foldl dotB pre ++ post) pre.length = (d, (dotB pre d).length, 0) := by rw [e]; exact dotAt_fwd (h d (by simp))
    rw [hd, bindR_ok rfl]
    dsimp only
    rw [List.foldl_cons, dotsAt_fwd (fun x hx => h x (by simp [hx])), List.append_assoc]
    rfl
theorem dotsAt_inv {b : List UInt8} : ∀ {n k : Nat} {acc : List Dot}, (dotsAt b n acc k).2.2 = 0 → ∃ l, (dotsAt b n acc k).1 = acc ++ l ∧ l.length = n ∧ b.take (dotsAt b n acc k).2.1 = l.foldl dotB (b.take k)
  | 0, k, acc, _ => ⟨[], by simp [dotsAt], rfl, rfl⟩
  | n + 1, k, acc, h => by
    unfold dotsAt at h ⊢
    obtain ⟨h1, e1⟩ := bindR_zero h
    rw [e1] at h ⊢
    obtain ⟨l, e2, e3, e4⟩ := dotsAt_inv h
    exact ⟨(dotAt b k).1 :: l, by rw [e2, List.append_assoc]; rfl, by simp [e3], by rw [e4, dotAt_inv h1]; rfl⟩
theorem listAt_fwd {pre post : List UInt8} {l : List Dot} (h : ∀ x ∈ l, mayD x = true) (hl : l.length ≤ 64) : listAt (dotsB pre l ++ post) pre.length = (l, (dotsB pre l).length, 0) := by
  obtain ⟨X, hX⟩ := foldB_app l (putL pre (l.length : Int))
  have e : dotsB pre l ++ post = putL pre (l.length : Int) ++ (X ++ post) := by unfold dotsB; rw [hX, List.append_assoc]
  have hn : numAt (dotsB pre l ++ post) pre.length = ((l.length : Int), (putL pre (l.length : Int)).length, 0) := by rw [e]; exact numAt_fwd (by omega) (by omega)
  unfold listAt
  rw [hn, bindR_ok rfl]
  dsimp only
  rw [if_neg (by omega), Int.toNat_natCast]
  have := dotsAt_fwd (post := post) (acc := []) (pre := putL pre (l.length : Int)) h
  unfold dotsB
  rw [this]
  rfl
theorem listAt_inv {b : List UInt8} {k : Nat} (h : (listAt b k).2.2 = 0) : b.take (listAt b k).2.1 = dotsB (b.take k) (listAt b k).1 := by
  unfold listAt at h ⊢
  obtain ⟨h1, e1⟩ := bindR_zero h
  rw [e1] at h ⊢
  split at h
  · simp at h
  · rename_i h2
    rw [if_neg h2]
    obtain ⟨l, e2, e3, e4⟩ := dotsAt_inv h
    have hv := numAt_val b k
    rw [e4, e2, numAt_inv h1]
    unfold dotsB
    rw [List.nil_append, e3, show (((numAt b k).1.toNat : Nat) : Int) = (numAt b k).1 by omega]
theorem decAt_fwd {pre post : List UInt8} {C : Ctx} (h : canL C = true) : decAt (encC pre C ++ post) pre.length = (C, (encC pre C).length, 0) := by
  have hlen := can_len h
  have hm := (can_nf h).mayM
  have hc := (can_nf h).mayC
  obtain ⟨X, hX⟩ := foldB_app C.cloud (putL (dotsB pre C.marks) (C.cloud.length : Int))
  have e : encC pre C ++ post = dotsB pre C.marks ++ (numB C.cloud.length ++ X ++ post) := by
    have e2 : encC pre C = C.cloud.foldl dotB (putL (dotsB pre C.marks) (C.cloud.length : Int)) := rfl
    rw [e2, hX]
    simp [putL]
  have h1 : listAt (encC pre C ++ post) pre.length = (C.marks, (dotsB pre C.marks).length, 0) := by rw [e]; exact listAt_fwd hm hlen.1
  have h2 : listAt (encC pre C ++ post) (dotsB pre C.marks).length = (C.cloud, (encC pre C).length, 0) := listAt_fwd hc hlen.2
  have h3 : ctxAt (encC pre C ++ post) pre.length = (C, (encC pre C).length, 0) := by
    unfold ctxAt
    rw [h1, bindR_ok rfl]
    dsimp only
    rw [h2, bindR_ok rfl]
    dsimp only
    rw [if_pos h]
  unfold decAt
  rw [h3, if_pos rfl]
theorem decAt_inv {b : List UInt8} {k : Nat} (h : (decAt b k).2.2 = 0) : canL (decAt b k).1 = true ∧ b.take (decAt b k).2.1 = encC (b.take k) (decAt b k).1 := by
  by_cases h0 : (ctxAt b k).2.2 = 0
  · unfold decAt at h ⊢
    rw [if_pos h0]
    unfold ctxAt at h0 ⊢
    obtain ⟨h1, e1⟩ := bindR_zero h0
    rw [e1] at h0 ⊢
    obtain ⟨h2, e2⟩ := bindR_zero h0
    rw [e2] at h0 ⊢
    split at h0
    · rename_i hc
      rw [if_pos hc]
      exact ⟨hc, by rw [listAt_inv h2, listAt_inv h1]; rfl⟩
    · simp at h0
  · unfold decAt at h
    rw [if_neg h0] at h
    exact absurd h h0
theorem decAt_le {b : List UInt8} {k : Nat} (h : k ≤ b.length) : k ≤ (decAt b k).2.1 ∧ (decAt b k).2.1 ≤ b.length := by
  unfold decAt
  split
  · exact ctxAt_le h
  · exact ⟨Nat.le_refl _, h⟩
end Go.Fw
set_option linter.unusedVariables false
set_option linter.unusedSimpArgs false
set_option maxRecDepth 100000
set_option maxHeartbeats 4000000
namespace Go.Fw
def textL (l s : List UInt8) : List UInt8 := putL l (s.length : Int) ++ s
def textR (b : List UInt8) (k : Nat) (most : Int) : List UInt8 × Nat × Int :=
  if (numAt b k).2.2 = 0 then (if max most 0 < (numAt b k).1 then ([], k, 4) else if ((b.length - (numAt b k).2.1 : Nat) : Int) < (numAt b k).1 then ([], k, 2) else ((b.drop (numAt b k).2.1).take (numAt b k).1.toNat, (numAt b k).2.1 + (numAt b k).1.toNat, 0)) else ([], k, (numAt b k).2.2)
theorem textR_le {b : List UInt8} {k : Nat} {most : Int} (h : k ≤ b.length) : k ≤ (textR b k most).2.1 ∧ (textR b k most).2.1 ≤ b.length := by
  have h1 := numAt_le h
  have h2 := numAt_val b k
  unfold textR
  split
  · split
    · exact ⟨Nat.le_refl _, h⟩
    · split
      · exact ⟨Nat.le_refl _, h⟩
      · dsimp only; omega
  · exact ⟨Nat.le_refl _, h⟩
theorem textR_bad {b : List UInt8} {k : Nat} {most : Int} (h : (textR b k most).2.2 ≠ 0) : (textR b k most).1 = [] ∧ (textR b k most).2.1 = k := by
  unfold textR at h ⊢
  split
  · rename_i h1
    rw [if_pos h1] at h
    split
    · exact ⟨rfl, rfl⟩
    · rename_i h2
      rw [if_neg h2] at h
      split
      · exact ⟨rfl, rfl⟩
      · rename_i h3
        rw [if_neg h3] at h
        exact absurd rfl h
  · exact ⟨rfl, rfl⟩
end Go.Fw
namespace Go.Proofs.YtfblmkocmnbdcaaGreat
open Go.Fw Go.Proofs Go.RowKit Go.Proofs.Tryz
theorem c54 (w0 : World) (v1 : Value) (l s : List UInt8) (h : Sl encB 1 w0 w0.heap.size v1 l) (hl : l.length ≤ 4194304) (hs : s.length ≤ 4194304) :
    Rets Tryz.prog 54 #[v1, .string (bs s)] w0 fun v L => ∃ A r, v = .slice A (textL l s).length r ∧ L = [rowOf 5 1 encB A r (textL l s)] := by
  have hh := h
  obtain ⟨A, cap, rfl, _⟩ := h
  have hpl := putL_len l (n := (s.length : Int)) (by omega)
  have rw_t : putL l (s.length : Int) ++ s = textL l s := rfl
  unfold Go.Fw.Rets
  refine enter2 func54 rfl ntmps54 rfl fun a S => sg S (.ac rfl <| .z) fun a w S => wp_seq_k fun _ hK1 => wp_region_lit (run S (.mv rfl <| .mv rfl <| .yy (ys_lenStr underlying9 (.t rfl)) rfl <| .z) fun a w S => ?_)
  (refine st_m (op_calls S call53 (.cons (.t rfl) (.cons (.t rfl) .nil)) (c53 _ _ _ _ (by exact .old S.wd (by assumption)) (by omega) (by omega)) rfl ?_); clear S a w; rintro _ _ ⟨A1, c1, rfl, rfl⟩ a w S)
  refine run S (.mv rfl <| .z) fun a w S => st_m (op_extend _ S underlying28 underlying9 (.inl rfl) inf5 rfl (k := 0) rfl (.t rfl) (.t rfl) Src.str (by first | omega | (simp only [List.length_append, List.length_cons, List.length_nil]; omega) | (simp; omega)) rfl rfl rfl fun A2 cap1 a w S => ?_)
  rw [rw_t] at S
  refine run S (.as rfl <| .z) fun a w S => st_nil (then_normal (hK1 _ _ (wp_ret (st_ret S (results1 S results54 (Rv.tmp rfl)) ?_))))
  exact ⟨_, _, rfl, S.wd.pk, _, _, rfl, rfl⟩
theorem c70 (w0 : World) (v1 : Value) (l s : List UInt8) (h : Sl encB 1 w0 w0.heap.size v1 l) (hl : l.length ≤ 4194304) (hs : s.length ≤ 4194304) :
    Rets Tryz.prog 70 #[v1, .string (bs s)] w0 fun v L => ∃ A r, v = .slice A (textL l s).length r ∧ L = [rowOf 5 1 encB A r (textL l s)] := by
  have hh := h
  obtain ⟨A, cap, rfl, _⟩ := h
  have hpl := putL_len l (n := (s.length : Int)) (by omega)
  have rw_t : putL l (s.length : Int) ++ s = textL l s := rfl
  unfold Go.Fw.Rets
  refine enter2 func70 rfl ntmps70 rfl fun a S => sg S (.ac rfl <| .z) fun a w S => wp_seq_k fun _ hK1 => wp_region_lit (run S (.mv rfl <| .mv rfl <| .yy (ys_lenStr underlying9 (.t rfl)) rfl <| .z) fun a w S => ?_)
  (refine st_m (op_calls S call69 (.cons (.t rfl) (.cons (.t rfl) .nil)) (c69 _ _ _ _ (by exact .old S.wd (by assumption)) (by omega) (by omega)) rfl ?_); clear S a w; rintro _ _ ⟨A1, c1, rfl, rfl⟩ a w S)
  refine run S (.mv rfl <| .z) fun a w S => st_m (op_extend _ S underlying28 underlying9 (.inl rfl) inf5 rfl (k := 0) rfl (.t rfl) (.t rfl) Src.str (by first | omega | (simp only [List.length_append, List.length_cons, List.length_nil]; omega) | (simp; omega)) rfl rfl rfl fun A2 cap1 a w S => ?_)
  rw [rw_t] at S
  refine run S (.as rfl <| .z) fun a w S => st_nil (then_normal (hK1 _ _ (wp_ret (st_ret S (results1 S results70 (Rv.tmp rfl)) ?_))))
  exact ⟨_, _, rfl, S.wd.pk, _, _, rfl, rfl⟩
theorem c60 (w0 : World) (g : Nat) (A : Option Addr) (cap k n : Nat) (h0 : w0.cell? ⟨g, 0, none⟩ = some (.slice A n cap)) (h1 : w0.cell? ⟨g, 1, none⟩ = some (.int .i64 (k : Int))) (h2 : w0.cell? ⟨g, 2, none⟩ = some (.bool true)) (hk : k ≤ n) (hn : n ≤ 16777216) :
    Calls Tryz.prog 60 #[.pointer (some ⟨g, 0, none⟩)] w0 fun e w' => e = .returned (.int .i64 (if k < n then 3 else 0)) ∧ Bel w0.heap.size w0 w' := by
  by_cases h : k < n
  · refine enter1 func60 rfl ntmps60 rfl fun a S => sg S (.ac rfl <| .z) fun a w S => wp_seq_k fun _ hK1 => sg S (.mv rfl <| .xx (ys_call call120 (.cons (.t rfl) .nil) (fun hp w W => c120 _ _ (by exact Wd.cellOld W (by assumption)))) rfl <| .nt rfl <| .z) fun a w S => st_else S (.t rfl) (wp_skip (then_normal (hK1 _ _ (wp_seq_k fun _ hK1 => sg S (.mv rfl <| .xx (ys_call call121 (.cons (.t rfl) .nil) (fun hp w W => c121 _ _ _ _ _ _ (by exact Wd.cellOld W (by assumption)) (by exact Wd.cellOld W (by assumption)) (by exact Wd.cellOld W (by assumption)) (by assumption) (by assumption))) rfl <| .yy (ys_T (by omega) (ys_gtr (.t rfl) Ev.c)) rfl <| .z) fun a w S => st_then S (.t rfl) (sg S (.ac rfl <| .z) fun a w S => wp_ret (then_ret (st_ret S (results1 S results60 (Rv.tmp rfl)) ?_)))))))
    exact ⟨by rw [if_pos h], S.wd.below⟩
  · refine enter1 func60 rfl ntmps60 rfl fun a S => sg S (.ac rfl <| .z) fun a w S => wp_seq_k fun _ hK1 => sg S (.mv rfl <| .xx (ys_call call120 (.cons (.t rfl) .nil) (fun hp w W => c120 _ _ (by exact Wd.cellOld W (by assumption)))) rfl <| .nt rfl <| .z) fun a w S => st_else S (.t rfl) (wp_skip (then_normal (hK1 _ _ (wp_seq_k fun _ hK1 => sg S (.mv rfl <| .xx (ys_call call121 (.cons (.t rfl) .nil) (fun hp w W => c121 _ _ _ _ _ _ (by exact Wd.cellOld W (by assumption)) (by exact Wd.cellOld W (by assumption)) (by exact Wd.cellOld W (by assumption)) (by assumption) (by assumption))) rfl <| .yy (ys_F (by omega) (ys_gtr (.t rfl) Ev.c)) rfl <| .z) fun a w S => st_else S (.t rfl) (wp_skip (then_normal (hK1 _ _ (sg S (.ac rfl <| .z) fun a w S => wp_ret (st_ret S (results1 S results60 (Rv.tmp rfl)) ?_)))))))))
    exact ⟨by rw [if_neg h], S.wd.below⟩
theorem c123 {w0 w : World} {L : List Chunk} {g cap k : Nat} {A : Option Addr} {b : List UInt8} {most : Int} (W : Wd w0 (rds g A cap b k L) w) (hs : Sl encB 1 w0 w0.heap.size (.slice A b.length cap) b) (hk : k ≤ b.length) (hb : b.length ≤ 16777216) :
    RetsO Tryz.prog 123 #[.pointer (some ⟨g, 0, none⟩), .int .i64 most] w0 w (fun v L' => v = .tuple #[.string (bs (textR b k most).1), .int .i64 (textR b k most).2.2] ∧ L' = rds g A cap b (textR b k most).2.1 L) := by
  have hcap := hs.le
  have hs' := hs.drop_ k hk
  have rw_d : b.length - k = (b.drop k).length := by simp
  have hdl : (b.drop k).length ≤ 16777216 := by simp; omega
  have hnl := numAt_le hk
  have hnv := numAt_val b k
  have rw_p : (k : Int) + (((numR 0 0 (b.drop k)).2.1 : Nat) : Int) = ((numAt b k).2.1 : Int) := by unfold numAt; simp
  have hun : textR b k most = if (numAt b k).2.2 = 0 then (if max most 0 < (numAt b k).1 then ([], k, 4) else if ((b.length - (numAt b k).2.1 : Nat) : Int) < (numAt b k).1 then ([], k, 2) else ((b.drop (numAt b k).2.1).take (numAt b k).1.toNat, (numAt b k).2.1 + (numAt b k).1.toNat, 0)) else ([], k, (numAt b k).2.2) := rfl
  by_cases he : (numAt b k).2.2 = 0
  rotate_left
  · have rw_e : decide ((numR 0 0 (b.drop k)).2.2 ≠ 0) = true := decide_eq_true he
    rw [if_neg he] at hun
    unfold Go.Fw.RetsO
    refine enterW2 W func123 rfl ntmps123 rfl fun a S => sg S (.ac rfl <| .ac rfl <| .z) fun a w S => wp_seq_k fun _ hK1 => st_quiet S (by kernel_rfl) (by kernel_rfl) fun a S => qrun S (.mv rfl <| .yy (ys_nilc (.t rfl)) rfl <| .fa underlying105 sizeOf28 0 rfl rfl rfl <| .ld gt28 0 rfl rfl rfl <| .mv rfl <| .yy (ys_nilc (.t rfl)) rfl <| .fa underlying105 sizeOf3 1 rfl rfl rfl <| .ld gt3 0 rfl rfl rfl <| .yy (ys_slLo underlying28 sizeOf5 (.t rfl) (.t rfl) (fun _ => by first | omega | (simp; done) | (simp; omega))) rfl <| .z) fun a S => ?_
    rw [rw_d] at S
    refine qrun S (.xx (ys_call call122 (.cons (.t rfl) .nil) (fun hp w W => c122 _ _ _ (by exact .old W (by assumption)) (by assumption))) rfl <| .mv rfl <| .ex rfl rfl <| .ex rfl rfl <| .ex rfl rfl <| .as rfl <| .as rfl <| .as rfl <| .z) fun a S => ?_
    (refine q_nil ?_; intro w W; replace S := St.mk S W; clear W)
    refine then_normal (hK1 _ _ (wp_seq_k fun _ hK1 => wp_block (wp_seq_k fun _ hK2 => wp_region_lit (run S (.mv rfl <| .yy (ys_neq (.t rfl) Ev.c) rfl <| .z) fun a w S => ?_))))
    rw [rw_e] at S
    refine run S (.as rfl <| .z) fun a w S => st_nil (then_normal (hK2 _ _ (st_then S (.t rfl) (sg S (.mv rfl <| .ac rfl <| .as rfl <| .z) fun a w S => wp_ret (in_ret (then_ret (st_ret S (results2 S results123 (Rv.tmp rfl) (Rv.tmp rfl)) ?_)))))))
    rw [hun]
    exact ⟨_, _, rfl, S.wd, rfl, rfl⟩
  rw [if_pos he] at hun
  have rw_e : (numR 0 0 (b.drop k)).2.2 = 0 := he
  by_cases h1 : max most 0 < (numAt b k).1
  · have rw_1 : decide (max most 0 < (numR 0 0 (b.drop k)).1) = true := decide_eq_true h1
    rw [if_pos h1] at hun
    unfold Go.Fw.RetsO
    refine enterW2 W func123 rfl ntmps123 rfl fun a S => sg S (.ac rfl <| .ac rfl <| .z) fun a w S => wp_seq_k fun _ hK1 => st_quiet S (by kernel_rfl) (by kernel_rfl) fun a S => qrun S (.mv rfl <| .yy (ys_nilc (.t rfl)) rfl <| .fa underlying105 sizeOf28 0 rfl rfl rfl <| .ld gt28 0 rfl rfl rfl <| .mv rfl <| .yy (ys_nilc (.t rfl)) rfl <| .fa underlying105 sizeOf3 1 rfl rfl rfl <| .ld gt3 0 rfl rfl rfl <| .yy (ys_slLo underlying28 sizeOf5 (.t rfl) (.t rfl) (fun _ => by first | omega | (simp; done) | (simp; omega))) rfl <| .z) fun a S => ?_
    rw [rw_d] at S
    refine qrun S (.xx (ys_call call122 (.cons (.t rfl) .nil) (fun hp w W => c122 _ _ _ (by exact .old W (by assumption)) (by assumption))) rfl <| .z) fun a S => ?_
    rw [rw_e] at S
    refine qrun S (.mv rfl <| .ex rfl rfl <| .ex rfl rfl <| .ex rfl rfl <| .as rfl <| .as rfl <| .as rfl <| .z) fun a S => ?_
    (refine q_nil ?_; intro w W; replace S := St.mk S W; clear W)
    refine then_normal (hK1 _ _ (wp_seq_k fun _ hK1 => wp_block (sg S (.mv rfl <| .yy (ys_F (by omega) (ys_neq (.t rfl) Ev.c)) rfl <| .as rfl <| .z) fun a w S => st_else S (.t rfl) (wp_seq_k fun _ hK2 => wp_region_lit (run S (.mv rfl <| .mv rfl <| .yy (ys_max (.t rfl) Ev.c) rfl <| .yy (ys_gtr (.t rfl) (.t rfl)) rfl <| .z) fun a w S => ?_)))))
    rw [rw_1] at S
    refine run S (.as rfl <| .z) fun a w S => st_nil (then_normal (hK2 _ _ (st_then S (.t rfl) (sg S (.ac rfl <| .ac rfl <| .z) fun a w S => wp_ret (in_ret (then_ret (st_ret S (results2 S results123 (Rv.tmp rfl) (Rv.tmp rfl)) ?_)))))))
    rw [hun]
    exact ⟨_, _, rfl, S.wd, rfl, rfl⟩
  have rw_1 : decide (max most 0 < (numR 0 0 (b.drop k)).1) = false := decide_eq_false h1
  rw [if_neg h1] at hun
  have rw_l : (b.length : Int) - (k : Int) - (((numR 0 0 (b.drop k)).2.1 : Nat) : Int) = ((b.length - (numAt b k).2.1 : Nat) : Int) := by omega
  by_cases h2 : ((b.length - (numAt b k).2.1 : Nat) : Int) < (numAt b k).1
  · have rw_2 : decide (((b.length - (numAt b k).2.1 : Nat) : Int) < (numR 0 0 (b.drop k)).1) = true := decide_eq_true h2
    rw [if_pos h2] at hun
    unfold Go.Fw.RetsO
    refine enterW2 W func123 rfl ntmps123 rfl fun a S => sg S (.ac rfl <| .ac rfl <| .z) fun a w S => wp_seq_k fun _ hK1 => st_quiet S (by kernel_rfl) (by kernel_rfl) fun a S => qrun S (.mv rfl <| .yy (ys_nilc (.t rfl)) rfl <| .fa underlying105 sizeOf28 0 rfl rfl rfl <| .ld gt28 0 rfl rfl rfl <| .mv rfl <| .yy (ys_nilc (.t rfl)) rfl <| .fa underlying105 sizeOf3 1 rfl rfl rfl <| .ld gt3 0 rfl rfl rfl <| .yy (ys_slLo underlying28 sizeOf5 (.t rfl) (.t rfl) (fun _ => by first | omega | (simp; done) | (simp; omega))) rfl <| .z) fun a S => ?_
    rw [rw_d] at S
    refine qrun S (.xx (ys_call call122 (.cons (.t rfl) .nil) (fun hp w W => c122 _ _ _ (by exact .old W (by assumption)) (by assumption))) rfl <| .z) fun a S => ?_
    rw [rw_e] at S
    refine qrun S (.mv rfl <| .ex rfl rfl <| .ex rfl rfl <| .ex rfl rfl <| .as rfl <| .as rfl <| .as rfl <| .z) fun a S => ?_
    (refine q_nil ?_; intro w W; replace S := St.mk S W; clear W)
    refine then_normal (hK1 _ _ (wp_seq_k fun _ hK1 => wp_block (sg S (.mv rfl <| .yy (ys_F (by omega) (ys_neq (.t rfl) Ev.c)) rfl <| .as rfl <| .z) fun a w S => st_else S (.t rfl) (wp_seq_k fun _ hK2 => wp_region_lit (run S (.mv rfl <| .mv rfl <| .yy (ys_max (.t rfl) Ev.c) rfl <| .yy (ys_gtr (.t rfl) (.t rfl)) rfl <| .z) fun a w S => ?_)))))
    rw [rw_1] at S
    refine run S (.as rfl <| .z) fun a w S => st_nil (then_normal (hK2 _ _ (st_else S (.t rfl) (wp_seq_k fun _ hK2 => st_quiet S (by kernel_rfl) (by kernel_rfl) fun a S => qrun S (.mv rfl <| .mv rfl <| .yy (ys_nilc (.t rfl)) rfl <| .fa underlying105 sizeOf28 0 rfl rfl rfl <| .ld gt28 0 rfl rfl rfl <| .ln underlying28 rfl <| .mv rfl <| .yy (ys_nilc (.t rfl)) rfl <| .fa underlying105 sizeOf3 1 rfl rfl rfl <| .ld gt3 0 rfl rfl rfl <| .yy (ys_subI (.t rfl) (.t rfl) (fun _ => by unfold I64; omega)) rfl <| .mv rfl <| .yy (ys_subI (.t rfl) (.t rfl) (fun _ => by unfold I64; omega)) rfl <| .z) fun a S => ?_))))
    rw [rw_l] at S
    refine qrun S (.yy (ys_gtr (.t rfl) (.t rfl)) rfl <| .z) fun a S => ?_
    rw [rw_2] at S
    refine qrun S (.as rfl <| .z) fun a S => ?_
    (refine q_nil ?_; intro w W; replace S := St.mk S W; clear W)
    refine then_normal (hK2 _ _ (st_then S (.t rfl) (sg S (.ac rfl <| .ac rfl <| .z) fun a w S => wp_ret (in_ret (then_ret (st_ret S (results2 S results123 (Rv.tmp rfl) (Rv.tmp rfl)) ?_))))))
    rw [hun]
    exact ⟨_, _, rfl, S.wd, rfl, rfl⟩
  have rw_2 : decide (((b.length - (numAt b k).2.1 : Nat) : Int) < (numR 0 0 (b.drop k)).1) = false := decide_eq_false h2
  rw [if_neg h2] at hun
  obtain ⟨m, hm⟩ := Int.eq_ofNat_of_zero_le hnv.1
  have rw_m : (numR 0 0 (b.drop k)).1 = (m : Int) := hm
  generalize (numAt b k).2.1 = k1 at *
  have rw_s : (k1 : Int) + (m : Int) = ((k1 + m : Nat) : Int) := by omega
  have hle : k1 + m ≤ b.length := by omega
  have hsub := hs.sub k1 (k1 + m) (by omega) (by omega)
  have hlen : ((b.drop k1).take (k1 + m - k1)).length = k1 + m - k1 := by rw [List.length_take, List.length_drop]; omega
  have rw_len := hlen.symm
  replace hsub : Sl encB 1 w0 w0.heap.size (.slice (if cap = k1 then A else A.map (·.add (k1 * 1))) ((b.drop k1).take (k1 + m - k1)).length (cap - k1)) ((b.drop k1).take (k1 + m - k1)) := by rw [hlen]; exact hsub
  generalize ht : (b.drop k1).take (k1 + m - k1) = t at *
  have rw_9 : (k : Int) + ((((numR 0 0 (b.drop k)).2.1 : Nat) : Int) + (m : Int)) = ((k1 + m : Nat) : Int) := by omega
  have hun' : textR b k most = (t, k1 + m, 0) := by
    rw [hun, hm, ← ht]
    have : k1 + m - k1 = ((m : Int)).toNat := by omega
    rw [this, Int.toNat_natCast]
  unfold Go.Fw.RetsO
  refine enterW2 W func123 rfl ntmps123 rfl fun a S => sg S (.ac rfl <| .ac rfl <| .z) fun a w S => wp_seq_k fun _ hK1 => st_quiet S (by kernel_rfl) (by kernel_rfl) fun a S => qrun S (.mv rfl <| .yy (ys_nilc (.t rfl)) rfl <| .fa underlying105 sizeOf28 0 rfl rfl rfl <| .ld gt28 0 rfl rfl rfl <| .mv rfl <| .yy (ys_nilc (.t rfl)) rfl <| .fa underlying105 sizeOf3 1 rfl rfl rfl <| .ld gt3 0 rfl rfl rfl <| .yy (ys_slLo underlying28 sizeOf5 (.t rfl) (.t rfl) (fun _ => by first | omega | (simp; done) | (simp; omega))) rfl <| .z) fun a S => ?_
  rw [rw_d] at S
  refine qrun S (.xx (ys_call call122 (.cons (.t rfl) .nil) (fun hp w W => c122 _ _ _ (by exact .old W (by assumption)) (by assumption))) rfl <| .z) fun a S => ?_
  rw [rw_e] at S
  rw [rw_m] at S
  refine qrun S (.mv rfl <| .ex rfl rfl <| .ex rfl rfl <| .ex rfl rfl <| .as rfl <| .as rfl <| .as rfl <| .z) fun a S => ?_
  (refine q_nil ?_; intro w W; replace S := St.mk S W; clear W)
  refine then_normal (hK1 _ _ (wp_seq_k fun _ hK1 => wp_block (sg S (.mv rfl <| .yy (ys_F (by omega) (ys_neq (.t rfl) Ev.c)) rfl <| .as rfl <| .z) fun a w S => st_else S (.t rfl) (sg S (.mv rfl <| .mv rfl <| .yy (ys_max (.t rfl) Ev.c) rfl <| .yy (ys_F (by omega) (ys_gtr (.t rfl) (.t rfl))) rfl <| .as rfl <| .z) fun a w S => st_else S (.t rfl) (wp_seq_k fun _ hK2 => st_quiet S (by kernel_rfl) (by kernel_rfl) fun a S => qrun S (.mv rfl <| .mv rfl <| .yy (ys_nilc (.t rfl)) rfl <| .fa underlying105 sizeOf28 0 rfl rfl rfl <| .ld gt28 0 rfl rfl rfl <| .ln underlying28 rfl <| .mv rfl <| .yy (ys_nilc (.t rfl)) rfl <| .fa underlying105 sizeOf3 1 rfl rfl rfl <| .ld gt3 0 rfl rfl rfl <| .yy (ys_subI (.t rfl) (.t rfl) (fun _ => by unfold I64; omega)) rfl <| .mv rfl <| .yy (ys_subI (.t rfl) (.t rfl) (fun _ => by unfold I64; omega)) rfl <| .z) fun a S => ?_)))))
  rw [rw_l] at S
  refine qrun S (.yy (ys_F (by omega) (ys_gtr (.t rfl) (.t rfl))) rfl <| .as rfl <| .z) fun a S => ?_
  (refine q_nil ?_; intro w W; replace S := St.mk S W; clear W)
  refine then_normal (hK2 _ _ (st_else S (.t rfl) (wp_skip (in_normal (then_normal (hK1 _ _ (wp_seq_k fun _ hK1 => st_quiet S (by kernel_rfl) (by kernel_rfl) fun a S => qrun S (.mv rfl <| .yy (ys_nilc (.t rfl)) rfl <| .fa underlying105 sizeOf28 0 rfl rfl rfl <| .ld gt28 0 rfl rfl rfl <| .mv rfl <| .yy (ys_nilc (.t rfl)) rfl <| .fa underlying105 sizeOf3 1 rfl rfl rfl <| .ld gt3 0 rfl rfl rfl <| .mv rfl <| .yy (ys_addI (.t rfl) (.t rfl) (fun _ => by unfold I64; omega)) rfl <| .z) fun a S => ?_)))))))
  rw [rw_p] at S
  refine qrun S (.mv rfl <| .yy (ys_nilc (.t rfl)) rfl <| .fa underlying105 sizeOf3 1 rfl rfl rfl <| .ld gt3 0 rfl rfl rfl <| .mv rfl <| .yy (ys_addI (.t rfl) (.t rfl) (fun _ => by unfold I64; omega)) rfl <| .z) fun a S => ?_
  rw [rw_p] at S
  refine qrun S (.mv rfl <| .yy (ys_addI (.t rfl) (.t rfl) (fun _ => by unfold I64; omega)) rfl <| .z) fun a S => ?_
  rw [rw_s] at S
  refine qrun S (.yy (ys_slLH underlying28 sizeOf5 (.t rfl) (.t rfl) (.t rfl) (fun _ => by first | omega | (simp; done) | (simp; omega))) rfl <| .z) fun a S => ?_
  rw [rw_len] at S
  refine qrun S (.yy (ys_str underlying28 underlying5 underlying9 (.t rfl) (fun _ w W => by first | exact Sl.old W (by assumption))) rfl <| .as rfl <| .z) fun a S => ?_
  (refine q_nil ?_; intro w W; replace S := St.mk S W; clear W)
  refine then_normal (hK1 _ _ (wp_seq_k fun _ hK1 => wp_region_lit (run S (.mv rfl <| .yy (ys_nilc (.t rfl)) rfl <| .fa underlying105 sizeOf3 1 rfl rfl rfl <| .ld gt3 0 rfl rfl rfl <| .mv rfl <| .mv rfl <| .yy (ys_addI (.t rfl) (.t rfl) (fun _ => by unfold I64; omega)) rfl <| .yy (ys_addI (.t rfl) (.t rfl) (fun _ => by unfold I64; omega)) rfl <| .z) fun a w S => ?_)))
  rw [rw_9] at S
  refine run S (.yy (ys_nilc (.t rfl)) rfl <| .fa underlying105 sizeOf3 1 rfl rfl rfl <| .z) fun a w S => st_m (op_st S sizeOf3 (.t rfl) (.t rfl) (k := 0) rfl rfl (by simp) fun a w S => st_nil (then_normal (hK1 _ _ (sg S (.mv rfl <| .as rfl <| .ac rfl <| .z) fun a w S => wp_ret (st_ret S (results2 S results123 (Rv.tmp rfl) (Rv.tmp rfl)) ?_)))))
  rw [hun']
  exact ⟨_, _, rfl, S.wd, rfl, rfl⟩
theorem q161 {w0 w : World} {L : List Chunk} {g g1 g2 g3 cap k : Nat} {A : Option Addr} {b z : List UInt8} {most : Int} (W : Wd w0 (rdr g A cap b k (.blk g1 (.cells #[.pointer (some ⟨g, 0, none⟩)] 92) :: .blk g2 (.cells #[.int .i64 most] 3) :: .blk g3 (.cells #[.string (bs z)] 9) :: L)) w) (hk : k ≤ b.length) (hb : b.length ≤ 16777216) :
    RetsP Tryz.prog 161 #[.pointer (some ⟨g1, 0, none⟩), .pointer (some ⟨g2, 0, none⟩), .pointer (some ⟨g3, 0, none⟩)] 41 w0 w (fun v L' => (textR b k most).2.2 = 0 ∧ v = .tuple #[] ∧ L' = rdr g A cap b (textR b k most).2.1 (.blk g1 (.cells #[.pointer (some ⟨g, 0, none⟩)] 92) :: .blk g2 (.cells #[.int .i64 most] 3) :: .blk g3 (.cells #[.string (bs (textR b k most).1)] 9) :: L))
      (fun x L' => x = (textR b k most).2.2 ∧ x ≠ 0 ∧ ∃ k', L' = rdr g A cap b k' (.blk g1 (.cells #[.pointer (some ⟨g, 0, none⟩)] 92) :: .blk g2 (.cells #[.int .i64 most] 3) :: .blk g3 (.cells #[.string (bs z)] 9) :: L)) := by
  have hnl := numAt_le hk
  have hnv := numAt_val b k
  have hun : textR b k most = if (numAt b k).2.2 = 0 then (if max most 0 < (numAt b k).1 then ([], k, 4) else if ((b.length - (numAt b k).2.1 : Nat) : Int) < (numAt b k).1 then ([], k, 2) else ((b.drop (numAt b k).2.1).take (numAt b k).1.toNat, (numAt b k).2.1 + (numAt b k).1.toNat, 0)) else ([], k, (numAt b k).2.2) := rfl
  have rw_k : ((k + (numR 0 0 (b.drop k)).2.1 : Nat) : Int) = (((numAt b k).2.1 : Nat) : Int) := rfl
  by_cases he : (numAt b k).2.2 = 0
  rotate_left
  · rw [if_neg he] at hun
    have he' : (numR 0 0 (b.drop k)).2.2 ≠ 0 := he
    unfold Go.Fw.RetsP
    refine enterW3 W func161 rfl ntmps161 rfl fun a S => wp_seq_k fun _ hK1 => wp_region_lit (run S (.ld gt92 2 rfl rfl rfl <| .z) fun a w S => ?_)
    (refine st_m (op_callRP S call116 (.cons (.t rfl) .nil) (c116 S.wd (by first | assumption | omega | (dsimp only; omega) | exact Sl.nil_ | exact .old S.wd (by assumption) | exact Sl.of_own S.wd (k := 0) rfl (fun _ => rfl) | exact Sl.of_own S.wd (k := 1) rfl (fun _ => rfl) | exact Sl.of_own S.wd (k := 2) rfl (fun _ => rfl) | exact Sl.of_own S.wd (k := 3) rfl (fun _ => rfl) | exact Sl.of_own S.wd (k := 4) rfl (fun _ => rfl) | (simp at *; omega)) (by first | assumption | omega | (dsimp only; omega) | exact Sl.nil_ | exact .old S.wd (by assumption) | exact Sl.of_own S.wd (k := 0) rfl (fun _ => rfl) | exact Sl.of_own S.wd (k := 1) rfl (fun _ => rfl) | exact Sl.of_own S.wd (k := 2) rfl (fun _ => rfl) | exact Sl.of_own S.wd (k := 3) rfl (fun _ => rfl) | exact Sl.of_own S.wd (k := 4) rfl (fun _ => rfl) | (simp at *; omega))) rfl ?_ ?_) <;> clear S a w)
    rintro _ _ ⟨hr1, rfl, rfl⟩ a w S
    refine run S (.as rfl <| .z) fun a w S => st_nil (then_normal (hK1 _ _ (wp_seq_k fun _ hK1 => sg S (.mv rfl <| .ld gt3 3 rfl rfl rfl <| .yy (ys_max (.t rfl) Ev.c) rfl <| .yy (ys_T (by omega) (ys_gtr (.t rfl) (.t rfl))) rfl <| .z) fun a w S => st_then S (.t rfl) (wp_region_lit ?_))))
    (refine st_m (op_callRP S call139 (.cons Ev.c .nil) (c139 S.wd _) rfl ?_ ?_) <;> clear S a w)
    (intro _ _ h; exact h.elim)
    rintro _ _ ⟨rfl, rfl⟩ a w S
    refine then_panic ?_
    refine post_panic S ?_
    rotate_left
    rintro _ _ ⟨rfl, hr1, rfl⟩ a w S
    refine then_panic ?_
    refine post_panic S ?_
    rotate_left
    · exact absurd hr1 he'
    · rw [hun]
      exact .inr ⟨_, _, rfl, S.wd, rfl, hr1, k, rfl⟩
  rw [if_pos he] at hun
  have he' : (numR 0 0 (b.drop k)).2.2 = 0 := he
  by_cases h1 : max most 0 < (numAt b k).1
  · have rw_1 : decide (max most 0 < (numR 0 0 (b.drop k)).1) = true := decide_eq_true h1
    rw [if_pos h1] at hun
    unfold Go.Fw.RetsP
    refine enterW3 W func161 rfl ntmps161 rfl fun a S => wp_seq_k fun _ hK1 => wp_region_lit (run S (.ld gt92 2 rfl rfl rfl <| .z) fun a w S => ?_)
    (refine st_m (op_callRP S call116 (.cons (.t rfl) .nil) (c116 S.wd (by first | assumption | omega | (dsimp only; omega) | exact Sl.nil_ | exact .old S.wd (by assumption) | exact Sl.of_own S.wd (k := 0) rfl (fun _ => rfl) | exact Sl.of_own S.wd (k := 1) rfl (fun _ => rfl) | exact Sl.of_own S.wd (k := 2) rfl (fun _ => rfl) | exact Sl.of_own S.wd (k := 3) rfl (fun _ => rfl) | exact Sl.of_own S.wd (k := 4) rfl (fun _ => rfl) | (simp at *; omega)) (by first | assumption | omega | (dsimp only; omega) | exact Sl.nil_ | exact .old S.wd (by assumption) | exact Sl.of_own S.wd (k := 0) rfl (fun _ => rfl) | exact Sl.of_own S.wd (k := 1) rfl (fun _ => rfl) | exact Sl.of_own S.wd (k := 2) rfl (fun _ => rfl) | exact Sl.of_own S.wd (k := 3) rfl (fun _ => rfl) | exact Sl.of_own S.wd (k := 4) rfl (fun _ => rfl) | (simp at *; omega))) rfl ?_ ?_) <;> clear S a w)
    rintro _ _ ⟨hr1, rfl, rfl⟩ a w S
    refine run S (.as rfl <| .z) fun a w S => st_nil (then_normal (hK1 _ _ (wp_seq_k fun _ hK1 => wp_seq_k fun _ hK2 => wp_region_lit (run S (.mv rfl <| .ld gt3 3 rfl rfl rfl <| .yy (ys_max (.t rfl) Ev.c) rfl <| .yy (ys_gtr (.t rfl) (.t rfl)) rfl <| .z) fun a w S => ?_))))
    rw [rw_1] at S
    refine st_nil (then_normal (hK2 _ _ (st_then S (.t rfl) (wp_region_lit ?_))))
    (refine st_m (op_callRP S call139 (.cons Ev.c .nil) (c139 S.wd _) rfl ?_ ?_) <;> clear S a w)
    (intro _ _ h; exact h.elim)
    rintro _ _ ⟨rfl, rfl⟩ a w S
    refine then_panic ?_
    refine post_panic S ?_
    rotate_left
    rintro _ _ ⟨rfl, hr1, rfl⟩ a w S
    refine then_panic ?_
    refine post_panic S ?_
    rotate_left
    · rw [hun]
      exact .inr ⟨_, _, rfl, S.wd, rfl, by decide, (numAt b k).2.1, rfl⟩
    · exact absurd he' hr1
  have rw_1 : decide (max most 0 < (numR 0 0 (b.drop k)).1) = false := decide_eq_false h1
  rw [if_neg h1] at hun
  have rw_l : (b.length : Int) - (((numAt b k).2.1 : Nat) : Int) = ((b.length - (numAt b k).2.1 : Nat) : Int) := by omega
  by_cases h2 : ((b.length - (numAt b k).2.1 : Nat) : Int) < (numAt b k).1
  · have rw_2 : decide (((b.length - (numAt b k).2.1 : Nat) : Int) < (numR 0 0 (b.drop k)).1) = true := decide_eq_true h2
    rw [if_pos h2] at hun
    unfold Go.Fw.RetsP
    refine enterW3 W func161 rfl ntmps161 rfl fun a S => wp_seq_k fun _ hK1 => wp_region_lit (run S (.ld gt92 2 rfl rfl rfl <| .z) fun a w S => ?_)
    (refine st_m (op_callRP S call116 (.cons (.t rfl) .nil) (c116 S.wd (by first | assumption | omega | (dsimp only; omega) | exact Sl.nil_ | exact .old S.wd (by assumption) | exact Sl.of_own S.wd (k := 0) rfl (fun _ => rfl) | exact Sl.of_own S.wd (k := 1) rfl (fun _ => rfl) | exact Sl.of_own S.wd (k := 2) rfl (fun _ => rfl) | exact Sl.of_own S.wd (k := 3) rfl (fun _ => rfl) | exact Sl.of_own S.wd (k := 4) rfl (fun _ => rfl) | (simp at *; omega)) (by first | assumption | omega | (dsimp only; omega) | exact Sl.nil_ | exact .old S.wd (by assumption) | exact Sl.of_own S.wd (k := 0) rfl (fun _ => rfl) | exact Sl.of_own S.wd (k := 1) rfl (fun _ => rfl) | exact Sl.of_own S.wd (k := 2) rfl (fun _ => rfl) | exact Sl.of_own S.wd (k := 3) rfl (fun _ => rfl) | exact Sl.of_own S.wd (k := 4) rfl (fun _ => rfl) | (simp at *; omega))) rfl ?_ ?_) <;> clear S a w)
    rintro _ _ ⟨hr1, rfl, rfl⟩ a w S
    refine run S (.as rfl <| .z) fun a w S => st_nil (then_normal (hK1 _ _ (wp_seq_k fun _ hK1 => wp_seq_k fun _ hK2 => wp_region_lit (run S (.mv rfl <| .ld gt3 3 rfl rfl rfl <| .yy (ys_max (.t rfl) Ev.c) rfl <| .yy (ys_gtr (.t rfl) (.t rfl)) rfl <| .z) fun a w S => ?_))))
    rw [rw_1] at S
    refine st_nil (then_normal (hK2 _ _ (st_else S (.t rfl) (wp_skip (then_normal (hK1 _ _ (wp_seq_k fun _ hK1 => sg S (.mv rfl <| .ld gt92 2 rfl rfl rfl <| .xx (ys_call call121 (.cons (.t rfl) .nil) (fun hp w W => c121 _ _ _ _ _ _ (by exact Wd.cell W (k := 0) rfl rfl) (by exact Wd.cell W (k := 0) rfl rfl) (by exact Wd.cell W (k := 0) rfl rfl) (by omega) (by assumption))) rfl <| .yy (ys_gtr (.t rfl) (.t rfl)) rfl <| .z) fun a w S => st_if S (.t rfl) (fun _ => wp_region_lit ?_) (fun h3 => absurd (by first | assumption | omega) h3))))))))
    (refine st_m (op_callRP S call139 (.cons Ev.c .nil) (c139 S.wd _) rfl ?_ ?_) <;> clear S a w)
    (intro _ _ h; exact h.elim)
    rintro _ _ ⟨rfl, rfl⟩ a w S
    refine then_panic ?_
    refine post_panic S ?_
    rotate_left
    rintro _ _ ⟨rfl, hr1, rfl⟩ a w S
    refine then_panic ?_
    refine post_panic S ?_
    rotate_left
    · rw [hun]
      exact .inr ⟨_, _, rfl, S.wd, rfl, by decide, (numAt b k).2.1, rfl⟩
    · exact absurd he' hr1
  have rw_2 : decide (((b.length - (numAt b k).2.1 : Nat) : Int) < (numR 0 0 (b.drop k)).1) = false := decide_eq_false h2
  rw [if_neg h2] at hun
  obtain ⟨m, hm⟩ := Int.eq_ofNat_of_zero_le hnv.1
  have rw_m : (numR 0 0 (b.drop k)).1 = (m : Int) := hm
  have hle : (numAt b k).2.1 + m ≤ b.length := by omega
  rw [hm, Int.toNat_natCast] at hun
  unfold Go.Fw.RetsP
  refine enterW3 W func161 rfl ntmps161 rfl fun a S => wp_seq_k fun _ hK1 => wp_region_lit (run S (.ld gt92 2 rfl rfl rfl <| .z) fun a w S => ?_)
  (refine st_m (op_callRP S call116 (.cons (.t rfl) .nil) (c116 S.wd (by first | assumption | omega | (dsimp only; omega) | exact Sl.nil_ | exact .old S.wd (by assumption) | exact Sl.of_own S.wd (k := 0) rfl (fun _ => rfl) | exact Sl.of_own S.wd (k := 1) rfl (fun _ => rfl) | exact Sl.of_own S.wd (k := 2) rfl (fun _ => rfl) | exact Sl.of_own S.wd (k := 3) rfl (fun _ => rfl) | exact Sl.of_own S.wd (k := 4) rfl (fun _ => rfl) | (simp at *; omega)) (by first | assumption | omega | (dsimp only; omega) | exact Sl.nil_ | exact .old S.wd (by assumption) | exact Sl.of_own S.wd (k := 0) rfl (fun _ => rfl) | exact Sl.of_own S.wd (k := 1) rfl (fun _ => rfl) | exact Sl.of_own S.wd (k := 2) rfl (fun _ => rfl) | exact Sl.of_own S.wd (k := 3) rfl (fun _ => rfl) | exact Sl.of_own S.wd (k := 4) rfl (fun _ => rfl) | (simp at *; omega))) rfl ?_ ?_) <;> clear S a w)
  rintro _ _ ⟨hr1, rfl, rfl⟩ a w S
  rw [rw_m] at S
  refine run S (.as rfl <| .z) fun a w S => st_nil (then_normal (hK1 _ _ (wp_seq_k fun _ hK1 => sg S (.mv rfl <| .ld gt3 3 rfl rfl rfl <| .yy (ys_max (.t rfl) Ev.c) rfl <| .yy (ys_F (by omega) (ys_gtr (.t rfl) (.t rfl))) rfl <| .z) fun a w S => st_else S (.t rfl) (wp_skip (then_normal (hK1 _ _ (wp_seq_k fun _ hK1 => sg S (.mv rfl <| .ld gt92 2 rfl rfl rfl <| .xx (ys_call call121 (.cons (.t rfl) .nil) (fun hp w W => c121 _ _ _ _ _ _ (by exact Wd.cell W (k := 0) rfl rfl) (by exact Wd.cell W (k := 0) rfl rfl) (by exact Wd.cell W (k := 0) rfl rfl) (by omega) (by assumption))) rfl <| .yy (ys_F (by omega) (ys_gtr (.t rfl) (.t rfl))) rfl <| .z) fun a w S => st_else S (.t rfl) (wp_skip (then_normal (hK1 _ _ (wp_region_lit (run S (.ld gt92 2 rfl rfl rfl <| .mv rfl <| .z) fun a w S => ?_))))))))))))
  (refine st_m (op_callO S call140 (.cons (.t rfl) (.cons (.t rfl) .nil)) (c140 S.wd _ (by first | assumption | omega | (dsimp only; omega) | exact Sl.nil_ | exact .old S.wd (by assumption) | exact Sl.of_own S.wd (k := 0) rfl (fun _ => rfl) | exact Sl.of_own S.wd (k := 1) rfl (fun _ => rfl) | exact Sl.of_own S.wd (k := 2) rfl (fun _ => rfl) | exact Sl.of_own S.wd (k := 3) rfl (fun _ => rfl) | exact Sl.of_own S.wd (k := 4) rfl (fun _ => rfl) | (simp at *; omega)) (by first | assumption | omega | (dsimp only; omega) | exact Sl.nil_ | exact .old S.wd (by assumption) | exact Sl.of_own S.wd (k := 0) rfl (fun _ => rfl) | exact Sl.of_own S.wd (k := 1) rfl (fun _ => rfl) | exact Sl.of_own S.wd (k := 2) rfl (fun _ => rfl) | exact Sl.of_own S.wd (k := 3) rfl (fun _ => rfl) | exact Sl.of_own S.wd (k := 4) rfl (fun _ => rfl) | (simp at *; omega))) rfl ?_) <;> clear S a w)
  rintro _ _ ⟨A11, c11, rfl, rfl⟩ a w S
  refine run S (.yy (ys_str underlying28 underlying5 underlying9 (.t rfl) (fun _ w W => by first | exact Sl.old W (by assumption) | exact Sl.of_own W (k := 1) rfl (fun _ => rfl) | exact Sl.of_own W (k := 2) rfl (fun _ => rfl))) rfl <| .z) fun a w S => st_m (op_st S sizeOf9 (.t rfl) (.t rfl) (k := 5) rfl rfl (by simp) fun a w S => st_nil (st_end S (results0 results161) ?_))
  rotate_left
  rintro _ _ ⟨rfl, hr1, rfl⟩ a w S
  refine then_panic ?_
  refine post_panic S ?_
  rotate_left
  · rw [hun]
    exact .inl ⟨_, _, rfl, S.wd.picks (L' := rdr g A cap b ((numAt b k).2.1 + m) (.blk g1 (.cells #[.pointer (some ⟨g, 0, none⟩)] 92) :: .blk g2 (.cells #[.int .i64 most] 3) :: .blk g3 (.cells #[.string (bs ((b.drop (numAt b k).2.1).take m))] 9) :: L)) (by repeat (first | exact Picks.nil | (refine Picks.rest ?_; (repeat (first | exact List.Sublist.refl _ | refine List.Sublist.cons_cons _ ?_ | refine List.Sublist.cons _ ?_)); done) | refine Picks.take 0 rfl ?_ | refine Picks.take 1 rfl ?_ | refine Picks.take 2 rfl ?_ | refine Picks.take 3 rfl ?_ | refine Picks.take 4 rfl ?_ | refine Picks.take 5 rfl ?_ | refine Picks.take 6 rfl ?_ | refine Picks.take 7 rfl ?_ | refine Picks.take 8 rfl ?_ | refine Picks.take 9 rfl ?_ | refine Picks.take 10 rfl ?_ | refine Picks.take 11 rfl ?_)), rfl, rfl, rfl⟩
  · exact absurd he' hr1
theorem c117 {w0 w : World} {L : List Chunk} {g cap k : Nat} {A : Option Addr} {b : List UInt8} {most : Int} (W : Wd w0 (rdr g A cap b k L) w) (hk : k ≤ b.length) (hb : b.length ≤ 16777216) :
    RetsO Tryz.prog 117 #[.pointer (some ⟨g, 0, none⟩), .int .i64 most] w0 w (fun v L' => v = .tuple #[.string (bs (textR b k most).1), .int .i64 (textR b k most).2.2] ∧ L' = rdr g A cap b (textR b k most).2.1 L) := by
  unfold Go.Fw.RetsO
  refine enterW2 W func117 rfl ntmps117 rfl fun a S => wp_seq_k fun _ hK1 => wp_region_lit (st_m (op_box1 S (.t rfl) rfl rfl fun g1 a w S => st_m (op_box1 S (.t rfl) rfl rfl fun g2 a w S => run S (.ac rfl <| .ac rfl <| .z) fun a w S => st_nil (then_normal (hK1 _ _ (wp_seq_k fun _ hK1 => wp_region_lit (st_m (op_alloc S zeroValue9 (cs := _) rfl rfl fun g3 a w S => st_m (op_st S sizeOf9 (.t rfl) Ev.c (k := 0) rfl rfl (by simp) fun a w S => st_nil (then_normal (hK1 _ _ (wp_seq_k fun _ hK1 => wp_region_lit (run S (.ld gt92 2 rfl rfl rfl <| .yy (ys_mkFunc (.cons (.t rfl) (.cons (.t rfl) (.cons (.t rfl) .nil)))) rfl <| .z) fun a w S => ?_)))))))))))))
  have W2 := S.wd.picks (L' := rdr g A cap b k (.blk g1 (.cells #[.pointer (some ⟨g, 0, none⟩)] 92) :: .blk g2 (.cells #[.int .i64 most] 3) :: .blk g3 (.cells #[.string (bs [])] 9) :: L)) (by repeat (first | exact Picks.nil | (refine Picks.rest ?_; (repeat (first | exact List.Sublist.refl _ | refine List.Sublist.cons_cons _ ?_ | refine List.Sublist.cons _ ?_)); done) | refine Picks.take 0 rfl ?_ | refine Picks.take 1 rfl ?_ | refine Picks.take 2 rfl ?_ | refine Picks.take 3 rfl ?_ | refine Picks.take 4 rfl ?_ | refine Picks.take 5 rfl ?_ | refine Picks.take 6 rfl ?_ | refine Picks.take 7 rfl ?_ | refine Picks.take 8 rfl ?_ | refine Picks.take 9 rfl ?_ | refine Picks.take 10 rfl ?_ | refine Picks.take 11 rfl ?_))
  replace S := St.mk S.kn W2
  refine st_m (op_callO S call114 (.cons (.t rfl) (.cons (.t rfl) .nil)) (triedW (f := 161) (cs := [.pointer (some ⟨g1, 0, none⟩), .pointer (some ⟨g2, 0, none⟩), .pointer (some ⟨g3, 0, none⟩)])
    (R := fun L' => (textR b k most).2.2 = 0 ∧ L' = rdr g A cap b (textR b k most).2.1 (.blk g1 (.cells #[.pointer (some ⟨g, 0, none⟩)] 92) :: .blk g2 (.cells #[.int .i64 most] 3) :: .blk g3 (.cells #[.string (bs (textR b k most).1)] 9) :: L))
    (E := fun x L' => x = (textR b k most).2.2 ∧ L' = rdr g A cap b k (.blk g1 (.cells #[.pointer (some ⟨g, 0, none⟩)] 92) :: .blk g2 (.cells #[.int .i64 most] 3) :: .blk g3 (.cells #[.string (bs [])] 9) :: L))
    S.wd call161 fun C w1 W1 => Calls.mono (q161 (L := C :: L) (z := []) (most := most) (W1.pk) hk hb) ?_) rfl ?_)
  · intro e w' h
    rcases h with ⟨v, L', rfl, hw, h1, rfl, rfl⟩ | ⟨x, L', rfl, hw, rfl, h1, k', rfl⟩
    · exact .inl ⟨_, _, rfl, hw.picks (L' := C :: rdr g A cap b (textR b k most).2.1 (.blk g1 (.cells #[.pointer (some ⟨g, 0, none⟩)] 92) :: .blk g2 (.cells #[.int .i64 most] 3) :: .blk g3 (.cells #[.string (bs (textR b k most).1)] 9) :: L)) (by repeat (first | exact Picks.nil | (refine Picks.rest ?_; (repeat (first | exact List.Sublist.refl _ | refine List.Sublist.cons_cons _ ?_ | refine List.Sublist.cons _ ?_)); done) | refine Picks.take 0 rfl ?_ | refine Picks.take 1 rfl ?_ | refine Picks.take 2 rfl ?_ | refine Picks.take 3 rfl ?_ | refine Picks.take 4 rfl ?_ | refine Picks.take 5 rfl ?_ | refine Picks.take 6 rfl ?_ | refine Picks.take 7 rfl ?_ | refine Picks.take 8 rfl ?_ | refine Picks.take 9 rfl ?_ | refine Picks.take 10 rfl ?_ | refine Picks.take 11 rfl ?_)), rfl, _, _, rfl, h1, rfl⟩
    · exact .inr ⟨_, _, rfl, hw.picks (L' := C :: rdr g A cap b k' (.blk g1 (.cells #[.pointer (some ⟨g, 0, none⟩)] 92) :: .blk g2 (.cells #[.int .i64 most] 3) :: .blk g3 (.cells #[.string (bs [])] 9) :: L)) (by repeat (first | exact Picks.nil | (refine Picks.rest ?_; (repeat (first | exact List.Sublist.refl _ | refine List.Sublist.cons_cons _ ?_ | refine List.Sublist.cons _ ?_)); done) | refine Picks.take 0 rfl ?_ | refine Picks.take 1 rfl ?_ | refine Picks.take 2 rfl ?_ | refine Picks.take 3 rfl ?_ | refine Picks.take 4 rfl ?_ | refine Picks.take 5 rfl ?_ | refine Picks.take 6 rfl ?_ | refine Picks.take 7 rfl ?_ | refine Picks.take 8 rfl ?_ | refine Picks.take 9 rfl ?_ | refine Picks.take 10 rfl ?_ | refine Picks.take 11 rfl ?_)), h1, _, _, rfl, rfl, rfl⟩
  clear S W2
  rintro _ _ ⟨x, rfl, h⟩ a w S
  rcases h with ⟨rfl, h1, rfl⟩ | ⟨hx, rfl, rfl⟩
  · refine run S (.as rfl <| .z) fun a w S => st_nil (then_normal (hK1 _ _ (sg S (.ld gt9 4 rfl rfl rfl <| .mv rfl <| .as rfl <| .as rfl <| .z) fun a w S => wp_ret (st_ret S (results2 S results117 (Rv.tmp rfl) (Rv.tmp rfl)) ?_))))
    rw [h1]
    exact ⟨_, _, rfl, S.wd.picks (L' := rdr g A cap b (textR b k most).2.1 L) (by repeat (first | exact Picks.nil | (refine Picks.rest ?_; (repeat (first | exact List.Sublist.refl _ | refine List.Sublist.cons_cons _ ?_ | refine List.Sublist.cons _ ?_)); done) | refine Picks.take 0 rfl ?_ | refine Picks.take 1 rfl ?_ | refine Picks.take 2 rfl ?_ | refine Picks.take 3 rfl ?_ | refine Picks.take 4 rfl ?_ | refine Picks.take 5 rfl ?_ | refine Picks.take 6 rfl ?_ | refine Picks.take 7 rfl ?_ | refine Picks.take 8 rfl ?_ | refine Picks.take 9 rfl ?_ | refine Picks.take 10 rfl ?_ | refine Picks.take 11 rfl ?_)), rfl, rfl⟩
  · refine run S (.as rfl <| .z) fun a w S => st_nil (then_normal (hK1 _ _ (sg S (.ld gt9 4 rfl rfl rfl <| .mv rfl <| .as rfl <| .as rfl <| .z) fun a w S => wp_ret (st_ret S (results2 S results117 (Rv.tmp rfl) (Rv.tmp rfl)) ?_))))
    have hz := textR_bad hx
    rw [hz.1, hz.2]
    exact ⟨_, _, rfl, S.wd.picks (L' := rdr g A cap b k L) (by repeat (first | exact Picks.nil | (refine Picks.rest ?_; (repeat (first | exact List.Sublist.refl _ | refine List.Sublist.cons_cons _ ?_ | refine List.Sublist.cons _ ?_)); done) | refine Picks.take 0 rfl ?_ | refine Picks.take 1 rfl ?_ | refine Picks.take 2 rfl ?_ | refine Picks.take 3 rfl ?_ | refine Picks.take 4 rfl ?_ | refine Picks.take 5 rfl ?_ | refine Picks.take 6 rfl ?_ | refine Picks.take 7 rfl ?_ | refine Picks.take 8 rfl ?_ | refine Picks.take 9 rfl ?_ | refine Picks.take 10 rfl ?_ | refine Picks.take 11 rfl ?_)), rfl, rfl⟩
end Go.Proofs.YtfblmkocmnbdcaaGreat
set_option linter.unusedVariables false
set_option linter.unusedSimpArgs false
set_option maxRecDepth 100000
set_option maxHeartbeats 4000000
namespace Go.Proofs.YtfblmkocmnbdcaaGreat
open Go.Fw Go.Proofs Go.RowKit Go.Proofs.Tryz
theorem c112 {w0 w : World} {L : List Chunk} {A A' : Option Addr} {cap cap' g : Nat} {b : List UInt8} {l : List Dot}
    (W : Wd w0 (.blk g (.cells #[.slice A b.length cap] 28) :: rowOf 58 3 Dot.enc A' cap' l :: L) w) (hs : Sl encB 1 w0 w0.heap.size (.slice A b.length cap) b) (hm : ∀ m ∈ l, mayD m = true) (hl : l.length ≤ 64) (hb : b.length ≤ 8388608) :
    RetsO Tryz.prog 112 #[.slice A' l.length cap', .pointer (some ⟨g, 0, none⟩)] w0 w fun v L' => ∃ A1 c1, v = .tuple #[] ∧
      L' = .blk g (.cells #[.slice A1 (dotsB b l).length c1] 28) :: rowOf 5 1 encB A1 c1 (dotsB b l) :: rowOf 58 3 Dot.enc A' cap' l :: L := by
  unfold RetsO
  refine enterW2 W func112 rfl ntmps112 rfl fun a S => wp_seq_k fun _ hK1 => wp_region_lit (run S (.ld gt28 0 rfl rfl rfl <| .mv rfl <| .ln underlying35 rfl <| .z) fun a w S => ?_)
  (refine st_m (op_calls S call53 (.cons (.t rfl) (.cons (.t rfl) .nil)) (c53 _ _ _ _ (by exact .old S.wd (by assumption)) (by omega) (by omega)) rfl ?_); clear S a w; rintro _ _ ⟨A1, c1, rfl, rfl⟩ a w S)
  refine st_m (op_st S sizeOf28 (.t rfl) (.t rfl) (k := 1) rfl rfl (by simp) fun a w S => st_nil (then_normal (hK1 _ _ (sg S (.mv rfl <| .ln underlying35 rfl <| .mc rfl <| .z) fun a w S => wp_block ?_))))
  (replace S := S.pull 1 rfl; try simp only [List.set_cons_zero, List.set_cons_succ, List.eraseIdx_cons_succ, List.eraseIdx_cons_zero] at S)
  have hb1 := putL_len b (n := (l.length : Int)) (by omega)
  replace S := S.wk (K' := [(11, true, .int .i64 ((0 : Nat) : Int)), (10, true, .int .i64 (l.length : Int)), (9, true, .slice A' l.length cap'), (1, true, .pointer (some ⟨g, 0, none⟩))]) (L' := .blk g (.cells #[.slice A1 (putL b (l.length : Int)).length c1] 28) :: rowOf 5 1 encB A1 c1 (putL b (l.length : Int)) :: rowOf 58 3 Dot.enc A' cap' l :: L)
  refine st_lpK S (X := Nat × Option Addr × Nat × List UInt8) (fun q => [(11, true, .int .i64 (q.1 : Int))]) (fun q _ => .blk g (.cells #[.slice q.2.1 q.2.2.2.length q.2.2.1] 28) :: rowOf 5 1 encB q.2.1 q.2.2.1 q.2.2.2 :: rowOf 58 3 Dot.enc A' cap' l :: L)
    (fun q => q.1 ≤ l.length ∧ q.2.2.2 = (l.take q.1).foldl dotB (putL b (l.length : Int))) (fun q => l.length - q.1) (0, A1, c1, putL b (l.length : Int)) ⟨Nat.zero_le _, by simp⟩ ?_
  clear S
  intro ⟨k, B, cB, out⟩ a w ⟨hk, hno⟩ S
  dsimp only at hk hno S
  have hout : out.length ≤ b.length + 1737 := by
    have h1 := dotF_len (l := l.take k) (b := putL b (l.length : Int)) fun x hx => hm x (List.mem_of_mem_take hx)
    have h2 : (l.take k).length ≤ 64 := by rw [List.length_take]; omega
    rw [← hno] at h1
    omega
  by_cases hlt : k < l.length
  · obtain ⟨ga, rfl⟩ := S.wd.row_at (k := 2) rfl (by have := (S.wd.room (k := 2) rfl).1; omega)
    obtain ⟨m, hmm⟩ : ∃ m, l[k]? = some m := ⟨l[k], by simp⟩
    have hlm := may_lim (hm m (List.mem_of_getElem? hmm))
    have hq1 := putL_len out (n := m.node) (by omega)
    have hq2 := putL_len (putL out m.node) (n := m.life) (by omega)
    refine sg S (.lt (by omega) rfl rfl <| .z) fun a w S => wp_seq_k fun _ hK1 => st_then S (.t rfl) (wp_skip (then_normal (hK1 _ _ (wp_seq_k fun _ hK1 => wp_block (wp_seq_k fun _ hK2 => wp_region_lit (run S (.ix underlying35 sizeOf58 (by omega) rfl rfl <| .yy (ys_ldWA ⟨isAgg58, sizeOf58⟩ (.t rfl) (k := 2) rfl hmm (fun _ => rfl)) rfl <| .z) fun a w S => st_m (op_alloc S zeroValue58 (cs := _) rfl rfl fun g1 a w S => st_m (op_stW S sizeOf58 (.t rfl) (.t rfl) (k := 0) rfl rfl rfl (by simp [Value.oneCell']) fun a w S => st_nil (then_normal (hK2 _ _ (h_beginE S (by kernel_rfl) 1 fun a w S => hy 1 S rfl (ys_fieldN (FieldT.mk underlying58 rfl sizeOf3 rfl) (.t rfl) (i' := 0) rfl) rfl fun a w S => hy 2 S rfl (ys_ld ⟨isAgg3, sizeOf3⟩ (.t rfl) (k := 0) rfl rfl) rfl fun a w S => ?_)))))))))))
    refine hy 4 S rfl (ys_fieldN (FieldT.mk underlying58 rfl sizeOf3 rfl) (.t rfl) (i' := 1) rfl) rfl fun a w S => hy 5 S rfl (ys_ld ⟨isAgg3, sizeOf3⟩ (.t rfl) (k := 0) rfl rfl) rfl fun a w S => hy 7 S rfl (ys_fieldN (FieldT.mk underlying58 rfl sizeOf3 rfl) (.t rfl) (i' := 2) rfl) rfl fun a w S => hy 8 S rfl (ys_ld ⟨isAgg3, sizeOf3⟩ (.t rfl) (k := 0) rfl rfl) rfl fun a w S => h_q (i := 0) S (by repeat (first | exact List.Sublist.refl _ | exact List.nil_sublist _ | refine .cons_cons _ ?_ | refine .cons _ ?_)) rfl (by kernel_rfl) (Yr.ys (ys_ld ⟨isAgg28, sizeOf28⟩ (.t rfl) (k := 1) rfl rfl)) rfl fun a w S => ?_
    (refine h_m (i := 3) rfl (by kernel_rfl) (op_calls S call53 (.cons (.t rfl) (.cons (.t rfl) .nil)) (c53 _ _ _ _ (by exact Sl.of_own S.wd (k := 2) rfl (fun _ => rfl)) (by omega) (by omega)) rfl ?_); clear S a w; rintro _ _ ⟨A2, c2, rfl, rfl⟩ a w S; refine h_n1 S ?_)
    (refine h_m (i := 6) rfl (by kernel_rfl) (op_calls S call53 (.cons (.t rfl) (.cons (.t rfl) .nil)) (c53 _ _ _ _ (by exact Sl.of_own S.wd (k := 0) rfl (fun _ => rfl)) (by omega) (by omega)) rfl ?_); clear S a w; rintro _ _ ⟨A3, c3, rfl, rfl⟩ a w S; refine h_n1 S ?_)
    (refine h_m (i := 9) rfl (by kernel_rfl) (op_calls S call53 (.cons (.t rfl) (.cons (.t rfl) .nil)) (c53 _ _ _ _ (by exact Sl.of_own S.wd (k := 0) rfl (fun _ => rfl)) (by omega) (by omega)) rfl ?_); clear S a w; rintro _ _ ⟨A4, c4, rfl, rfl⟩ a w S; refine h_n1 S ?_)
    (refine h_m0 (i := 10) rfl (by kernel_rfl) (op_st S sizeOf28 (.t rfl) (.t rfl) (k := 4) rfl rfl (by simp) ?_); clear S a w; intro a w S; refine h_n1 S ?_)
    refine h_done (by kernel_rfl) (in_normal (then_normal (hK1 _ _ (wp_region_lit (run S (.ad (by unfold I64; omega) rfl <| .mv rfl <| .z) fun a w S => st_nil (then_normal ?_))))))
    (replace S := S.pull 4 rfl; try simp only [List.set_cons_zero, List.set_cons_succ, List.eraseIdx_cons_succ, List.eraseIdx_cons_zero] at S)
    exact ⟨(k + 1, A4, c4, dotB out m), ⟨by dsimp only; omega, by dsimp only; rw [dotF_take hmm, ← hno]⟩, by dsimp only; omega, S.wk⟩
  · have hend : k = l.length := by omega
    subst hend
    rw [List.take_length] at hno
    refine sg S (.ge (by omega) rfl rfl <| .z) fun a w S => wp_seq_k fun _ hK1 => st_else S (.t rfl) (wp_exit (then_exit (then_exit (in_here (st_end S (results0 results112) ?_)))))
    obtain rfl : out = dotsB b l := hno
    exact ⟨_, _, rfl, S.wd.sub (by repeat (first | exact List.Sublist.refl _ | exact List.nil_sublist _ | refine .cons_cons _ ?_ | refine .cons _ ?_)), B, cB, rfl, rfl⟩
theorem o112 {w0 w : World} {L : List Chunk} {A A' : Option Addr} {cap cap' g : Nat} {b : List UInt8} {l : List Dot}
    (W : Wd w0 (.blk g (.cells #[.slice A b.length cap] 28) :: rowOf 5 1 encB A cap b :: L) w) (hm : ∀ m ∈ l, mayD m = true) (h : Sl Dot.enc 3 w0 w0.heap.size (.slice A' l.length cap') l) (hl : l.length ≤ 64) (hb : b.length ≤ 8388608) :
    RetsO Tryz.prog 112 #[.slice A' l.length cap', .pointer (some ⟨g, 0, none⟩)] w0 w fun v L' => ∃ A1 c1, v = .tuple #[] ∧
      L' = .blk g (.cells #[.slice A1 (dotsB b l).length c1] 28) :: rowOf 5 1 encB A1 c1 (dotsB b l) :: L := by
  obtain ⟨_, _, e0, _, _, hA⟩ := id h
  simp only [Value.slice.injEq, true_and] at e0
  obtain ⟨rfl, rfl⟩ := e0
  unfold RetsO
  refine enterW2 W func112 rfl ntmps112 rfl fun a S => wp_seq_k fun _ hK1 => wp_region_lit (run S (.ld gt28 0 rfl rfl rfl <| .mv rfl <| .ln underlying35 rfl <| .z) fun a w S => ?_)
  (refine st_m (op_calls S call53 (.cons (.t rfl) (.cons (.t rfl) .nil)) (c53 _ _ _ _ (by exact Sl.of_own S.wd (k := 1) rfl (fun _ => rfl)) (by omega) (by omega)) rfl ?_); clear S a w; rintro _ _ ⟨A1, c1, rfl, rfl⟩ a w S)
  refine st_m (op_st S sizeOf28 (.t rfl) (.t rfl) (k := 1) rfl rfl (by simp) fun a w S => st_nil (then_normal (hK1 _ _ (sg S (.mv rfl <| .ln underlying35 rfl <| .mc rfl <| .z) fun a w S => wp_block ?_))))
  (replace S := S.pull 1 rfl; try simp only [List.set_cons_zero, List.set_cons_succ, List.eraseIdx_cons_succ, List.eraseIdx_cons_zero] at S)
  have hb1 := putL_len b (n := (l.length : Int)) (by omega)
  replace S := S.wk (K' := [(11, true, .int .i64 ((0 : Nat) : Int)), (10, true, .int .i64 (l.length : Int)), (9, true, .slice A' l.length cap'), (1, true, .pointer (some ⟨g, 0, none⟩))]) (L' := .blk g (.cells #[.slice A1 (putL b (l.length : Int)).length c1] 28) :: rowOf 5 1 encB A1 c1 (putL b (l.length : Int)) :: L)
  refine st_lpK S (X := Nat × Option Addr × Nat × List UInt8) (fun q => [(11, true, .int .i64 (q.1 : Int))]) (fun q _ => .blk g (.cells #[.slice q.2.1 q.2.2.2.length q.2.2.1] 28) :: rowOf 5 1 encB q.2.1 q.2.2.1 q.2.2.2 :: L)
    (fun q => q.1 ≤ l.length ∧ q.2.2.2 = (l.take q.1).foldl dotB (putL b (l.length : Int))) (fun q => l.length - q.1) (0, A1, c1, putL b (l.length : Int)) ⟨Nat.zero_le _, by simp⟩ ?_
  clear S
  intro ⟨k, B, cB, out⟩ a w ⟨hk, hno⟩ S
  dsimp only at hk hno S
  have hout : out.length ≤ b.length + 1737 := by
    have h1 := dotF_len (l := l.take k) (b := putL b (l.length : Int)) fun x hx => hm x (List.mem_of_mem_take hx)
    have h2 : (l.take k).length ≤ 64 := by rw [List.length_take]; omega
    rw [← hno] at h1
    omega
  by_cases hlt : k < l.length
  · obtain ⟨gq, oq, m, rfl, hmm, hdq, hc⟩ := row_at hA hlt
    have hlm := may_lim (hm m (List.mem_of_getElem? hmm))
    have hq1 := putL_len out (n := m.node) (by omega)
    have hq2 := putL_len (putL out m.node) (n := m.life) (by omega)
    refine sg S (.lt (by omega) rfl rfl <| .z) fun a w S => wp_seq_k fun _ hK1 => st_then S (.t rfl) (wp_skip (then_normal (hK1 _ _ (wp_seq_k fun _ hK1 => wp_block (wp_seq_k fun _ hK2 => wp_region_lit (run S (.ix underlying35 sizeOf58 (by omega) rfl rfl <| .yy (ys_ldOA ⟨isAgg58, sizeOf58⟩ (.t rfl) (vs := [_, _, _]) rfl (fun _ => hc)) rfl <| .z) fun a w S => st_m (op_alloc S zeroValue58 (cs := _) rfl rfl fun g1 a w S => st_m (op_stW S sizeOf58 (.t rfl) (.t rfl) (k := 0) rfl rfl rfl (by simp [Value.oneCell']) fun a w S => st_nil (then_normal (hK2 _ _ (h_beginE S (by kernel_rfl) 1 fun a w S => hy 1 S rfl (ys_fieldN (FieldT.mk underlying58 rfl sizeOf3 rfl) (.t rfl) (i' := 0) rfl) rfl fun a w S => hy 2 S rfl (ys_ld ⟨isAgg3, sizeOf3⟩ (.t rfl) (k := 0) rfl rfl) rfl fun a w S => ?_)))))))))))
    refine hy 4 S rfl (ys_fieldN (FieldT.mk underlying58 rfl sizeOf3 rfl) (.t rfl) (i' := 1) rfl) rfl fun a w S => hy 5 S rfl (ys_ld ⟨isAgg3, sizeOf3⟩ (.t rfl) (k := 0) rfl rfl) rfl fun a w S => hy 7 S rfl (ys_fieldN (FieldT.mk underlying58 rfl sizeOf3 rfl) (.t rfl) (i' := 2) rfl) rfl fun a w S => hy 8 S rfl (ys_ld ⟨isAgg3, sizeOf3⟩ (.t rfl) (k := 0) rfl rfl) rfl fun a w S => h_q (i := 0) S (by repeat (first | exact List.Sublist.refl _ | exact List.nil_sublist _ | refine .cons_cons _ ?_ | refine .cons _ ?_)) rfl (by kernel_rfl) (Yr.ys (ys_ld ⟨isAgg28, sizeOf28⟩ (.t rfl) (k := 1) rfl rfl)) rfl fun a w S => ?_
    (refine h_m (i := 3) rfl (by kernel_rfl) (op_calls S call53 (.cons (.t rfl) (.cons (.t rfl) .nil)) (c53 _ _ _ _ (by exact Sl.of_own S.wd (k := 2) rfl (fun _ => rfl)) (by omega) (by omega)) rfl ?_); clear S a w; rintro _ _ ⟨A2, c2, rfl, rfl⟩ a w S; refine h_n1 S ?_)
    (refine h_m (i := 6) rfl (by kernel_rfl) (op_calls S call53 (.cons (.t rfl) (.cons (.t rfl) .nil)) (c53 _ _ _ _ (by exact Sl.of_own S.wd (k := 0) rfl (fun _ => rfl)) (by omega) (by omega)) rfl ?_); clear S a w; rintro _ _ ⟨A3, c3, rfl, rfl⟩ a w S; refine h_n1 S ?_)
    (refine h_m (i := 9) rfl (by kernel_rfl) (op_calls S call53 (.cons (.t rfl) (.cons (.t rfl) .nil)) (c53 _ _ _ _ (by exact Sl.of_own S.wd (k := 0) rfl (fun _ => rfl)) (by omega) (by omega)) rfl ?_); clear S a w; rintro _ _ ⟨A4, c4, rfl, rfl⟩ a w S; refine h_n1 S ?_)
    (refine h_m0 (i := 10) rfl (by kernel_rfl) (op_st S sizeOf28 (.t rfl) (.t rfl) (k := 4) rfl rfl (by simp) ?_); clear S a w; intro a w S; refine h_n1 S ?_)
    refine h_done (by kernel_rfl) (in_normal (then_normal (hK1 _ _ (wp_region_lit (run S (.ad (by unfold I64; omega) rfl <| .mv rfl <| .z) fun a w S => st_nil (then_normal ?_))))))
    (replace S := S.pull 4 rfl; try simp only [List.set_cons_zero, List.set_cons_succ, List.eraseIdx_cons_succ, List.eraseIdx_cons_zero] at S)
    exact ⟨(k + 1, A4, c4, dotB out m), ⟨by dsimp only; omega, by dsimp only; rw [dotF_take hmm, ← hno]⟩, by dsimp only; omega, S.wk⟩
  · have hend : k = l.length := by omega
    subst hend
    rw [List.take_length] at hno
    refine sg S (.ge (by omega) rfl rfl <| .z) fun a w S => wp_seq_k fun _ hK1 => st_else S (.t rfl) (wp_exit (then_exit (then_exit (in_here (st_end S (results0 results112) ?_)))))
    obtain rfl : out = dotsB b l := hno
    exact ⟨_, _, rfl, S.wd.sub (by repeat (first | exact List.Sublist.refl _ | exact List.nil_sublist _ | refine .cons_cons _ ?_ | refine .cons _ ?_)), B, cB, rfl, rfl⟩
end Go.Proofs.YtfblmkocmnbdcaaGreat
set_option linter.unusedVariables false
set_option linter.unusedSimpArgs false
set_option maxRecDepth 100000
set_option maxHeartbeats 4000000
namespace Go.Proofs.YtfblmkocmnbdcaaGreat
open Go.Fw Go.Proofs Go.RowKit Go.Proofs.Tryz
theorem c55 (w0 : World) (v0 v1 v2 : Value) (b : List UInt8) (C : Ctx) (hs : Sl encB 1 w0 w0.heap.size v0 b) (h : RdCtx w0 w0.heap.size v1 v2 C) (hb : b.length ≤ 4194304) :
    Rets Tryz.prog 55 #[v0, .agg #[v1, v2]] w0 fun v L => ∃ A c, v = .tuple #[.slice A (if canL C then encC b C else []).length c, .int .i64 (if canL C then 0 else 30)] ∧ L = [rowOf 5 1 encB A c (if canL C then encC b C else [])] := by
  obtain ⟨A0, q0, rfl, _⟩ := id hs
  obtain ⟨h1, h2⟩ := id h
  obtain ⟨B1, q1, rfl, _, _, hA⟩ := id h1
  obtain ⟨B2, q2, rfl, _⟩ := id h2
  cases rw_c : canL C with
  | false =>
    unfold Go.Fw.Rets
    refine enter2 func55 rfl ntmps55 rfl fun a S => wp_seq_k fun _ hK1 => wp_region_lit (st_m (op_box1 S (.t rfl) rfl rfl fun g1 a w S => st_m (op_box S (.t rfl) rfl fun g2 a w S => run S (.ac rfl <| .ac rfl <| .z) fun a w S => st_nil (then_normal (hK1 _ _ (wp_seq_k fun _ hK1 => wp_seq_k fun _ hK2 => wp_region_lit (run S (.la gt37 0 rfl rfl rfl <| .xx (ys_call call109 (.cons (.t rfl) .nil) (fun hp w W => c109 _ _ _ _ (by exact .old W (by assumption)))) rfl <| .z) fun a w S => ?_)))))))
    rw [rw_c] at S
    refine run S (.nt rfl <| .z) fun a w S => st_nil (then_normal (hK2 _ _ (st_then S (.t rfl) (sg S (.ac rfl <| .ac rfl <| .z) fun a w S => wp_ret (then_ret (st_ret S (results2 S results55 (Rv.tmp rfl) (Rv.tmp rfl)) ?_))))))
    exact ⟨_, _, rfl, (S.nil_ 5 1 encB none).wd.sub (by repeat (first | exact List.Sublist.refl _ | exact List.nil_sublist _ | refine .cons_cons _ ?_ | refine .cons _ ?_)), none, 0, rfl, rfl⟩
  | true =>
    have hmM := (can_nf rw_c).mayM
    have hmC := (can_nf rw_c).mayC
    have hlen := can_len rw_c
    unfold Go.Fw.Rets
    refine enter2 func55 rfl ntmps55 rfl fun a S => wp_seq_k fun _ hK1 => wp_region_lit (st_m (op_box1 S (.t rfl) rfl rfl fun g1 a w S => st_m (op_box S (.t rfl) rfl fun g2 a w S => run S (.ac rfl <| .ac rfl <| .z) fun a w S => st_nil (then_normal (hK1 _ _ (wp_seq_k fun _ hK1 => wp_seq_k fun _ hK2 => wp_region_lit (run S (.la gt37 0 rfl rfl rfl <| .xx (ys_call call109 (.cons (.t rfl) .nil) (fun hp w W => c109 _ _ _ _ (by exact .old W (by assumption)))) rfl <| .z) fun a w S => ?_)))))))
    rw [rw_c] at S
    refine run S (.nt rfl <| .z) fun a w S => st_nil (then_normal (hK2 _ _ (st_else S (.t rfl) (wp_skip (then_normal (hK1 _ _ (sg S (.yy (ys_mkFunc (.cons (.t rfl) .nil)) rfl <| .as rfl <| .z) fun a w S => sg S (.ac rfl <| .z) fun a w S => wp_seq_k fun _ hK1 => sg S (.fa underlying37 sizeOf34 0 rfl rfl rfl <| .ld gt34 0 rfl rfl rfl <| .ln underlying34 rfl <| .mc rfl <| .z) fun a w S => wp_block ?_)))))))
    (replace S := S.pull 1 rfl; try simp only [List.set_cons_zero, List.set_cons_succ, List.eraseIdx_cons_succ, List.eraseIdx_cons_zero] at S)
    refine st_lpK (S.nil_ 58 3 Dot.enc none) (X := Nat × Option Addr × Nat) (fun q => [(17, true, .int .i64 (q.1 : Int)), (7, true, .slice q.2.1 (C.marks.take q.1).length q.2.2)]) (fun q _ => [rowOf 58 3 Dot.enc q.2.1 q.2.2 (C.marks.take q.1), .blk g1 (.cells #[.slice A0 b.length q0] 28), .blk g2 (.cells #[.slice B1 C.marks.length q1, .slice B2 C.cloud.length q2] 37)])
      (fun q => q.1 ≤ C.marks.length) (fun q => C.marks.length - q.1) (0, none, 0) (Nat.zero_le _) ?_
    clear S
    intro ⟨k, D, cD⟩ a w hk S
    dsimp only at hk S
    by_cases hlt : k < C.marks.length
    · obtain ⟨gq, oq, m, rfl, hmm, hdq, hc⟩ := row_at hA hlt
      have hlk : (C.marks.take k).length ≤ 64 := by rw [List.length_take]; omega
      refine sg S (.lt (by omega) rfl rfl <| .z) fun a w S => wp_seq_k fun _ hK2 => st_then S (.t rfl) (wp_skip (then_normal (hK2 _ _ (wp_seq_k fun _ hK2 => wp_block (wp_seq_k fun _ hK3 => wp_region_lit (run S (.ix underlying34 sizeOf122 (by omega) rfl rfl <| .yy (ys_ldOA ⟨isAgg122, sizeOf122⟩ (.t rfl) (vs := [_, _, _]) rfl (fun _ => hc)) rfl <| .z) fun a w S => st_m (op_alloc S zeroValue122 (cs := _) rfl rfl fun g3 a w S => st_m (op_stW S sizeOf122 (.t rfl) (.t rfl) (k := 0) rfl rfl rfl (by simp [Value.oneCell']) fun a w S => st_nil (then_normal (hK3 _ _ (wp_region_lit (run S (.mv rfl <| .la gt122 0 rfl rfl rfl <| .xx (ys_call call113 (.cons (.t rfl) .nil) (fun hp w W => c113 _ _ _ _)) rfl <| .z) fun a w S => st_m (op_bslice1 S underlying35 inf58 rfl rfl rfl (.t rfl) rfl rfl rfl fun g4 a w S => st_m (op_push S underlying35 inf58 rfl (k := 2) (j := 0) rfl (.t rfl) (.t rfl) rfl rfl rfl rfl (by first | omega | (simp only [List.length_append, List.length_cons, List.length_nil]; omega)) rfl rfl rfl fun A1 cap1 a w S => run S (.as rfl <| .z) fun a w S => st_nil (in_normal (then_normal (hK2 _ _ (wp_region_lit (run S (.ad (by unfold I64; omega) rfl <| .mv rfl <| .z) fun a w S => st_nil (then_normal ?_))))))))))))))))))))
      have et : C.marks.take (k + 1) = C.marks.take k ++ [m] := by rw [List.take_add_one, hmm]; rfl
      rw [← et] at S
      exact ⟨(k + 1, A1, cap1), by dsimp only; omega, by dsimp only; omega, S.wk⟩
    · have hend : k = C.marks.length := by omega
      subst hend
      rw [List.take_length] at S
      have hb1 := dotsB_len (b := b) hmM hlen.1
      refine sg S (.ge (by omega) rfl rfl <| .z) fun a w S => wp_seq_k fun _ hK2 => st_else S (.t rfl) (wp_exit (then_exit (then_exit (in_here (then_normal (hK1 _ _ (wp_seq_k fun _ hK1 => wp_region_lit (run S (.mv rfl <| .mv rfl <| .z) fun a w S => ?_))))))))
      (replace S := S.pull 0 rfl; try simp only [List.set_cons_zero, List.set_cons_succ, List.eraseIdx_cons_succ, List.eraseIdx_cons_zero] at S; replace S := S.pull 1 rfl; try simp only [List.set_cons_zero, List.set_cons_succ, List.eraseIdx_cons_succ, List.eraseIdx_cons_zero] at S; refine st_m (op_callVO (cs := [_]) S (.t rfl) call112 (.cons (.t rfl) .nil) (c112 S.wd (by first | assumption | omega | (dsimp only; omega) | exact Sl.nil_ | exact .old S.wd (by assumption) | exact Sl.of_own S.wd (k := 0) rfl (fun _ => rfl) | exact Sl.of_own S.wd (k := 1) rfl (fun _ => rfl) | exact Sl.of_own S.wd (k := 2) rfl (fun _ => rfl) | (simp at *; omega)) (by first | assumption | omega | (dsimp only; omega) | exact Sl.nil_ | exact .old S.wd (by assumption) | exact Sl.of_own S.wd (k := 0) rfl (fun _ => rfl) | exact Sl.of_own S.wd (k := 1) rfl (fun _ => rfl) | exact Sl.of_own S.wd (k := 2) rfl (fun _ => rfl) | (intro _ W'; first | exact .old W' (by assumption) | exact Sl.of_own W' (k := 0) rfl (fun _ => rfl) | exact Sl.of_own W' (k := 1) rfl (fun _ => rfl) | exact Sl.of_own W' (k := 2) rfl (fun _ => rfl)) | (simp at *; omega)) (by first | assumption | omega | (dsimp only; omega) | exact Sl.nil_ | exact .old S.wd (by assumption) | exact Sl.of_own S.wd (k := 0) rfl (fun _ => rfl) | exact Sl.of_own S.wd (k := 1) rfl (fun _ => rfl) | exact Sl.of_own S.wd (k := 2) rfl (fun _ => rfl) | (simp at *; omega)) (by first | assumption | omega | (dsimp only; omega) | exact Sl.nil_ | exact .old S.wd (by assumption) | exact Sl.of_own S.wd (k := 0) rfl (fun _ => rfl) | exact Sl.of_own S.wd (k := 1) rfl (fun _ => rfl) | exact Sl.of_own S.wd (k := 2) rfl (fun _ => rfl) | (simp at *; omega))) rfl ?_) <;> clear S a w)
      rintro _ _ ⟨A11, c11, rfl, rfl⟩ a w S
      refine st_nil (then_normal (hK1 _ _ (wp_seq_k fun _ hK1 => wp_region_lit (run S (.mv rfl <| .fa underlying37 sizeOf35 1 rfl rfl rfl <| .ld gt35 3 rfl rfl rfl <| .z) fun a w S => ?_))))
      (refine st_m (op_callVO (cs := [_]) S (.t rfl) call112 (.cons (.t rfl) .nil) (o112 S.wd (by first | assumption | omega | (dsimp only; omega) | exact Sl.nil_ | exact .old S.wd (by assumption) | exact Sl.of_own S.wd (k := 0) rfl (fun _ => rfl) | exact Sl.of_own S.wd (k := 1) rfl (fun _ => rfl) | exact Sl.of_own S.wd (k := 2) rfl (fun _ => rfl) | exact Sl.of_own S.wd (k := 3) rfl (fun _ => rfl) | (intro _ W'; first | exact .old W' (by assumption) | exact Sl.of_own W' (k := 0) rfl (fun _ => rfl) | exact Sl.of_own W' (k := 1) rfl (fun _ => rfl) | exact Sl.of_own W' (k := 2) rfl (fun _ => rfl) | exact Sl.of_own W' (k := 3) rfl (fun _ => rfl)) | (simp at *; omega)) (by first | assumption | omega | (dsimp only; omega) | exact Sl.nil_ | exact .old S.wd (by assumption) | exact Sl.of_own S.wd (k := 0) rfl (fun _ => rfl) | exact Sl.of_own S.wd (k := 1) rfl (fun _ => rfl) | exact Sl.of_own S.wd (k := 2) rfl (fun _ => rfl) | exact Sl.of_own S.wd (k := 3) rfl (fun _ => rfl) | (simp at *; omega)) (by first | assumption | omega | (dsimp only; omega) | exact Sl.nil_ | exact .old S.wd (by assumption) | exact Sl.of_own S.wd (k := 0) rfl (fun _ => rfl) | exact Sl.of_own S.wd (k := 1) rfl (fun _ => rfl) | exact Sl.of_own S.wd (k := 2) rfl (fun _ => rfl) | exact Sl.of_own S.wd (k := 3) rfl (fun _ => rfl) | (simp at *; omega)) (by first | assumption | omega | (dsimp only; omega) | exact Sl.nil_ | exact .old S.wd (by assumption) | exact Sl.of_own S.wd (k := 0) rfl (fun _ => rfl) | exact Sl.of_own S.wd (k := 1) rfl (fun _ => rfl) | exact Sl.of_own S.wd (k := 2) rfl (fun _ => rfl) | exact Sl.of_own S.wd (k := 3) rfl (fun _ => rfl) | (simp at *; omega))) rfl ?_) <;> clear S a w)
      rintro _ _ ⟨A12, c12, rfl, rfl⟩ a w S
      refine st_nil (then_normal (hK1 _ _ (sg S (.ld gt28 0 rfl rfl rfl <| .as rfl <| .ac rfl <| .z) fun a w S => wp_ret (st_ret S (results2 S results55 (Rv.tmp rfl) (Rv.tmp rfl)) ?_))))
      exact ⟨_, _, rfl, S.wd.pk, _, _, rfl, rfl⟩
end Go.Proofs.YtfblmkocmnbdcaaGreat
set_option linter.unusedVariables false
set_option linter.unusedSimpArgs false
set_option maxRecDepth 100000
set_option maxHeartbeats 4000000
namespace Go.Fw
def leN (p : Nat) : Nat → List UInt8
  | 0 => []
  | n + 1 => leN p n ++ [UInt8.ofNat (p / 256 ^ n % 256)]
theorem leN_len (p : Nat) : ∀ n, (leN p n).length = n
  | 0 => rfl
  | n + 1 => by rw [leN, List.length_append, leN_len p n]; rfl
theorem le_byte (p i : Nat) : b8 (Int.fdiv (p : Int) (2 ^ (8 * i))) = UInt8.ofNat (p / 256 ^ i % 256) := by
  have e : Int.fdiv (p : Int) (2 ^ (8 * i)) = ((p / 256 ^ i : Nat) : Int) := by
    rw [Int.fdiv_eq_ediv_of_nonneg _ (by exact_mod_cast Nat.zero_le _)]
    have h : (2 : Int) ^ (8 * i) = ((256 ^ i : Nat) : Int) := by
      rw [Int.pow_mul]; simp
    rw [h]
    simp
  rw [e]
  unfold b8
  congr 1
def entB (b : List UInt8) (x : Ent) : List UInt8 := putL (putL (putL (putL (textL b x.item) x.dot.node) x.dot.life) x.dot.count) x.qty ++ leN x.price.toNat 8
def entsB (b : List UInt8) (l : List Ent) : List UInt8 := l.foldl entB (putL b (l.length : Int))
def encK (c : Cart) : List UInt8 := encC (entsB [] c.ents) c.ctx
theorem textL_len (l s : List UInt8) (h : (s.length : Int) < 9223372036854775808 := by omega) : (textL l s).length ≤ l.length + 9 + s.length := by
  have := putL_len l (n := (s.length : Int)) h
  unfold textL
  rw [List.length_append]; omega
theorem name_len {s : List UInt8} (h : nameB s = true) : s.length ≤ 32 := by
  unfold nameB at h
  simp at h
  omega
theorem ent_lim {C : Ctx} {x : Ent} (hC : canL C = true) (h : EntOk C x) : x.item.length ≤ 32 ∧ 1 ≤ x.qty ∧ x.qty ≤ 1000000 ∧ 0 ≤ x.dot.node ∧ x.dot.node < 8 ∧ 1 ≤ x.dot.life ∧ x.dot.life ≤ 1099511627776 ∧ 1 ≤ x.dot.count ∧ x.dot.count ≤ 1099511627776 := by
  obtain ⟨h1, ⟨h2, h3⟩, h4, h5⟩ := h
  have := may_lim (cov_may hC h5)
  exact ⟨name_len h1, h2, h3, this⟩
theorem entB_len {C : Ctx} {x : Ent} (hC : canL C = true) (h : EntOk C x) (b : List UInt8) : (entB b x).length ≤ b.length + 100 := by
  obtain ⟨h1, h2, h3, h4, h5, h6, h7, h8, h9⟩ := ent_lim hC h
  unfold entB
  have p1 := textL_len b x.item
  have p2 := putL_len (textL b x.item) (n := x.dot.node) (by omega)
  have p3 := putL_len (putL (textL b x.item) x.dot.node) (n := x.dot.life) (by omega)
  have p4 := putL_len (putL (putL (textL b x.item) x.dot.node) x.dot.life) (n := x.dot.count) (by omega)
  have p5 := putL_len (putL (putL (putL (textL b x.item) x.dot.node) x.dot.life) x.dot.count) (n := x.qty) (by omega)
  rw [List.length_append, leN_len]
  omega
theorem ents_len {X : Cart} (ok : CartOk X) : ∀ k, ((X.ents.take k).foldl entB (putL [] (X.ents.length : Int))).length ≤ 9 + 100 * k
  | 0 => by
    have := putL_len [] (n := (X.ents.length : Int)) (by have := ok.len; omega)
    simpa using this
  | k + 1 => by
    have ih := ents_len ok k
    rw [List.take_add_one]
    cases hx : X.ents[k]? with
    | none => simp; omega
    | some x =>
      rw [Option.toList_some, List.foldl_append]
      have := entB_len ok.ctx (ok.each x (List.mem_of_getElem? hx)) ((X.ents.take k).foldl entB (putL [] (X.ents.length : Int)))
      simp only [List.foldl_cons, List.foldl_nil]
      omega
end Go.Fw
namespace Go.Proofs.YtfblmkocmnbdcaaGreat
open Go.Fw Go.Proofs Go.RowKit Go.Proofs.Tryz
theorem c15 (w0 : World) (v1 v2 v3 : Value) (X : Cart) (h : Sl Ent.enc 6 w0 w0.heap.size v1 X.ents) (hr : RdCtx w0 w0.heap.size v2 v3 X.ctx) :
    Rets Tryz.prog 15 #[.agg #[v1, v2, v3]] w0 fun v L => ∃ A r, v = .tuple #[.slice A (if canE X = 0 then encK X else []).length r, .int .i64 (canE X)] ∧ L = [rowOf 5 1 encB A r (if canE X = 0 then encK X else [])] := by
  have hs := h
  have hrr := hr
  obtain ⟨A, cap, rfl, hl, hcap, hA⟩ := h
  obtain ⟨⟨A2, cap2, rfl, _⟩, ⟨A3, cap3, rfl, _⟩⟩ := hr
  by_cases he : canE X = 0
  rotate_left
  · have rw_e : decide (canE X ≠ 0) = true := decide_eq_true he
    unfold Go.Fw.Rets
    refine enter1 func15 rfl ntmps15 rfl fun a S => wp_seq_k fun _ hK1 => wp_region_lit (st_m (op_box S (.t rfl) rfl fun g1 a w S => run S (.ac rfl <| .ac rfl <| .z) fun a w S => st_nil (then_normal (hK1 _ _ (sg S (.la gt39 0 rfl rfl rfl <| .xx (ys_call call52 (.cons (.t rfl) .nil) (fun hp w W => c52 _ _ _ _ _ (by exact .old W (by assumption)) (by exact .old W (by assumption)))) rfl <| .as rfl <| .z) fun a w S => wp_seq_k fun _ hK1 => sg S (.mv rfl <| .yy (ys_T (by omega) (ys_neq (.t rfl) Ev.c)) rfl <| .z) fun a w S => st_then S (.t rfl) (sg S (.mv rfl <| .ac rfl <| .as rfl <| .z) fun a w S => wp_ret (then_ret (st_ret S (results2 S results15 (Rv.tmp rfl) (Rv.tmp rfl)) ?_))))))))
    rw [if_neg he]
    exact ⟨_, _, rfl, (S.nil_ 5 1 encB none).wd.pk, none, 0, rfl, rfl⟩
  have rw_e := he
  unfold Go.Fw.Rets
  refine enter1 func15 rfl ntmps15 rfl fun a S => wp_seq_k fun _ hK1 => wp_region_lit (st_m (op_box S (.t rfl) rfl fun g1 a w S => run S (.ac rfl <| .ac rfl <| .z) fun a w S => st_nil (then_normal (hK1 _ _ (wp_seq_k fun _ hK1 => wp_region_lit (run S (.la gt39 0 rfl rfl rfl <| .xx (ys_call call52 (.cons (.t rfl) .nil) (fun hp w W => c52 _ _ _ _ _ (by exact .old W (by assumption)) (by exact .old W (by assumption)))) rfl <| .z) fun a w S => ?_))))))
  rw [rw_e] at S
  refine run S (.as rfl <| .z) fun a w S => st_nil (then_normal (hK1 _ _ (wp_seq_k fun _ hK1 => sg S (.mv rfl <| .yy (ys_F (by omega) (ys_neq (.t rfl) Ev.c)) rfl <| .z) fun a w S => st_else S (.t rfl) (wp_skip (then_normal (hK1 _ _ (wp_seq_k fun _ hK1 => wp_region_lit (run S (.fa underlying39 sizeOf33 0 rfl rfl rfl <| .ld gt33 0 rfl rfl rfl <| .ln underlying33 rfl <| .z) fun a w S => ?_))))))))
  (refine st_m (op_calls S call53 (.cons Ev.c (.cons (.t rfl) .nil)) (c53 _ _ _ _ (by exact Sl.nil_) (by (simp; done)) (by omega)) rfl ?_); clear S a w; rintro _ _ ⟨A1, c1, rfl, rfl⟩ a w S)
  refine run S (.as rfl <| .z) fun a w S => st_nil (then_normal (hK1 _ _ (wp_seq_k fun _ hK1 => sg S (.fa underlying39 sizeOf33 0 rfl rfl rfl <| .ld gt33 1 rfl rfl rfl <| .ln underlying33 rfl <| .mc rfl <| .z) fun a w S => wp_block ?_)))
  have ok := (canE_ok X).1 he
  have lX := ok.len
  have hp0 := putL_len [] (n := (X.ents.length : Int)) (by omega)
  have e0 : putL [] (X.ents.length : Int) = (X.ents.take 0).foldl entB (putL [] (X.ents.length : Int)) := rfl
  rw [e0] at S
  refine st_lpM S [5, 23] (X := Nat × Option Addr × Nat) (fun q => [(5, true, .slice q.2.1 ((X.ents.take q.1).foldl entB (putL [] (X.ents.length : Int))).length q.2.2), (23, true, .int .i64 (q.1 : Int))])
    (fun q => [rowOf 5 1 encB q.2.1 q.2.2 ((X.ents.take q.1).foldl entB (putL [] (X.ents.length : Int))), .blk g1 (.cells #[.slice A X.ents.length cap, .slice A2 X.ctx.marks.length cap2, .slice A3 X.ctx.cloud.length cap3] 39)])
    (fun q => q.1 ≤ X.ents.length) (fun q => X.ents.length - q.1) (0, A1, c1) (Nat.zero_le _) ?_
  clear S
  rintro ⟨k, D, cD⟩ a w hk S
  dsimp only at hk S
  have hbl := ents_len ok k
  by_cases hlt : k < X.ents.length
  · obtain ⟨g, o, x, rfl, hx, hd, hc⟩ := row_at hA hlt
    have hxo := ok.each x (List.mem_of_getElem? hx)
    obtain ⟨hxi, hxq1, hxq2, hx1, hx2, hx3, hx4, hx5, hx6⟩ := ent_lim ok.ctx hxo
    have hst : (X.ents.take (k + 1)).foldl entB (putL [] (X.ents.length : Int)) = entB ((X.ents.take k).foldl entB (putL [] (X.ents.length : Int))) x := by
      rw [List.take_add_one, hx, Option.toList_some, List.foldl_append]; rfl
    generalize hO : (X.ents.take k).foldl entB (putL [] (X.ents.length : Int)) = O at *
    have hl1 := textL_len O x.item
    generalize rw_o1 : textL O x.item = O1 at *
    have hl2 := putL_len O1 (n := x.dot.node) (by omega)
    generalize rw_o2 : putL O1 x.dot.node = O2 at *
    have hl3 := putL_len O2 (n := x.dot.life) (by omega)
    generalize rw_o3 : putL O2 x.dot.life = O3 at *
    have hl4 := putL_len O3 (n := x.dot.count) (by omega)
    generalize rw_o4 : putL O3 x.dot.count = O4 at *
    have hl5 := putL_len O4 (n := x.qty) (by omega)
    generalize rw_o5 : putL O4 x.qty = O5 at *
    refine sg S (.lt (by omega) rfl rfl <| .z) fun a w S => wp_seq_k fun _ hK2 => st_then S (.t rfl) (wp_skip (then_normal (hK2 _ _ (wp_seq_k fun _ hK2 => wp_block (wp_seq_k fun _ hK3 => wp_region_lit (run S (.ix underlying33 sizeOf71 (by omega) rfl rfl <| .yy (ys_ldOA ⟨isAgg71, sizeOf71⟩ (.t rfl) (vs := [_, _, _, _, _, _]) rfl (fun _ => hc)) rfl <| .z) fun a w S => st_m (op_alloc S zeroValue71 (cs := _) rfl rfl fun g2 a w S => st_m (op_stW S sizeOf71 (.t rfl) (.t rfl) (k := 0) rfl rfl rfl (by simp [Value.oneCell']) fun a w S => st_nil (then_normal (hK3 _ _ (wp_seq_k fun _ hK3 => wp_region_lit (run S (.mv rfl <| .fa underlying71 sizeOf9 0 rfl rfl rfl <| .ld gt9 0 rfl rfl rfl <| .z) fun a w S => ?_))))))))))))
    (refine st_m (op_calls S call54 (.cons (.t rfl) (.cons (.t rfl) .nil)) (c54 _ _ _ _ (by exact Sl.of_own S.wd (k := 1) rfl (fun _ => rfl)) (by omega) (by omega)) rfl ?_); clear S a w; rintro _ _ ⟨A4, r1, rfl, rfl⟩ a w S)
    rw [rw_o1] at S
    refine run S (.as rfl <| .z) fun a w S => st_nil (then_normal (hK3 _ _ (wp_seq_k fun _ hK3 => wp_seq_k fun _ hK4 => wp_region_lit (run S (.fa underlying71 sizeOf58 1 rfl rfl rfl <| .fa underlying58 sizeOf3 1 rfl rfl rfl <| .ld gt3 1 rfl rfl rfl <| .fa underlying71 sizeOf58 1 rfl rfl rfl <| .fa underlying58 sizeOf3 2 rfl rfl rfl <| .ld gt3 1 rfl rfl rfl <| .fa underlying71 sizeOf58 1 rfl rfl rfl <| .fa underlying58 sizeOf3 3 rfl rfl rfl <| .ld gt3 1 rfl rfl rfl <| .fa underlying71 sizeOf3 4 rfl rfl rfl <| .ld gt3 1 rfl rfl rfl <| .z) fun a w S => st_m (op_bsliceZ (ps := [(0, Go.Operand.tmp 33), (1, Go.Operand.tmp 36), (2, Go.Operand.tmp 39), (3, Go.Operand.tmp 41)]) (us := [_, _, _, _]) S underlying23 sizeOf3 zeroValue3 rfl rfl (.cons (.t rfl) (.cons (.t rfl) (.cons (.t rfl) (.cons (.t rfl) .nil)))) rfl rfl fun g3 a w S => run S (.ln underlying23 rfl <| .mc rfl <| .z) fun a w S => st_nil (then_normal (hK4 _ _ (wp_block (st_rounds 5 (st_round (sg S (.lt (by omega) rfl rfl <| .z) fun a w S => wp_seq_k fun _ hK4 => st_then S (.t rfl) (wp_skip (then_normal (hK4 _ _ (wp_seq_k fun _ hK4 => wp_block (wp_seq_k fun _ hK5 => wp_region_lit ?_))))))))))))))))
    refine run S (.yy (ys_ixS (j := 0) underlying23 sizeOf3 (.t rfl) (.t rfl) (fun _ => by omega)) rfl <| .ld gt3 0 rfl rfl rfl <| .as rfl <| .z) fun a w S => st_nil (then_normal (hK5 _ _ (wp_region_lit (run S (.mv rfl <| .mv rfl <| .z) fun a w S => ?_))))
    (refine st_m (op_calls S call53 (.cons (.t rfl) (.cons (.t rfl) .nil)) (c53 _ _ _ _ (by exact Sl.of_own S.wd (k := 1) rfl (fun _ => rfl)) (by omega) (by omega)) rfl ?_); clear S a w; rintro _ _ ⟨A5, c2, rfl, rfl⟩ a w S)
    rw [rw_o2] at S
    refine run S (.as rfl <| .z) fun a w S => st_nil (in_normal (then_normal (hK4 _ _ (wp_region_lit (run S (.ad (by unfold I64; omega) rfl <| .mv rfl <| .z) fun a w S => st_nil (then_normal (st_round (sg S (.lt (by omega) rfl rfl <| .z) fun a w S => wp_seq_k fun _ hK4 => st_then S (.t rfl) (wp_skip (then_normal (hK4 _ _ (wp_seq_k fun _ hK4 => wp_block (sg S (.yy (ys_ixS (j := 1) underlying23 sizeOf3 (.t rfl) (.t rfl) (fun _ => by omega)) rfl <| .ld gt3 1 rfl rfl rfl <| .as rfl <| .z) fun a w S => wp_region_lit (run S (.mv rfl <| .mv rfl <| .z) fun a w S => ?_))))))))))))))
    (refine st_m (op_calls S call53 (.cons (.t rfl) (.cons (.t rfl) .nil)) (c53 _ _ _ _ (by exact Sl.of_own S.wd (k := 0) rfl (fun _ => rfl)) (by omega) (by omega)) rfl ?_); clear S a w; rintro _ _ ⟨A6, c3, rfl, rfl⟩ a w S)
    rw [rw_o3] at S
    refine run S (.as rfl <| .z) fun a w S => st_nil (in_normal (then_normal (hK4 _ _ (wp_region_lit (run S (.ad (by unfold I64; omega) rfl <| .mv rfl <| .z) fun a w S => st_nil (then_normal (st_round (sg S (.lt (by omega) rfl rfl <| .z) fun a w S => wp_seq_k fun _ hK4 => st_then S (.t rfl) (wp_skip (then_normal (hK4 _ _ (wp_seq_k fun _ hK4 => wp_block (sg S (.yy (ys_ixS (j := 2) underlying23 sizeOf3 (.t rfl) (.t rfl) (fun _ => by omega)) rfl <| .ld gt3 2 rfl rfl rfl <| .as rfl <| .z) fun a w S => wp_region_lit (run S (.mv rfl <| .mv rfl <| .z) fun a w S => ?_))))))))))))))
    (refine st_m (op_calls S call53 (.cons (.t rfl) (.cons (.t rfl) .nil)) (c53 _ _ _ _ (by exact Sl.of_own S.wd (k := 0) rfl (fun _ => rfl)) (by omega) (by omega)) rfl ?_); clear S a w; rintro _ _ ⟨A7, c4, rfl, rfl⟩ a w S)
    rw [rw_o4] at S
    refine run S (.as rfl <| .z) fun a w S => st_nil (in_normal (then_normal (hK4 _ _ (wp_region_lit (run S (.ad (by unfold I64; omega) rfl <| .mv rfl <| .z) fun a w S => st_nil (then_normal (st_round (sg S (.lt (by omega) rfl rfl <| .z) fun a w S => wp_seq_k fun _ hK4 => st_then S (.t rfl) (wp_skip (then_normal (hK4 _ _ (wp_seq_k fun _ hK4 => wp_block (sg S (.yy (ys_ixS (j := 3) underlying23 sizeOf3 (.t rfl) (.t rfl) (fun _ => by omega)) rfl <| .ld gt3 3 rfl rfl rfl <| .as rfl <| .z) fun a w S => wp_region_lit (run S (.mv rfl <| .mv rfl <| .z) fun a w S => ?_))))))))))))))
    (refine st_m (op_calls S call53 (.cons (.t rfl) (.cons (.t rfl) .nil)) (c53 _ _ _ _ (by exact Sl.of_own S.wd (k := 0) rfl (fun _ => rfl)) (by omega) (by omega)) rfl ?_); clear S a w; rintro _ _ ⟨A8, c5, rfl, rfl⟩ a w S)
    rw [rw_o5] at S
    refine run S (.as rfl <| .z) fun a w S => st_nil (in_normal (then_normal (hK4 _ _ (wp_region_lit (run S (.ad (by unfold I64; omega) rfl <| .mv rfl <| .z) fun a w S => st_nil (then_normal (st_round (sg S (.ge (by omega) rfl rfl <| .z) fun a w S => wp_seq_k fun _ hK4 => st_else S (.t rfl) (wp_exit (then_exit (then_exit (in_here (then_normal (hK3 _ _ (sg S (.mc rfl <| .z) fun a w S => wp_block ?_)))))))))))))))
    have rw_f : O5 ++ leN x.price.toNat 0 = O5 := List.append_nil _
    rw [← rw_f] at S
    clear rw_f
    refine st_lpM S [5, 52] (X := Nat × Option Addr × Nat) (fun q => [(5, true, .slice q.2.1 (O5 ++ leN x.price.toNat q.1).length q.2.2), (52, true, .int .i64 (q.1 : Int))])
      (fun q => [rowOf 5 1 encB q.2.1 q.2.2 (O5 ++ leN x.price.toNat q.1), .blk g2 (.cells (Ent.enc x).toArray 71), .blk g1 (.cells #[.slice (some ⟨g, o, none⟩) X.ents.length cap, .slice A2 X.ctx.marks.length cap2, .slice A3 X.ctx.cloud.length cap3] 39)])
      (fun q => q.1 ≤ 8) (fun q => 8 - q.1) (0, _, _) (Nat.zero_le _) ?_
    clear S
    rintro ⟨i, F, cF⟩ a w hi S
    dsimp only at hi S
    have hll : (O5 ++ leN x.price.toNat i).length = O5.length + i := by rw [List.length_append, leN_len]
    have rw_8 : 8 * (i : Int) = ((8 * i : Nat) : Int) := by omega
    by_cases hi8 : i < 8
    · refine sg S (.yy (ys_T (by omega) (ys_lss (.t rfl) Ev.c)) rfl <| .z) fun a w S => wp_seq_k fun _ hK3 => st_then S (.t rfl) (wp_skip (then_normal (hK3 _ _ (wp_seq_k fun _ hK3 => wp_block (sg S (.mv rfl <| .as rfl <| .z) fun a w S => wp_region_lit (run S (.mv rfl <| .fa underlying71 sizeOf27 5 rfl rfl rfl <| .ld gt27 1 rfl rfl rfl <| .mv rfl <| .yy (ys_mulI Ev.c (.t rfl) (fun _ => by unfold I64; omega)) rfl <| .z) fun a w S => ?_))))))
      rw [rw_8] at S
      refine run S (.yy (ys_shr (.t rfl) (.t rfl) (Nat.ble_eq_true_of_le (by show _ ≤ 64; omega))) rfl <| .yy (ys_cvB underlying27 underlying5 (.t rfl)) rfl <| .z) fun a w S => st_m (op_bslice1 S underlying28 inf5 rfl rfl rfl (.t rfl) rfl rfl rfl fun g4 a w S => st_m (op_push S underlying28 inf5 rfl (k := 1) (j := 0) rfl (.t rfl) (.t rfl) rfl rfl rfl rfl (by first | omega | (simp only [List.length_append, List.length_cons, List.length_nil]; omega)) rfl rfl rfl fun A9 cap1 a w S => run S (.as rfl <| .z) fun a w S => st_nil (in_normal (then_normal (hK3 _ _ (wp_region_lit (run S (.ad (by unfold I64; omega) rfl <| .mv rfl <| .z) fun a w S => st_nil (then_normal ?_))))))))
      rw [le_byte, List.append_assoc, show leN x.price.toNat i ++ [UInt8.ofNat (x.price.toNat / 256 ^ i % 256)] = leN x.price.toNat (i + 1) from rfl] at S
      exact ⟨(i + 1, A9, cap1), by dsimp only; omega, by dsimp only; omega, S.pk⟩
    obtain rfl : i = 8 := by omega
    have he5 : entB O x = O5 ++ leN x.price.toNat 8 := by unfold entB; rw [rw_o1, rw_o2, rw_o3, rw_o4, rw_o5]
    refine sg S (.yy (ys_F (by omega) (ys_lss (.t rfl) Ev.c)) rfl <| .z) fun a w S => wp_seq_k fun _ hK3 => st_else S (.t rfl) (wp_exit (then_exit (then_exit (in_here (in_normal (then_normal (hK2 _ _ (wp_region_lit (run S (.ad (by unfold I64; omega) rfl <| .mv rfl <| .z) fun a w S => st_nil (then_normal ?_))))))))))
    exact ⟨(k + 1, F, cF), by dsimp only; omega, by dsimp only; omega, by dsimp only; rw [hst, he5]; exact S.pk⟩
  obtain rfl : k = X.ents.length := by omega
  rw [List.take_length] at S hbl
  have ee : X.ents.foldl entB (putL [] (X.ents.length : Int)) = entsB [] X.ents := rfl
  rw [ee] at S hbl
  have rw_1 : ∀ a b : List UInt8, (if canL X.ctx = true then a else b) = a := fun _ _ => if_pos ok.ctx
  have rw_2 : ∀ a b : Int, (if canL X.ctx = true then a else b) = a := fun _ _ => if_pos ok.ctx
  have rw_3 : encC (entsB [] X.ents) X.ctx = encK X := rfl
  refine sg S (.ge (by omega) rfl rfl <| .z) fun a w S => wp_seq_k fun _ hK2 => st_else S (.t rfl) (wp_exit (then_exit (then_exit (in_here (then_normal (hK1 _ _ (wp_seq_k fun _ hK1 => wp_region_lit (run S (.mv rfl <| .fa underlying39 sizeOf37 1 rfl rfl rfl <| .la gt37 1 rfl rfl rfl <| .z) fun a w S => ?_))))))))
  (refine st_m (op_calls S call55 (.cons (.t rfl) (.cons (.t rfl) .nil)) (c55 _ _ _ _ _ _ (by exact Sl.of_own S.wd (k := 0) rfl (fun _ => rfl)) (by exact .old S.wd (by assumption)) (by omega)) rfl ?_); clear S a w; rintro _ _ ⟨A4, c2, rfl, rfl⟩ a w S)
  rw [rw_1] at S
  rw [rw_2] at S
  rw [rw_3] at S
  refine run S (.ex rfl rfl <| .ex rfl rfl <| .as rfl <| .as rfl <| .z) fun a w S => st_nil (then_normal (hK1 _ _ (wp_ret (st_ret S (results2 S results15 (Rv.tmp rfl) (Rv.tmp rfl)) ?_))))
  rw [if_pos he, he]
  exact ⟨_, _, rfl, S.wd.pk, _, _, rfl, rfl⟩
end Go.Proofs.YtfblmkocmnbdcaaGreat
set_option linter.unusedVariables false
set_option linter.unusedSimpArgs false
namespace Go.Fw
open Go.RowKit
def leV (b : List UInt8) (k : Nat) : Nat → Nat
  | 0 => 0
  | n + 1 => leV b k n + (b.getD (k + n) 0).toNat * 256 ^ n
theorem leV_lt (b : List UInt8) (k : Nat) : ∀ n, leV b k n < 256 ^ n
  | 0 => by simp [leV]
  | n + 1 => by
    have ih := leV_lt b k n
    have hx : (b.getD (k + n) 0).toNat ≤ 255 := by have := (b.getD (k + n) 0).toNat_lt; omega
    have := Nat.mul_le_mul_right (256 ^ n) hx
    rw [leV, Nat.pow_succ]
    omega
theorem leV_fwd {b : List UInt8} {k p : Nat} : ∀ n, (∀ i, i < n → b.getD (k + i) 0 = UInt8.ofNat (p / 256 ^ i % 256)) → leV b k n = p % 256 ^ n
  | 0, _ => by simp [leV, Nat.mod_one]
  | n + 1, h => by
    rw [leV, leV_fwd n (fun i hi => h i (by omega)), h n (by omega), Nat.pow_succ, Nat.mod_mul]
    have : (UInt8.ofNat (p / 256 ^ n % 256)).toNat = p / 256 ^ n % 256 := by
      rw [UInt8.toNat_ofNat']; omega
    rw [this, Nat.mul_comm]
theorem leV_digit (b : List UInt8) (k : Nat) : ∀ n i, i < n → leV b k n / 256 ^ i % 256 = (b.getD (k + i) 0).toNat
  | 0, i, h => absurd h (by omega)
  | n + 1, i, h => by
    have hx : (b.getD (k + i) 0).toNat < 256 := (b.getD (k + i) 0).toNat_lt
    rw [leV]
    have hpos : 0 < 256 ^ i := Nat.pow_pos (by omega)
    by_cases e : i = n
    · subst e
      rw [Nat.add_mul_div_right _ _ hpos, Nat.div_eq_of_lt (leV_lt b k i), Nat.zero_add, Nat.mod_eq_of_lt hx]
    · have ih := leV_digit b k n i (by omega)
      obtain ⟨m, rfl⟩ : ∃ m, n = i + (m + 1) := ⟨n - i - 1, by omega⟩
      have e2 : (b.getD (k + (i + (m + 1))) 0).toNat * 256 ^ (i + (m + 1)) = ((b.getD (k + (i + (m + 1))) 0).toNat * 256 ^ m * 256) * 256 ^ i := by
        rw [Nat.pow_add, Nat.pow_succ]
        simp only [Nat.mul_assoc, Nat.mul_comm, Nat.mul_left_comm]
      rw [e2, Nat.add_mul_div_right _ _ hpos, Nat.add_mul_mod_self_right, ih]
theorem leN_get (p : Nat) : ∀ n i, i < n → (leN p n)[i]? = some (UInt8.ofNat (p / 256 ^ i % 256))
  | 0, i, h => absurd h (by omega)
  | n + 1, i, h => by
    rw [leN]
    by_cases e : i = n
    · subst e
      rw [List.getElem?_append_right (by rw [leN_len]; omega), leN_len, Nat.sub_self]
      rfl
    · rw [List.getElem?_append_left (by rw [leN_len]; omega)]
      exact leN_get p n i (by omega)
theorem leN_leV {b : List UInt8} {k n : Nat} (h : k + n ≤ b.length) : leN (leV b k n) n = (b.drop k).take n := by
  refine List.ext_getElem? fun i => ?_
  by_cases hi : i < n
  · rw [leN_get _ _ _ hi, leV_digit b k n i hi, List.getElem?_take_of_lt hi, List.getElem?_drop, List.getElem?_eq_getElem (by omega), List.getD_eq_getElem?_getD, List.getElem?_eq_getElem (by omega)]
    simp
  · rw [List.getElem?_eq_none (by rw [leN_len]; omega), List.getElem?_eq_none (by rw [List.length_take, List.length_drop]; omega)]
def u64R (b : List UInt8) (k : Nat) : Nat × Nat × Int := if k + 8 ≤ b.length then (leV b k 8, k + 8, 0) else (0, b.length, 2)
abbrev Ent.none : Ent := ⟨[], ⟨0, 0, 0⟩, 0, 0⟩
def entAt (b : List UInt8) (k : Nat) : Ent × Nat × Int := bindR (textR b k 32) Ent.none fun s k1 => bindR (numAt b k1) Ent.none fun x k2 => bindR (numAt b k2) Ent.none fun y k3 => bindR (numAt b k3) Ent.none fun z k4 => bindR (numAt b k4) Ent.none fun q k5 => bindR (u64R b k5) Ent.none fun p k6 => (⟨s, ⟨x, y, z⟩, q, UInt64.ofNat p⟩, k6, 0)
theorem textR_fwd {pre post s : List UInt8} {most : Int} (hs : (s.length : Int) ≤ most) (hm : most ≤ 9223372036854775807) : textR (textL pre s ++ post) pre.length most = (s, (textL pre s).length, 0) := by
  have e : textL pre s ++ post = putL pre (s.length : Int) ++ (s ++ post) := by unfold textL; rw [List.append_assoc]
  have n1 : numAt (textL pre s ++ post) pre.length = ((s.length : Int), (putL pre (s.length : Int)).length, 0) := by rw [e]; exact numAt_fwd (by omega) (by omega)
  unfold textR
  rw [n1]
  dsimp only
  rw [if_pos rfl, if_neg (by omega), if_neg, Int.toNat_natCast]
  · have e2 : (textL pre s ++ post).drop (putL pre (s.length : Int)).length = s ++ post := by rw [e, List.drop_left]
    rw [e2, List.take_left]
    unfold textL
    rw [List.length_append]
  · rw [e, List.length_append, List.length_append]; omega
theorem textR_inv {b : List UInt8} {k : Nat} {most : Int} (h : (textR b k most).2.2 = 0) : b.take (textR b k most).2.1 = textL (b.take k) (textR b k most).1 ∧ (((textR b k most).1.length : Nat) : Int) = (numAt b k).1 := by
  unfold textR at h ⊢
  split at h
  · rename_i h1
    rw [if_pos h1]
    split at h
    · simp at h
    · rename_i h2
      rw [if_neg h2]
      split at h
      · simp at h
      · rename_i h3
        rw [if_neg h3]
        dsimp only
        have hv := numAt_val b k
        have hl : ((((b.drop (numAt b k).2.1).take (numAt b k).1.toNat).length : Nat) : Int) = (numAt b k).1 := by
          rw [List.length_take, List.length_drop]; omega
        refine ⟨?_, hl⟩
        unfold textL
        rw [hl, take_more, numAt_inv h1]
  · rename_i h1
    exact absurd h h1
theorem entAt_fwd {C : Ctx} {pre post : List UInt8} {x : Ent} (hC : canL C = true) (h : EntOk C x) : entAt (entB pre x ++ post) pre.length = (x, (entB pre x).length, 0) := by
  obtain ⟨h1, h2, h3, h4, h5, h6, h7, h8, h9⟩ := ent_lim hC h
  have e0 : entB pre x ++ post = textL pre x.item ++ (numB x.dot.node.toNat ++ (numB x.dot.life.toNat ++ (numB x.dot.count.toNat ++ (numB x.qty.toNat ++ (leN x.price.toNat 8 ++ post))))) := by simp [entB, putL]
  have e1 : entB pre x ++ post = putL (textL pre x.item) x.dot.node ++ (numB x.dot.life.toNat ++ (numB x.dot.count.toNat ++ (numB x.qty.toNat ++ (leN x.price.toNat 8 ++ post)))) := by simp [entB, putL]
  have e2 : entB pre x ++ post = putL (putL (textL pre x.item) x.dot.node) x.dot.life ++ (numB x.dot.count.toNat ++ (numB x.qty.toNat ++ (leN x.price.toNat 8 ++ post))) := by simp [entB, putL]
  have e3 : entB pre x ++ post = putL (putL (putL (textL pre x.item) x.dot.node) x.dot.life) x.dot.count ++ (numB x.qty.toNat ++ (leN x.price.toNat 8 ++ post)) := by simp [entB, putL]
  have e4 : entB pre x ++ post = putL (putL (putL (putL (textL pre x.item) x.dot.node) x.dot.life) x.dot.count) x.qty ++ (leN x.price.toNat 8 ++ post) := by simp [entB, putL]
  have n0 : textR (entB pre x ++ post) pre.length 32 = (x.item, (textL pre x.item).length, 0) := by rw [e0]; exact textR_fwd (by omega) (by omega)
  have n1 : numAt (entB pre x ++ post) (textL pre x.item).length = (x.dot.node, (putL (textL pre x.item) x.dot.node).length, 0) := by rw [e1]; exact numAt_fwd (by omega) (by omega)
  have n2 : numAt (entB pre x ++ post) (putL (textL pre x.item) x.dot.node).length = (x.dot.life, (putL (putL (textL pre x.item) x.dot.node) x.dot.life).length, 0) := by rw [e2]; exact numAt_fwd (by omega) (by omega)
  have n3 : numAt (entB pre x ++ post) (putL (putL (textL pre x.item) x.dot.node) x.dot.life).length = (x.dot.count, (putL (putL (putL (textL pre x.item) x.dot.node) x.dot.life) x.dot.count).length, 0) := by rw [e3]; exact numAt_fwd (by omega) (by omega)
  have n4 : numAt (entB pre x ++ post) (putL (putL (putL (textL pre x.item) x.dot.node) x.dot.life) x.dot.count).length = (x.qty, (putL (putL (putL (putL (textL pre x.item) x.dot.node) x.dot.life) x.dot.count) x.qty).length, 0) := by rw [e4]; exact numAt_fwd (by omega) (by omega)
  have n5 : u64R (entB pre x ++ post) (putL (putL (putL (putL (textL pre x.item) x.dot.node) x.dot.life) x.dot.count) x.qty).length = (x.price.toNat, (entB pre x).length, 0) := by
    have hlen : (entB pre x).length = (putL (putL (putL (putL (textL pre x.item) x.dot.node) x.dot.life) x.dot.count) x.qty).length + 8 := by
      unfold entB; rw [List.length_append, leN_len]
    unfold u64R
    rw [if_pos (by rw [List.length_append]; omega), hlen]
    congr 1
    rw [leV_fwd (p := x.price.toNat) 8 (fun i hi => ?_), Nat.mod_eq_of_lt (by have := x.price.toNat_lt; simpa using this)]
    rw [e4, List.getD_eq_getElem?_getD, List.getElem?_append_right (by omega), Nat.add_sub_cancel_left, List.getElem?_append_left (by rw [leN_len]; omega), leN_get _ _ _ hi]
    rfl
  unfold entAt
  rw [n0, bindR_ok rfl]
  dsimp only
  rw [n1, bindR_ok rfl]
  dsimp only
  rw [n2, bindR_ok rfl]
  dsimp only
  rw [n3, bindR_ok rfl]
  dsimp only
  rw [n4, bindR_ok rfl]
  dsimp only
  rw [n5, bindR_ok rfl]
  dsimp only
  rw [UInt64.ofNat_toNat]
theorem entAt_inv {b : List UInt8} {k : Nat} (h : (entAt b k).2.2 = 0) : b.take (entAt b k).2.1 = entB (b.take k) (entAt b k).1 := by
  unfold entAt at h ⊢
  obtain ⟨h0, e0⟩ := bindR_zero h
  rw [e0] at h ⊢
  obtain ⟨h1, e1⟩ := bindR_zero h
  rw [e1] at h ⊢
  obtain ⟨h2, e2⟩ := bindR_zero h
  rw [e2] at h ⊢
  obtain ⟨h3, e3⟩ := bindR_zero h
  rw [e3] at h ⊢
  obtain ⟨h4, e4⟩ := bindR_zero h
  rw [e4] at h ⊢
  obtain ⟨h5, e5⟩ := bindR_zero h
  rw [e5]
  dsimp only
  generalize hk : (numAt b (numAt b (numAt b (numAt b (textR b k 32).2.1).2.1).2.1).2.1).2.1 = j at h5 ⊢
  unfold u64R at h5 ⊢
  split at h5
  · rename_i h6
    rw [if_pos h6]
    dsimp only
    have hp : (UInt64.ofNat (leV b j 8)).toNat = leV b j 8 := by
      rw [UInt64.toNat_ofNat']; exact Nat.mod_eq_of_lt (leV_lt b j 8)
    unfold entB
    dsimp only
    rw [hp, leN_leV h6, take_more, ← hk, numAt_inv h4, numAt_inv h3, numAt_inv h2, numAt_inv h1, (textR_inv h0).1]
  · simp at h5
def entsAt (b : List UInt8) : Nat → List Ent → Nat → List Ent × Nat × Int
  | 0, acc, k => (acc, k, 0)
  | n + 1, acc, k => bindR (entAt b k) [] fun d k1 => entsAt b n (acc ++ [d]) k1
theorem entB_app (pre : List UInt8) (d : Ent) : ∃ X, entB pre d = pre ++ X := ⟨numB d.item.length ++ (d.item ++ (numB d.dot.node.toNat ++ (numB d.dot.life.toNat ++ (numB d.dot.count.toNat ++ (numB d.qty.toNat ++ leN d.price.toNat 8))))), by simp [entB, putL, textL]⟩
theorem foldE_app : ∀ (l : List Ent) (pre : List UInt8), ∃ X, l.foldl entB pre = pre ++ X
  | [], pre => ⟨[], by simp⟩
  | d :: r, pre => by
    obtain ⟨X, hX⟩ := entB_app pre d
    obtain ⟨Y, hY⟩ := foldE_app r (entB pre d)
    exact ⟨X ++ Y, by rw [List.foldl_cons, hY, hX, List.append_assoc]⟩
theorem entsAt_fwd {C : Ctx} {post : List UInt8} (hC : canL C = true) : ∀ {l acc : List Ent} {pre : List UInt8}, (∀ x ∈ l, EntOk C x) → entsAt (l.foldl entB pre ++ post) l.length acc pre.length = (acc ++ l, (l.foldl entB pre).length, 0)
  | [], acc, pre, _ => by simp [entsAt]
  | d :: r, acc, pre, h => by
    obtain ⟨X, hX⟩ := foldE_app r (entB pre d)
    have e : (d :: r).foldl entB pre ++ post = entB pre d ++ (X ++ post) := by rw [List.foldl_cons, hX, List.append_assoc]
    rw [List.length_cons, entsAt]
    have hd : entAt ((d :: r).foldl entB pre ++ post) pre.length = (d, (entB pre d).length, 0) := by rw [e]; exact entAt_fwd hC (h d (by simp))
    rw [hd, bindR_ok rfl]
    dsimp only
    rw [List.foldl_cons, entsAt_fwd hC (fun x hx => h x (by simp [hx])), List.append_assoc]
    rfl
theorem entsAt_inv {b : List UInt8} : ∀ {n k : Nat} {acc : List Ent}, (entsAt b n acc k).2.2 = 0 → ∃ l, (entsAt b n acc k).1 = acc ++ l ∧ l.length = n ∧ b.take (entsAt b n acc k).2.1 = l.foldl entB (b.take k)
  | 0, k, acc, _ => ⟨[], by simp [entsAt], rfl, rfl⟩
  | n + 1, k, acc, h => by
    unfold entsAt at h ⊢
    obtain ⟨h1, e1⟩ := bindR_zero h
    rw [e1] at h ⊢
    obtain ⟨l, e2, e3, e4⟩ := entsAt_inv h
    exact ⟨(entAt b k).1 :: l, by rw [e2, List.append_assoc]; rfl, by simp [e3], by rw [e4, entAt_inv h1]; rfl⟩
def lastK (b : List UInt8) (c : Cart) (k : Nat) : Cart × Nat × Int := if k < b.length then (Cart.zero, k, 3) else if canE c = 0 then (c, k, 0) else (Cart.zero, k, canE c)
def decR (b : List UInt8) : Cart × Nat × Int := bindR (numAt b 0) Cart.zero fun n k1 => if 64 < n then (Cart.zero, k1, 4) else bindR (entsAt b n.toNat [] k1) Cart.zero fun l k2 => bindR (decAt b k2) Cart.zero fun C k3 => lastK b ⟨l, C⟩ k3
def decK (b : List UInt8) : Cart × Int := ((decR b).1, (decR b).2.2)
theorem dec_enc {c : Cart} (h : CartOk c) : decK (encK c) = (c, 0) := by
  have hl := h.len
  obtain ⟨X, hX⟩ := foldE_app c.ents (putL [] (c.ents.length : Int))
  have hEC : ∃ Y, encK c = entsB [] c.ents ++ Y := by
    unfold encK encC dotsB
    obtain ⟨P, hP⟩ := foldB_app c.ctx.marks (putL (entsB [] c.ents) (c.ctx.marks.length : Int))
    rw [hP]
    obtain ⟨Q, hQ⟩ := foldB_app c.ctx.cloud (putL (putL (entsB [] c.ents) (c.ctx.marks.length : Int) ++ P) (c.ctx.cloud.length : Int))
    rw [hQ]
    exact ⟨numB c.ctx.marks.length ++ P ++ numB c.ctx.cloud.length ++ Q, by simp [putL]⟩
  obtain ⟨Y, hY⟩ := hEC
  have n1 : numAt (encK c) 0 = ((c.ents.length : Int), (putL [] (c.ents.length : Int)).length, 0) := by
    have : encK c = putL [] (c.ents.length : Int) ++ (X ++ Y) := by rw [hY]; unfold entsB; rw [hX, List.append_assoc]
    rw [this]
    exact numAt_fwd (pre := []) (by omega) (by omega)
  have n2 : entsAt (encK c) c.ents.length [] (putL [] (c.ents.length : Int)).length = (c.ents, (entsB [] c.ents).length, 0) := by
    rw [hY]; exact entsAt_fwd h.ctx h.each
  have n3 : decAt (encK c) (entsB [] c.ents).length = (c.ctx, (encK c).length, 0) := by
    have := decAt_fwd (pre := entsB [] c.ents) (post := []) h.ctx
    rw [List.append_nil] at this
    exact this
  unfold decK decR
  rw [n1, bindR_ok rfl]
  dsimp only
  rw [if_neg (by omega), Int.toNat_natCast, n2, bindR_ok rfl]
  dsimp only
  rw [n3, bindR_ok rfl]
  unfold lastK
  rw [if_neg (Nat.lt_irrefl _), if_pos ((canE_ok c).2 h)]
theorem lastK_zero {b : List UInt8} {c : Cart} {k : Nat} (h : (lastK b c k).2.2 = 0) : ¬ k < b.length ∧ canE c = 0 ∧ lastK b c k = (c, k, 0) := by
  unfold lastK at h ⊢
  split at h
  · simp at h
  · rename_i h1
    split at h
    · rename_i h2
      exact ⟨h1, h2, by rw [if_neg h1, if_pos h2]⟩
    · rename_i h2; exact absurd h h2
theorem enc_dec {b : List UInt8} (h : (decK b).2 = 0) : CartOk (decK b).1 ∧ encK (decK b).1 = b := by
  unfold decK decR at h ⊢
  dsimp only at h ⊢
  obtain ⟨h1, e1⟩ := bindR_zero h
  rw [e1] at h ⊢
  split at h
  · simp at h
  rename_i h2
  rw [if_neg h2]
  obtain ⟨h3, e3⟩ := bindR_zero h
  rw [e3] at h ⊢
  obtain ⟨h4, e4⟩ := bindR_zero h
  rw [e4] at h ⊢
  obtain ⟨h5, h6, e5⟩ := lastK_zero h
  rw [e5]
  refine ⟨(canE_ok _).1 h6, ?_⟩
  obtain ⟨l, k1, k2, k3⟩ := entsAt_inv h3
  obtain ⟨k4, k5⟩ := decAt_inv h4
  have hv := numAt_val b 0
  dsimp only
  unfold encK
  dsimp only
  rw [k1, List.nil_append]
  have e6 : entsB [] l = b.take (entsAt b (numAt b 0).1.toNat [] (numAt b 0).2.1).2.1 := by
    rw [k3, numAt_inv h1]
    unfold entsB
    rw [k2, List.take_zero, show (((numAt b 0).1.toNat : Nat) : Int) = (numAt b 0).1 by omega]
  rw [e6, ← k5]
  exact List.take_of_length_le (by omega)
theorem bindR_z {α β : Type} {r : α × Nat × Int} {z : β} {f : α → Nat → β × Nat × Int} (hf : ∀ x k, (f x k).2.2 ≠ 0 → (f x k).1 = z) (h : (bindR r z f).2.2 ≠ 0) : (bindR r z f).1 = z := by
  by_cases h1 : r.2.2 = 0
  · rw [bindR_ok h1] at h ⊢
    exact hf _ _ h
  · rw [bindR_bad h1]
theorem dec_bad {b : List UInt8} (h : (decK b).2 ≠ 0) : (decK b).1 = Cart.zero := by
  refine bindR_z (fun n k1 h => ?_) h
  split at h
  · rename_i h1; rw [if_pos h1]
  · rename_i h1
    rw [if_neg h1]
    refine bindR_z (fun l k2 h => bindR_z (fun C k3 h => ?_) h) h
    unfold lastK at h ⊢
    split
    · rfl
    · rename_i h5
      rw [if_neg h5] at h
      split
      · rename_i h6
        rw [if_pos h6] at h
        exact absurd rfl h
      · rfl
end Go.Fw
set_option linter.unusedVariables false
set_option linter.unusedSimpArgs false
set_option maxRecDepth 100000
set_option maxHeartbeats 4000000
namespace Go.Proofs.YtfblmkocmnbdcaaGreat
open Go.Fw Go.Proofs Go.RowKit Go.Proofs.Tryz
theorem c163 {w0 w : World} {L : List Chunk} {g cap k : Nat} {A : Option Addr} {b : List UInt8} (W : Wd w0 (rdr g A cap b k L) w) (hk : k ≤ b.length) (hb : b.length ≤ 16777216) :
    RetsO Tryz.prog 163 #[.pointer (some ⟨g, 0, none⟩), .int .i64 64] w0 w (fun v L' => ∃ B c, v = .tuple #[.slice B (listAt b k).1.length c, .int .i64 (listAt b k).2.2] ∧ L' = rdr g A cap b (listAt b k).2.1 (rowOf 58 3 Dot.enc B c (listAt b k).1 :: L)) := by
  have hv := numAt_val b k
  have hp := numAt_le hk
  by_cases he : (numAt b k).2.2 = 0
  · by_cases h64 : 64 < (numAt b k).1
    · unfold Go.Fw.RetsO
      refine enterW2 W func163 rfl ntmps163 rfl fun a S => sg S (.ac rfl <| .ac rfl <| .z) fun a w S => wp_seq_k fun _ hK1 => wp_region_lit (run S (.mv rfl <| .z) fun a w S => ?_)
      (refine st_m (op_callO S call57 (.cons (.t rfl) .nil) (c57 S.wd (by first | assumption | omega | (dsimp only; omega) | exact Sl.nil_ | exact .old S.wd (by assumption) | exact Sl.of_own S.wd (k := 0) rfl (fun _ => rfl) | exact Sl.of_own S.wd (k := 1) rfl (fun _ => rfl) | (simp at *; omega)) (by first | assumption | omega | (dsimp only; omega) | exact Sl.nil_ | exact .old S.wd (by assumption) | exact Sl.of_own S.wd (k := 0) rfl (fun _ => rfl) | exact Sl.of_own S.wd (k := 1) rfl (fun _ => rfl) | (simp at *; omega))) rfl ?_) <;> clear S a w)
      rintro _ _ ⟨rfl, rfl⟩ a w S
      refine run S (.mv rfl <| .ex rfl rfl <| .ex rfl rfl <| .as rfl <| .as rfl <| .z) fun a w S => st_nil (then_normal (hK1 _ _ (wp_seq_k fun _ hK1 => sg S (.mv rfl <| .yy (ys_F (by omega) (ys_neq (.t rfl) Ev.c)) rfl <| .z) fun a w S => st_else S (.t rfl) (wp_skip (then_normal (hK1 _ _ (wp_seq_k fun _ hK1 => sg S (.mv rfl <| .mv rfl <| .yy (ys_T (by omega) (ys_gtr (.t rfl) (.t rfl))) rfl <| .z) fun a w S => st_then S (.t rfl) (sg S (.ac rfl <| .ac rfl <| .z) fun a w S => wp_ret (then_ret (st_ret S (results2 S results163 (Rv.tmp rfl) (Rv.tmp rfl)) ?_))))))))))
      rw [show listAt b k = ([], (numAt b k).2.1, 4) by unfold listAt; rw [bindR_ok he, if_pos h64]]
      exact ⟨_, _, rfl, (S.nil_ 58 3 Dot.enc none).wd.pk, none, 0, rfl, rfl⟩
    · obtain ⟨n, hn⟩ : ∃ n : Nat, (numAt b k).1 = (n : Int) := ⟨(numAt b k).1.toNat, by omega⟩
      have hla : listAt b k = dotsAt b n [] (numAt b k).2.1 := by unfold listAt; rw [bindR_ok he, if_neg h64, hn]; rfl
      have hn64 : n ≤ 64 := by omega
      have rw_n := hn
      unfold Go.Fw.RetsO
      refine enterW2 W func163 rfl ntmps163 rfl fun a S => sg S (.ac rfl <| .ac rfl <| .z) fun a w S => wp_seq_k fun _ hK1 => wp_region_lit (run S (.mv rfl <| .z) fun a w S => ?_)
      (refine st_m (op_callO S call57 (.cons (.t rfl) .nil) (c57 S.wd (by first | assumption | omega | (dsimp only; omega) | exact Sl.nil_ | exact .old S.wd (by assumption) | exact Sl.of_own S.wd (k := 0) rfl (fun _ => rfl) | exact Sl.of_own S.wd (k := 1) rfl (fun _ => rfl) | (simp at *; omega)) (by first | assumption | omega | (dsimp only; omega) | exact Sl.nil_ | exact .old S.wd (by assumption) | exact Sl.of_own S.wd (k := 0) rfl (fun _ => rfl) | exact Sl.of_own S.wd (k := 1) rfl (fun _ => rfl) | (simp at *; omega))) rfl ?_) <;> clear S a w)
      rintro _ _ ⟨rfl, rfl⟩ a w S
      rw [rw_n] at S
      refine run S (.mv rfl <| .ex rfl rfl <| .ex rfl rfl <| .as rfl <| .as rfl <| .z) fun a w S => st_nil (then_normal (hK1 _ _ (wp_seq_k fun _ hK1 => sg S (.mv rfl <| .yy (ys_F (by omega) (ys_neq (.t rfl) Ev.c)) rfl <| .z) fun a w S => st_else S (.t rfl) (wp_skip (then_normal (hK1 _ _ (wp_seq_k fun _ hK1 => sg S (.mv rfl <| .mv rfl <| .yy (ys_F (by omega) (ys_gtr (.t rfl) (.t rfl))) rfl <| .z) fun a w S => st_else S (.t rfl) (wp_skip (then_normal (hK1 _ _ (sg S (.ac rfl <| .z) fun a w S => wp_seq_k fun _ hK1 => sg S (.mv rfl <| .mc rfl <| .z) fun a w S => wp_block ?_)))))))))))
      refine st_lpM (S.nil_ 58 3 Dot.enc none) [7] (X := Nat × Nat × List Dot × Option Addr × Nat) (fun q => [(24, true, .int .i64 (q.1 : Int)), (8, true, .slice q.2.2.2.1 q.2.2.1.length q.2.2.2.2)]) (fun q => rowOf 58 3 Dot.enc q.2.2.2.1 q.2.2.2.2 q.2.2.1 :: rdr g A cap b q.2.1 L)
        (fun q => q.1 ≤ n ∧ q.2.1 ≤ b.length ∧ q.2.2.1.length = q.1 ∧ dotsAt b (n - q.1) q.2.2.1 q.2.1 = dotsAt b n [] (numAt b k).2.1) (fun q => n - q.1) (0, (numAt b k).2.1, [], none, 0) ⟨Nat.zero_le _, hp.2, rfl, rfl⟩ ?_
      clear S
      intro ⟨i, k', acc, D, cD⟩ a w ⟨hi, hk', hlen, hno⟩ S
      dsimp only at hi hk' hlen hno S
      by_cases hlt : i < n
      · rw [show n - i = (n - (i + 1)) + 1 by omega, dotsAt] at hno
        refine sg S (.lt (by omega) rfl rfl <| .z) fun a w S => wp_seq_k fun _ hK2 => st_then S (.t rfl) (wp_skip (then_normal (hK2 _ _ (wp_seq_k fun _ hK2 => wp_block (wp_seq_k fun _ hK3 => wp_region_lit (st_m (op_alloc S zeroValue58 (cs := _) rfl rfl fun g1 a w S => st_nil (then_normal (hK3 _ _ (wp_seq_k fun _ hK3 => wp_seq_k fun _ hK4 => wp_region_lit (run S (.fa underlying58 sizeOf3 0 rfl rfl rfl <| .fa underlying58 sizeOf3 1 rfl rfl rfl <| .fa underlying58 sizeOf3 2 rfl rfl rfl <| .z) fun a w S => st_m (op_bsliceZ (ps := [(0, Go.Operand.tmp 26), (1, Go.Operand.tmp 27), (2, Go.Operand.tmp 28)]) (us := [_, _, _]) S underlying149 sizeOf148 zeroValue148 rfl rfl (.cons (.t rfl) (.cons (.t rfl) (.cons (.t rfl) .nil))) rfl rfl fun g2 a w S => run S (.ln underlying149 rfl <| .mc rfl <| .z) fun a w S => st_nil (then_normal (hK4 _ _ (wp_block ?_)))))))))))))))
        have hp1 := numAt_le hk'
        by_cases e1 : (numAt b k').2.2 = 0
        · refine st_rounds 4 (st_round (sg S (.lt (by omega) rfl rfl <| .z) fun a w S => wp_seq_k fun _ hK4 => st_then S (.t rfl) (wp_skip (then_normal (hK4 _ _ (wp_seq_k fun _ hK4 => wp_block (sg S (.yy (ys_ixS (j := 0) underlying149 sizeOf148 (.t rfl) (.t rfl) (fun _ => by omega)) rfl <| .ld gt148 0 rfl rfl rfl <| .as rfl <| .z) fun a w S => wp_seq_k fun _ hK5 => wp_region_lit (run S (.mv rfl <| .mv rfl <| .z) fun a w S => ?_))))))))
          (replace S := S.pull 4 rfl; try simp only [List.set_cons_zero, List.set_cons_succ, List.eraseIdx_cons_succ, List.eraseIdx_cons_zero] at S; replace S := S.pull 4 rfl; try simp only [List.set_cons_zero, List.set_cons_succ, List.eraseIdx_cons_succ, List.eraseIdx_cons_zero] at S; refine st_m (op_callO S call57 (.cons (.t rfl) .nil) (c57 S.wd (by first | assumption | omega | (dsimp only; omega) | exact Sl.nil_ | exact .old S.wd (by assumption) | exact Sl.of_own S.wd (k := 0) rfl (fun _ => rfl) | exact Sl.of_own S.wd (k := 1) rfl (fun _ => rfl) | exact Sl.of_own S.wd (k := 2) rfl (fun _ => rfl) | exact Sl.of_own S.wd (k := 3) rfl (fun _ => rfl) | exact Sl.of_own S.wd (k := 4) rfl (fun _ => rfl) | (simp at *; omega)) (by first | assumption | omega | (dsimp only; omega) | exact Sl.nil_ | exact .old S.wd (by assumption) | exact Sl.of_own S.wd (k := 0) rfl (fun _ => rfl) | exact Sl.of_own S.wd (k := 1) rfl (fun _ => rfl) | exact Sl.of_own S.wd (k := 2) rfl (fun _ => rfl) | exact Sl.of_own S.wd (k := 3) rfl (fun _ => rfl) | exact Sl.of_own S.wd (k := 4) rfl (fun _ => rfl) | (simp at *; omega))) rfl ?_) <;> clear S a w)
          rintro _ _ ⟨rfl, rfl⟩ a w S
          refine run S (.mv rfl <| .ex rfl rfl <| .ex rfl rfl <| .yy (ys_nilc (.t rfl)) rfl <| .z) fun a w S => st_m (op_st S sizeOf3 (.t rfl) (.t rfl) (k := 3) rfl rfl (by simp) fun a w S => run S (.as rfl <| .z) fun a w S => st_nil (then_normal (hK5 _ _ (sg S (.mv rfl <| .yy (ys_F (by omega) (ys_neq (.t rfl) Ev.c)) rfl <| .z) fun a w S => st_else S (.t rfl) (wp_skip (in_normal (then_normal (hK4 _ _ (wp_region_lit (run S (.ad (by unfold I64; omega) rfl <| .mv rfl <| .z) fun a w S => st_nil (then_normal (st_round ?_))))))))))))
          have hp2 := numAt_le hp1.2
          by_cases e2 : (numAt b (numAt b k').2.1).2.2 = 0
          · refine sg S (.lt (by omega) rfl rfl <| .z) fun a w S => wp_seq_k fun _ hK4 => st_then S (.t rfl) (wp_skip (then_normal (hK4 _ _ (wp_seq_k fun _ hK4 => wp_block (sg S (.yy (ys_ixS (j := 1) underlying149 sizeOf148 (.t rfl) (.t rfl) (fun _ => by omega)) rfl <| .ld gt148 2 rfl rfl rfl <| .as rfl <| .z) fun a w S => wp_seq_k fun _ hK5 => wp_region_lit (run S (.mv rfl <| .mv rfl <| .z) fun a w S => ?_))))))
            (refine st_m (op_callO S call57 (.cons (.t rfl) .nil) (c57 S.wd (by first | assumption | omega | (dsimp only; omega) | exact Sl.nil_ | exact .old S.wd (by assumption) | exact Sl.of_own S.wd (k := 0) rfl (fun _ => rfl) | exact Sl.of_own S.wd (k := 1) rfl (fun _ => rfl) | exact Sl.of_own S.wd (k := 2) rfl (fun _ => rfl) | exact Sl.of_own S.wd (k := 3) rfl (fun _ => rfl) | exact Sl.of_own S.wd (k := 4) rfl (fun _ => rfl) | (simp at *; omega)) (by first | assumption | omega | (dsimp only; omega) | exact Sl.nil_ | exact .old S.wd (by assumption) | exact Sl.of_own S.wd (k := 0) rfl (fun _ => rfl) | exact Sl.of_own S.wd (k := 1) rfl (fun _ => rfl) | exact Sl.of_own S.wd (k := 2) rfl (fun _ => rfl) | exact Sl.of_own S.wd (k := 3) rfl (fun _ => rfl) | exact Sl.of_own S.wd (k := 4) rfl (fun _ => rfl) | (simp at *; omega))) rfl ?_) <;> clear S a w)
            rintro _ _ ⟨rfl, rfl⟩ a w S
            refine run S (.mv rfl <| .ex rfl rfl <| .ex rfl rfl <| .yy (ys_nilc (.t rfl)) rfl <| .z) fun a w S => st_m (op_st S sizeOf3 (.t rfl) (.t rfl) (k := 3) rfl rfl (by simp) fun a w S => run S (.as rfl <| .z) fun a w S => st_nil (then_normal (hK5 _ _ (sg S (.mv rfl <| .yy (ys_F (by omega) (ys_neq (.t rfl) Ev.c)) rfl <| .z) fun a w S => st_else S (.t rfl) (wp_skip (in_normal (then_normal (hK4 _ _ (wp_region_lit (run S (.ad (by unfold I64; omega) rfl <| .mv rfl <| .z) fun a w S => st_nil (then_normal (st_round ?_))))))))))))
            have hp3 := numAt_le hp2.2
            by_cases e3 : (numAt b (numAt b (numAt b k').2.1).2.1).2.2 = 0
            · refine sg S (.lt (by omega) rfl rfl <| .z) fun a w S => wp_seq_k fun _ hK4 => st_then S (.t rfl) (wp_skip (then_normal (hK4 _ _ (wp_seq_k fun _ hK4 => wp_block (sg S (.yy (ys_ixS (j := 2) underlying149 sizeOf148 (.t rfl) (.t rfl) (fun _ => by omega)) rfl <| .ld gt148 2 rfl rfl rfl <| .as rfl <| .z) fun a w S => wp_seq_k fun _ hK5 => wp_region_lit (run S (.mv rfl <| .mv rfl <| .z) fun a w S => ?_))))))
              (refine st_m (op_callO S call57 (.cons (.t rfl) .nil) (c57 S.wd (by first | assumption | omega | (dsimp only; omega) | exact Sl.nil_ | exact .old S.wd (by assumption) | exact Sl.of_own S.wd (k := 0) rfl (fun _ => rfl) | exact Sl.of_own S.wd (k := 1) rfl (fun _ => rfl) | exact Sl.of_own S.wd (k := 2) rfl (fun _ => rfl) | exact Sl.of_own S.wd (k := 3) rfl (fun _ => rfl) | exact Sl.of_own S.wd (k := 4) rfl (fun _ => rfl) | (simp at *; omega)) (by first | assumption | omega | (dsimp only; omega) | exact Sl.nil_ | exact .old S.wd (by assumption) | exact Sl.of_own S.wd (k := 0) rfl (fun _ => rfl) | exact Sl.of_own S.wd (k := 1) rfl (fun _ => rfl) | exact Sl.of_own S.wd (k := 2) rfl (fun _ => rfl) | exact Sl.of_own S.wd (k := 3) rfl (fun _ => rfl) | exact Sl.of_own S.wd (k := 4) rfl (fun _ => rfl) | (simp at *; omega))) rfl ?_) <;> clear S a w)
              rintro _ _ ⟨rfl, rfl⟩ a w S
              refine run S (.mv rfl <| .ex rfl rfl <| .ex rfl rfl <| .yy (ys_nilc (.t rfl)) rfl <| .z) fun a w S => st_m (op_st S sizeOf3 (.t rfl) (.t rfl) (k := 3) rfl rfl (by simp) fun a w S => run S (.as rfl <| .z) fun a w S => st_nil (then_normal (hK5 _ _ (sg S (.mv rfl <| .yy (ys_F (by omega) (ys_neq (.t rfl) Ev.c)) rfl <| .z) fun a w S => st_else S (.t rfl) (wp_skip (in_normal (then_normal (hK4 _ _ (wp_region_lit (run S (.ad (by unfold I64; omega) rfl <| .mv rfl <| .z) fun a w S => st_nil (then_normal (st_round ?_))))))))))))
              have hd : dotAt b k' = (⟨(numAt b k').1, (numAt b (numAt b k').2.1).1, (numAt b (numAt b (numAt b k').2.1).2.1).1⟩, (numAt b (numAt b (numAt b k').2.1).2.1).2.1, 0) := by unfold dotAt; rw [bindR_ok e1, bindR_ok e2, bindR_ok e3]
              rw [hd, bindR_ok rfl] at hno
              refine sg S (.ge (by omega) rfl rfl <| .z) fun a w S => wp_seq_k fun _ hK4 => st_else S (.t rfl) (wp_exit (then_exit (then_exit (in_here (then_normal (hK3 _ _ (wp_region_lit (run S (.mv rfl <| .la gt58 3 rfl rfl rfl <| .z) fun a w S => st_m (op_bslice1 S underlying35 inf58 rfl rfl rfl (.t rfl) rfl rfl rfl fun g3 a w S => st_m (op_push S underlying35 inf58 rfl (k := 5) (j := 0) rfl (.t rfl) (.t rfl) rfl Go.Fw.Dot.mkEnc rfl rfl (by first | omega | (simp only [List.length_append, List.length_cons, List.length_nil]; omega)) rfl rfl rfl fun A1 cap1 a w S => run S (.as rfl <| .z) fun a w S => st_nil (in_normal (then_normal (hK2 _ _ (wp_region_lit (run S (.ad (by unfold I64; omega) rfl <| .mv rfl <| .z) fun a w S => st_nil (then_normal ?_))))))))))))))))
              exact ⟨(i + 1, (numAt b (numAt b (numAt b k').2.1).2.1).2.1, acc ++ [⟨(numAt b k').1, (numAt b (numAt b k').2.1).1, (numAt b (numAt b (numAt b k').2.1).2.1).1⟩], A1, cap1), ⟨by dsimp only; omega, hp3.2, by simp [hlen], hno⟩, by dsimp only; omega, S.pk⟩
            · have hd : dotAt b k' = (⟨0, 0, 0⟩, (numAt b (numAt b (numAt b k').2.1).2.1).2.1, (numAt b (numAt b (numAt b k').2.1).2.1).2.2) := by unfold dotAt; rw [bindR_ok e1, bindR_ok e2, bindR_bad e3]
              rw [hd, bindR_bad' e3] at hno
              refine sg S (.lt (by omega) rfl rfl <| .z) fun a w S => wp_seq_k fun _ hK4 => st_then S (.t rfl) (wp_skip (then_normal (hK4 _ _ (wp_seq_k fun _ hK4 => wp_block (sg S (.yy (ys_ixS (j := 2) underlying149 sizeOf148 (.t rfl) (.t rfl) (fun _ => by omega)) rfl <| .ld gt148 2 rfl rfl rfl <| .as rfl <| .z) fun a w S => wp_seq_k fun _ hK5 => wp_region_lit (run S (.mv rfl <| .mv rfl <| .z) fun a w S => ?_))))))
              (refine st_m (op_callO S call57 (.cons (.t rfl) .nil) (c57 S.wd (by first | assumption | omega | (dsimp only; omega) | exact Sl.nil_ | exact .old S.wd (by assumption) | exact Sl.of_own S.wd (k := 0) rfl (fun _ => rfl) | exact Sl.of_own S.wd (k := 1) rfl (fun _ => rfl) | exact Sl.of_own S.wd (k := 2) rfl (fun _ => rfl) | exact Sl.of_own S.wd (k := 3) rfl (fun _ => rfl) | exact Sl.of_own S.wd (k := 4) rfl (fun _ => rfl) | (simp at *; omega)) (by first | assumption | omega | (dsimp only; omega) | exact Sl.nil_ | exact .old S.wd (by assumption) | exact Sl.of_own S.wd (k := 0) rfl (fun _ => rfl) | exact Sl.of_own S.wd (k := 1) rfl (fun _ => rfl) | exact Sl.of_own S.wd (k := 2) rfl (fun _ => rfl) | exact Sl.of_own S.wd (k := 3) rfl (fun _ => rfl) | exact Sl.of_own S.wd (k := 4) rfl (fun _ => rfl) | (simp at *; omega))) rfl ?_) <;> clear S a w)
              rintro _ _ ⟨rfl, rfl⟩ a w S
              refine run S (.mv rfl <| .ex rfl rfl <| .ex rfl rfl <| .yy (ys_nilc (.t rfl)) rfl <| .z) fun a w S => st_m (op_st S sizeOf3 (.t rfl) (.t rfl) (k := 3) rfl rfl (by simp) fun a w S => run S (.as rfl <| .z) fun a w S => st_nil (then_normal (hK5 _ _ (sg S (.mv rfl <| .yy (ys_T (by omega) (ys_neq (.t rfl) Ev.c)) rfl <| .z) fun a w S => st_then S (.t rfl) (sg S (.mv rfl <| .ac rfl <| .as rfl <| .z) fun a w S => wp_ret (in_ret (then_ret (then_ret (in_ret (then_ret (in_ret (then_ret (then_ret (in_ret (then_ret (st_ret S (results2 S results163 (Rv.tmp rfl) (Rv.tmp rfl)) ?_))))))))))))))))
              rw [hla, ← hno]
              exact ⟨_, _, rfl, (S.nil_ 58 3 Dot.enc none).wd.pk, none, 0, rfl, rfl⟩
          · have hd : dotAt b k' = (⟨0, 0, 0⟩, (numAt b (numAt b k').2.1).2.1, (numAt b (numAt b k').2.1).2.2) := by unfold dotAt; rw [bindR_ok e1, bindR_bad e2]
            rw [hd, bindR_bad' e2] at hno
            refine sg S (.lt (by omega) rfl rfl <| .z) fun a w S => wp_seq_k fun _ hK4 => st_then S (.t rfl) (wp_skip (then_normal (hK4 _ _ (wp_seq_k fun _ hK4 => wp_block (sg S (.yy (ys_ixS (j := 1) underlying149 sizeOf148 (.t rfl) (.t rfl) (fun _ => by omega)) rfl <| .ld gt148 2 rfl rfl rfl <| .as rfl <| .z) fun a w S => wp_seq_k fun _ hK5 => wp_region_lit (run S (.mv rfl <| .mv rfl <| .z) fun a w S => ?_))))))
            (refine st_m (op_callO S call57 (.cons (.t rfl) .nil) (c57 S.wd (by first | assumption | omega | (dsimp only; omega) | exact Sl.nil_ | exact .old S.wd (by assumption) | exact Sl.of_own S.wd (k := 0) rfl (fun _ => rfl) | exact Sl.of_own S.wd (k := 1) rfl (fun _ => rfl) | exact Sl.of_own S.wd (k := 2) rfl (fun _ => rfl) | exact Sl.of_own S.wd (k := 3) rfl (fun _ => rfl) | exact Sl.of_own S.wd (k := 4) rfl (fun _ => rfl) | (simp at *; omega)) (by first | assumption | omega | (dsimp only; omega) | exact Sl.nil_ | exact .old S.wd (by assumption) | exact Sl.of_own S.wd (k := 0) rfl (fun _ => rfl) | exact Sl.of_own S.wd (k := 1) rfl (fun _ => rfl) | exact Sl.of_own S.wd (k := 2) rfl (fun _ => rfl) | exact Sl.of_own S.wd (k := 3) rfl (fun _ => rfl) | exact Sl.of_own S.wd (k := 4) rfl (fun _ => rfl) | (simp at *; omega))) rfl ?_) <;> clear S a w)
            rintro _ _ ⟨rfl, rfl⟩ a w S
            refine run S (.mv rfl <| .ex rfl rfl <| .ex rfl rfl <| .yy (ys_nilc (.t rfl)) rfl <| .z) fun a w S => st_m (op_st S sizeOf3 (.t rfl) (.t rfl) (k := 3) rfl rfl (by simp) fun a w S => run S (.as rfl <| .z) fun a w S => st_nil (then_normal (hK5 _ _ (sg S (.mv rfl <| .yy (ys_T (by omega) (ys_neq (.t rfl) Ev.c)) rfl <| .z) fun a w S => st_then S (.t rfl) (sg S (.mv rfl <| .ac rfl <| .as rfl <| .z) fun a w S => wp_ret (in_ret (then_ret (then_ret (in_ret (then_ret (in_ret (then_ret (then_ret (in_ret (then_ret (st_ret S (results2 S results163 (Rv.tmp rfl) (Rv.tmp rfl)) ?_))))))))))))))))
            rw [hla, ← hno]
            exact ⟨_, _, rfl, (S.nil_ 58 3 Dot.enc none).wd.pk, none, 0, rfl, rfl⟩
        · refine st_rounds 4 (st_round ?_)
          have hd : dotAt b k' = (⟨0, 0, 0⟩, (numAt b k').2.1, (numAt b k').2.2) := by unfold dotAt; rw [bindR_bad e1]
          rw [hd, bindR_bad' e1] at hno
          refine sg S (.lt (by omega) rfl rfl <| .z) fun a w S => wp_seq_k fun _ hK4 => st_then S (.t rfl) (wp_skip (then_normal (hK4 _ _ (wp_seq_k fun _ hK4 => wp_block (sg S (.yy (ys_ixS (j := 0) underlying149 sizeOf148 (.t rfl) (.t rfl) (fun _ => by omega)) rfl <| .ld gt148 0 rfl rfl rfl <| .as rfl <| .z) fun a w S => wp_seq_k fun _ hK5 => wp_region_lit (run S (.mv rfl <| .mv rfl <| .z) fun a w S => ?_))))))
          (replace S := S.pull 4 rfl; try simp only [List.set_cons_zero, List.set_cons_succ, List.eraseIdx_cons_succ, List.eraseIdx_cons_zero] at S; replace S := S.pull 4 rfl; try simp only [List.set_cons_zero, List.set_cons_succ, List.eraseIdx_cons_succ, List.eraseIdx_cons_zero] at S; refine st_m (op_callO S call57 (.cons (.t rfl) .nil) (c57 S.wd (by first | assumption | omega | (dsimp only; omega) | exact Sl.nil_ | exact .old S.wd (by assumption) | exact Sl.of_own S.wd (k := 0) rfl (fun _ => rfl) | exact Sl.of_own S.wd (k := 1) rfl (fun _ => rfl) | exact Sl.of_own S.wd (k := 2) rfl (fun _ => rfl) | exact Sl.of_own S.wd (k := 3) rfl (fun _ => rfl) | exact Sl.of_own S.wd (k := 4) rfl (fun _ => rfl) | (simp at *; omega)) (by first | assumption | omega | (dsimp only; omega) | exact Sl.nil_ | exact .old S.wd (by assumption) | exact Sl.of_own S.wd (k := 0) rfl (fun _ => rfl) | exact Sl.of_own S.wd (k := 1) rfl (fun _ => rfl) | exact Sl.of_own S.wd (k := 2) rfl (fun _ => rfl) | exact Sl.of_own S.wd (k := 3) rfl (fun _ => rfl) | exact Sl.of_own S.wd (k := 4) rfl (fun _ => rfl) | (simp at *; omega))) rfl ?_) <;> clear S a w)
          rintro _ _ ⟨rfl, rfl⟩ a w S
          refine run S (.mv rfl <| .ex rfl rfl <| .ex rfl rfl <| .yy (ys_nilc (.t rfl)) rfl <| .z) fun a w S => st_m (op_st S sizeOf3 (.t rfl) (.t rfl) (k := 3) rfl rfl (by simp) fun a w S => run S (.as rfl <| .z) fun a w S => st_nil (then_normal (hK5 _ _ (sg S (.mv rfl <| .yy (ys_T (by omega) (ys_neq (.t rfl) Ev.c)) rfl <| .z) fun a w S => st_then S (.t rfl) (sg S (.mv rfl <| .ac rfl <| .as rfl <| .z) fun a w S => wp_ret (in_ret (then_ret (then_ret (in_ret (then_ret (in_ret (then_ret (then_ret (in_ret (then_ret (st_ret S (results2 S results163 (Rv.tmp rfl) (Rv.tmp rfl)) ?_))))))))))))))))
          rw [hla, ← hno]
          exact ⟨_, _, rfl, (S.nil_ 58 3 Dot.enc none).wd.pk, none, 0, rfl, rfl⟩
      · rw [show n - i = 0 by omega, dotsAt] at hno
        refine sg S (.ge (by omega) rfl rfl <| .z) fun a w S => wp_seq_k fun _ hK2 => st_else S (.t rfl) (wp_exit (then_exit (then_exit (in_here (then_normal (hK1 _ _ (sg S (.mv rfl <| .as rfl <| .ac rfl <| .z) fun a w S => wp_ret (st_ret S (results2 S results163 (Rv.tmp rfl) (Rv.tmp rfl)) ?_))))))))
        rw [hla, ← hno]
        exact ⟨_, _, rfl, S.wd.pk, D, cD, rfl, rfl⟩
  · unfold Go.Fw.RetsO
    refine enterW2 W func163 rfl ntmps163 rfl fun a S => sg S (.ac rfl <| .ac rfl <| .z) fun a w S => wp_seq_k fun _ hK1 => wp_region_lit (run S (.mv rfl <| .z) fun a w S => ?_)
    (refine st_m (op_callO S call57 (.cons (.t rfl) .nil) (c57 S.wd (by first | assumption | omega | (dsimp only; omega) | exact Sl.nil_ | exact .old S.wd (by assumption) | exact Sl.of_own S.wd (k := 0) rfl (fun _ => rfl) | exact Sl.of_own S.wd (k := 1) rfl (fun _ => rfl) | (simp at *; omega)) (by first | assumption | omega | (dsimp only; omega) | exact Sl.nil_ | exact .old S.wd (by assumption) | exact Sl.of_own S.wd (k := 0) rfl (fun _ => rfl) | exact Sl.of_own S.wd (k := 1) rfl (fun _ => rfl) | (simp at *; omega))) rfl ?_) <;> clear S a w)
    rintro _ _ ⟨rfl, rfl⟩ a w S
    refine run S (.mv rfl <| .ex rfl rfl <| .ex rfl rfl <| .as rfl <| .as rfl <| .z) fun a w S => st_nil (then_normal (hK1 _ _ (wp_seq_k fun _ hK1 => sg S (.mv rfl <| .yy (ys_T (by omega) (ys_neq (.t rfl) Ev.c)) rfl <| .z) fun a w S => st_then S (.t rfl) (sg S (.mv rfl <| .ac rfl <| .as rfl <| .z) fun a w S => wp_ret (then_ret (st_ret S (results2 S results163 (Rv.tmp rfl) (Rv.tmp rfl)) ?_))))))
    rw [show listAt b k = ([], (numAt b k).2.1, (numAt b k).2.2) by unfold listAt; rw [bindR_bad he]]
    exact ⟨_, _, rfl, (S.nil_ 58 3 Dot.enc none).wd.pk, none, 0, rfl, rfl⟩
theorem c119 {w0 w : World} {L : List Chunk} {g cap k : Nat} {A : Option Addr} {b : List UInt8} (W : Wd w0 (rdr g A cap b k L) w) (hk : k ≤ b.length) (hb : b.length ≤ 16777216) :
    RetsO Tryz.prog 119 #[.pointer (some ⟨g, 0, none⟩)] w0 w (fun v L' => ∃ B c B' c', v = .tuple #[.agg #[.slice B (ctxAt b k).1.marks.length c, .slice B' (ctxAt b k).1.cloud.length c'], .int .i64 (ctxAt b k).2.2] ∧ L' = rdr g A cap b (ctxAt b k).2.1 (rowOf 122 3 Dot.enc B c (ctxAt b k).1.marks :: rowOf 58 3 Dot.enc B' c' (ctxAt b k).1.cloud :: L)) := by
  have hp1 := listAt_le hk
  have hl1 := listAt_len b k
  by_cases e1 : (listAt b k).2.2 = 0
  · have hp2 := listAt_le hp1.2
    have hl2 := listAt_len b (listAt b k).2.1
    by_cases e2 : (listAt b (listAt b k).2.1).2.2 = 0
    · generalize hl : (listAt b k).1 = l at hl1
      generalize hm : (listAt b (listAt b k).2.1).1 = m at hl2
      have hc : ctxAt b k = if canL ⟨l, m⟩ then (⟨l, m⟩, (listAt b (listAt b k).2.1).2.1, 0) else (⟨[], []⟩, (listAt b (listAt b k).2.1).2.1, 30) := by unfold ctxAt; rw [bindR_ok e1, bindR_ok e2, hl, hm]
      have rw_l := hl
      have rw_m := hm
      unfold Go.Fw.RetsO
      refine enterW1 W func119 rfl ntmps119 rfl fun a S => wp_seq_k fun _ hK1 => wp_region_lit (st_m (op_alloc S zeroValue37 (cs := _) rfl rfl fun g1 a w S => run S (.ac rfl <| .z) fun a w S => st_nil (then_normal (hK1 _ _ (wp_seq_k fun _ hK1 => wp_region_lit (run S (.mv rfl <| .z) fun a w S => ?_))))))
      (replace S := S.pull 2 rfl; try simp only [List.set_cons_zero, List.set_cons_succ, List.eraseIdx_cons_succ, List.eraseIdx_cons_zero] at S; replace S := S.pull 2 rfl; try simp only [List.set_cons_zero, List.set_cons_succ, List.eraseIdx_cons_succ, List.eraseIdx_cons_zero] at S; refine st_m (op_callO S call163 (.cons (.t rfl) (.cons Ev.c .nil)) (c163 S.wd (by first | assumption | omega | (dsimp only; omega) | exact Sl.nil_ | exact .old S.wd (by assumption) | exact Sl.of_own S.wd (k := 0) rfl (fun _ => rfl) | exact Sl.of_own S.wd (k := 1) rfl (fun _ => rfl) | exact Sl.of_own S.wd (k := 2) rfl (fun _ => rfl) | (simp at *; omega)) (by first | assumption | omega | (dsimp only; omega) | exact Sl.nil_ | exact .old S.wd (by assumption) | exact Sl.of_own S.wd (k := 0) rfl (fun _ => rfl) | exact Sl.of_own S.wd (k := 1) rfl (fun _ => rfl) | exact Sl.of_own S.wd (k := 2) rfl (fun _ => rfl) | (simp at *; omega))) rfl ?_) <;> clear S a w)
      rintro _ _ ⟨B1, c1, rfl, rfl⟩ a w S
      rw [rw_l] at S
      refine run S (.mv rfl <| .ex rfl rfl <| .ex rfl rfl <| .as rfl <| .as rfl <| .z) fun a w S => st_nil (then_normal (hK1 _ _ (wp_seq_k fun _ hK1 => sg S (.mv rfl <| .yy (ys_F (by omega) (ys_neq (.t rfl) Ev.c)) rfl <| .z) fun a w S => st_else S (.t rfl) (wp_skip (then_normal (hK1 _ _ (wp_seq_k fun _ hK1 => wp_region_lit (run S (.mv rfl <| .z) fun a w S => ?_))))))))
      (refine st_m (op_callO S call163 (.cons (.t rfl) (.cons Ev.c .nil)) (c163 S.wd (by first | assumption | omega | (dsimp only; omega) | exact Sl.nil_ | exact .old S.wd (by assumption) | exact Sl.of_own S.wd (k := 0) rfl (fun _ => rfl) | exact Sl.of_own S.wd (k := 1) rfl (fun _ => rfl) | exact Sl.of_own S.wd (k := 2) rfl (fun _ => rfl) | exact Sl.of_own S.wd (k := 3) rfl (fun _ => rfl) | (simp at *; omega)) (by first | assumption | omega | (dsimp only; omega) | exact Sl.nil_ | exact .old S.wd (by assumption) | exact Sl.of_own S.wd (k := 0) rfl (fun _ => rfl) | exact Sl.of_own S.wd (k := 1) rfl (fun _ => rfl) | exact Sl.of_own S.wd (k := 2) rfl (fun _ => rfl) | exact Sl.of_own S.wd (k := 3) rfl (fun _ => rfl) | (simp at *; omega))) rfl ?_) <;> clear S a w)
      rintro _ _ ⟨B2, c2, rfl, rfl⟩ a w S
      rw [rw_m] at S
      refine run S (.mv rfl <| .ex rfl rfl <| .ex rfl rfl <| .as rfl <| .as rfl <| .z) fun a w S => st_nil (then_normal (hK1 _ _ (wp_seq_k fun _ hK1 => sg S (.mv rfl <| .yy (ys_F (by omega) (ys_neq (.t rfl) Ev.c)) rfl <| .z) fun a w S => st_else S (.t rfl) (wp_skip (then_normal (hK1 _ _ (wp_seq_k fun _ hK1 => wp_region_lit (run S (.mv rfl <| .yy (ys_bld (ps := [(1, Go.Operand.tmp 28)]) (us := [_, _]) bld37 (.cons (.t rfl) .nil) rfl) rfl <| .z) fun a w S => st_m (op_alloc S zeroValue37 (cs := _) rfl rfl fun g2 a w S => st_m (op_stW S sizeOf37 (.t rfl) (.t rfl) (k := 0) rfl rfl rfl (by simp [Value.oneCell']) fun a w S => st_nil (then_normal (hK1 _ _ (wp_seq_k fun _ hK1 => sg S (.mv rfl <| .ln underlying35 rfl <| .mc rfl <| .z) fun a w S => wp_block ?_)))))))))))))
      refine st_lpM (S.nil_ 122 3 Dot.enc none) [32] (X := Nat × Option Addr × Nat) (fun q => [(32, true, .int .i64 (q.1 : Int))])
        (fun q => rowOf 122 3 Dot.enc q.2.1 q.2.2 (l.take q.1) :: .blk g2 (.cells #[.slice q.2.1 (l.take q.1).length q.2.2, .slice B2 m.length c2] 37) :: rowOf 58 3 Dot.enc B1 c1 l :: rowOf 58 3 Dot.enc B2 c2 m :: .blk g1 (.cells #[.slice none 0 0, .slice none 0 0] 37) :: rdr g A cap b (listAt b (listAt b k).2.1).2.1 L)
        (fun q => q.1 ≤ l.length) (fun q => l.length - q.1) (0, none, 0) (Nat.zero_le _) ?_
      clear S
      intro ⟨i, D, cD⟩ a w hi S
      dsimp only at hi S
      by_cases hlt : i < l.length
      · obtain ⟨ga, rfl⟩ := S.wd.row_at (k := 2) rfl (by have := (S.wd.room (k := 2) rfl).1; omega)
        obtain ⟨x, hx⟩ : ∃ x, l[i]? = some x := ⟨l[i], by simp⟩
        have hlk : (l.take i).length ≤ 64 := by rw [List.length_take]; omega
        have et : l.take (i + 1) = l.take i ++ [x] := by rw [List.take_add_one, hx]; rfl
        refine sg S (.lt (by omega) rfl rfl <| .z) fun a w S => wp_seq_k fun _ hK2 => st_then S (.t rfl) (wp_skip (then_normal (hK2 _ _ (wp_seq_k fun _ hK2 => wp_block (wp_seq_k fun _ hK3 => wp_region_lit (run S (.ix underlying35 sizeOf58 (by omega) rfl rfl <| .yy (ys_ldWA ⟨isAgg58, sizeOf58⟩ (.t rfl) (k := 2) rfl hx (fun _ => rfl)) rfl <| .z) fun a w S => st_m (op_alloc S zeroValue58 (cs := _) rfl rfl fun g3 a w S => st_m (op_stW S sizeOf58 (.t rfl) (.t rfl) (k := 0) rfl rfl rfl (by simp [Value.oneCell']) fun a w S => st_nil (then_normal (hK3 _ _ (wp_region_lit (run S (.fa underlying37 sizeOf34 0 rfl rfl rfl <| .ld gt34 2 rfl rfl rfl <| .la gt58 0 rfl rfl rfl <| .z) fun a w S => st_m (op_bslice1 S underlying34 inf122 rfl rfl rfl (.t rfl) rfl rfl rfl fun g4 a w S => st_m (op_push S underlying34 inf122 rfl (k := 2) (j := 0) rfl (.t rfl) (.t rfl) rfl rfl rfl rfl (by first | omega | (simp only [List.length_append, List.length_cons, List.length_nil]; omega)) rfl rfl rfl fun A1 cap1 a w S => run S (.fa underlying37 sizeOf34 0 rfl rfl rfl <| .z) fun a w S => st_m (op_st S sizeOf34 (.t rfl) (.t rfl) (k := 3) rfl rfl (by simp) fun a w S => st_nil (in_normal (then_normal (hK2 _ _ (wp_region_lit (run S (.ad (by unfold I64; omega) rfl <| .mv rfl <| .z) fun a w S => st_nil (then_normal ?_)))))))))))))))))))))
        rw [← et] at S
        exact ⟨(i + 1, A1, cap1), by dsimp only; omega, by dsimp only; omega, S.pk⟩
      · have hend : i = l.length := by omega
        subst hend
        rw [List.take_length] at S
        cases hcn : canL ⟨l, m⟩ with
        | true =>
          have rw_c := hcn
          rw [hcn, if_pos rfl] at hc
          refine sg S (.ge (by omega) rfl rfl <| .z) fun a w S => wp_seq_k fun _ hK2 => st_else S (.t rfl) (wp_exit (then_exit (then_exit (in_here (then_normal (hK1 _ _ (wp_seq_k fun _ hK1 => wp_seq_k fun _ hK3 => wp_region_lit (run S (.la gt37 1 rfl rfl rfl <| .xx (ys_call call109 (.cons (.t rfl) .nil) (fun hp w W => c109 _ _ _ _ (by exact RdCtx.mk' (by exact Sl.of_own W (k := 0) rfl (fun _ => rfl)) (by exact Sl.of_own W (k := 3) rfl (fun _ => rfl))))) rfl <| .z) fun a w S => ?_))))))))
          rw [rw_c] at S
          refine run S (.nt rfl <| .z) fun a w S => st_nil (then_normal (hK3 _ _ (st_else S (.t rfl) (wp_skip (then_normal (hK1 _ _ (wp_seq_k fun _ hK1 => wp_region_lit (run S (.la gt37 1 rfl rfl rfl <| .z) fun a w S => st_m (op_stW S sizeOf37 (.t rfl) (.t rfl) (k := 4) rfl rfl rfl (by simp [Value.oneCell']) fun a w S => run S (.ac rfl <| .z) fun a w S => st_nil (then_normal (hK1 _ _ (wp_ret (st_ret S (results2 S results119 (Rv.cell (k := 4) ⟨isAgg37, sizeOf37⟩ rfl rfl rfl) (Rv.tmp rfl)) ?_)))))))))))))
          rw [hc]
          exact ⟨_, _, rfl, S.wd.pk, D, cD, B2, c2, rfl, rfl⟩
        | false =>
          have rw_c := hcn
          rw [hcn] at hc
          simp only [Bool.false_eq_true, if_false] at hc
          refine sg S (.ge (by omega) rfl rfl <| .z) fun a w S => wp_seq_k fun _ hK2 => st_else S (.t rfl) (wp_exit (then_exit (then_exit (in_here (then_normal (hK1 _ _ (wp_seq_k fun _ hK1 => wp_seq_k fun _ hK3 => wp_region_lit (run S (.la gt37 1 rfl rfl rfl <| .xx (ys_call call109 (.cons (.t rfl) .nil) (fun hp w W => c109 _ _ _ _ (by exact RdCtx.mk' (by exact Sl.of_own W (k := 0) rfl (fun _ => rfl)) (by exact Sl.of_own W (k := 3) rfl (fun _ => rfl))))) rfl <| .z) fun a w S => ?_))))))))
          rw [rw_c] at S
          refine run S (.nt rfl <| .z) fun a w S => st_nil (then_normal (hK3 _ _ (st_then S (.t rfl) (wp_seq_k fun _ hK3 => wp_region_lit (run S (.yy (ys_bld (ps := []) (us := [_, _]) bld37 .nil rfl) rfl <| .z) fun a w S => st_m (op_stW S sizeOf37 (.t rfl) (.t rfl) (k := 4) rfl rfl rfl (by simp [Value.oneCell']) fun a w S => run S (.ac rfl <| .z) fun a w S => st_nil (then_normal (hK3 _ _ (wp_ret (then_ret (st_ret S (results2 S results119 (Rv.cell (k := 4) ⟨isAgg37, sizeOf37⟩ rfl rfl rfl) (Rv.tmp rfl)) ?_)))))))))))
          rw [hc]
          exact ⟨_, _, rfl, ((S.nil_ 58 3 Dot.enc none).nil_ 122 3 Dot.enc none).wd.pk, none, 0, none, 0, rfl, rfl⟩
    · have hc : ctxAt b k = (⟨[], []⟩, (listAt b (listAt b k).2.1).2.1, (listAt b (listAt b k).2.1).2.2) := by unfold ctxAt; rw [bindR_ok e1, bindR_bad e2]
      unfold Go.Fw.RetsO
      refine enterW1 W func119 rfl ntmps119 rfl fun a S => wp_seq_k fun _ hK1 => wp_region_lit (st_m (op_alloc S zeroValue37 (cs := _) rfl rfl fun g1 a w S => run S (.ac rfl <| .z) fun a w S => st_nil (then_normal (hK1 _ _ (wp_seq_k fun _ hK1 => wp_region_lit (run S (.mv rfl <| .z) fun a w S => ?_))))))
      (replace S := S.pull 2 rfl; try simp only [List.set_cons_zero, List.set_cons_succ, List.eraseIdx_cons_succ, List.eraseIdx_cons_zero] at S; replace S := S.pull 2 rfl; try simp only [List.set_cons_zero, List.set_cons_succ, List.eraseIdx_cons_succ, List.eraseIdx_cons_zero] at S; refine st_m (op_callO S call163 (.cons (.t rfl) (.cons Ev.c .nil)) (c163 S.wd (by first | assumption | omega | (dsimp only; omega) | exact Sl.nil_ | exact .old S.wd (by assumption) | exact Sl.of_own S.wd (k := 0) rfl (fun _ => rfl) | exact Sl.of_own S.wd (k := 1) rfl (fun _ => rfl) | exact Sl.of_own S.wd (k := 2) rfl (fun _ => rfl) | (simp at *; omega)) (by first | assumption | omega | (dsimp only; omega) | exact Sl.nil_ | exact .old S.wd (by assumption) | exact Sl.of_own S.wd (k := 0) rfl (fun _ => rfl) | exact Sl.of_own S.wd (k := 1) rfl (fun _ => rfl) | exact Sl.of_own S.wd (k := 2) rfl (fun _ => rfl) | (simp at *; omega))) rfl ?_) <;> clear S a w)
      rintro _ _ ⟨B1, c1, rfl, rfl⟩ a w S
      refine run S (.mv rfl <| .ex rfl rfl <| .ex rfl rfl <| .as rfl <| .as rfl <| .z) fun a w S => st_nil (then_normal (hK1 _ _ (wp_seq_k fun _ hK1 => sg S (.mv rfl <| .yy (ys_F (by omega) (ys_neq (.t rfl) Ev.c)) rfl <| .z) fun a w S => st_else S (.t rfl) (wp_skip (then_normal (hK1 _ _ (wp_seq_k fun _ hK1 => wp_region_lit (run S (.mv rfl <| .z) fun a w S => ?_))))))))
      (refine st_m (op_callO S call163 (.cons (.t rfl) (.cons Ev.c .nil)) (c163 S.wd (by first | assumption | omega | (dsimp only; omega) | exact Sl.nil_ | exact .old S.wd (by assumption) | exact Sl.of_own S.wd (k := 0) rfl (fun _ => rfl) | exact Sl.of_own S.wd (k := 1) rfl (fun _ => rfl) | exact Sl.of_own S.wd (k := 2) rfl (fun _ => rfl) | exact Sl.of_own S.wd (k := 3) rfl (fun _ => rfl) | (simp at *; omega)) (by first | assumption | omega | (dsimp only; omega) | exact Sl.nil_ | exact .old S.wd (by assumption) | exact Sl.of_own S.wd (k := 0) rfl (fun _ => rfl) | exact Sl.of_own S.wd (k := 1) rfl (fun _ => rfl) | exact Sl.of_own S.wd (k := 2) rfl (fun _ => rfl) | exact Sl.of_own S.wd (k := 3) rfl (fun _ => rfl) | (simp at *; omega))) rfl ?_) <;> clear S a w)
      rintro _ _ ⟨B2, c2, rfl, rfl⟩ a w S
      refine run S (.mv rfl <| .ex rfl rfl <| .ex rfl rfl <| .as rfl <| .as rfl <| .z) fun a w S => st_nil (then_normal (hK1 _ _ (wp_seq_k fun _ hK1 => sg S (.mv rfl <| .yy (ys_T (by omega) (ys_neq (.t rfl) Ev.c)) rfl <| .z) fun a w S => st_then S (.t rfl) (wp_seq_k fun _ hK2 => wp_region_lit (run S (.yy (ys_bld (ps := []) (us := [_, _]) bld37 .nil rfl) rfl <| .mv rfl <| .z) fun a w S => st_m (op_stW S sizeOf37 (.t rfl) (.t rfl) (k := 4) rfl rfl rfl (by simp [Value.oneCell']) fun a w S => run S (.as rfl <| .z) fun a w S => st_nil (then_normal (hK2 _ _ (wp_ret (then_ret (st_ret S (results2 S results119 (Rv.cell (k := 4) ⟨isAgg37, sizeOf37⟩ rfl rfl rfl) (Rv.tmp rfl)) ?_)))))))))))
      rw [hc]
      exact ⟨_, _, rfl, ((S.nil_ 58 3 Dot.enc none).nil_ 122 3 Dot.enc none).wd.pk, none, 0, none, 0, rfl, rfl⟩
  · have hc : ctxAt b k = (⟨[], []⟩, (listAt b k).2.1, (listAt b k).2.2) := by unfold ctxAt; rw [bindR_bad e1]
    unfold Go.Fw.RetsO
    refine enterW1 W func119 rfl ntmps119 rfl fun a S => wp_seq_k fun _ hK1 => wp_region_lit (st_m (op_alloc S zeroValue37 (cs := _) rfl rfl fun g1 a w S => run S (.ac rfl <| .z) fun a w S => st_nil (then_normal (hK1 _ _ (wp_seq_k fun _ hK1 => wp_region_lit (run S (.mv rfl <| .z) fun a w S => ?_))))))
    (replace S := S.pull 2 rfl; try simp only [List.set_cons_zero, List.set_cons_succ, List.eraseIdx_cons_succ, List.eraseIdx_cons_zero] at S; replace S := S.pull 2 rfl; try simp only [List.set_cons_zero, List.set_cons_succ, List.eraseIdx_cons_succ, List.eraseIdx_cons_zero] at S; refine st_m (op_callO S call163 (.cons (.t rfl) (.cons Ev.c .nil)) (c163 S.wd (by first | assumption | omega | (dsimp only; omega) | exact Sl.nil_ | exact .old S.wd (by assumption) | exact Sl.of_own S.wd (k := 0) rfl (fun _ => rfl) | exact Sl.of_own S.wd (k := 1) rfl (fun _ => rfl) | exact Sl.of_own S.wd (k := 2) rfl (fun _ => rfl) | (simp at *; omega)) (by first | assumption | omega | (dsimp only; omega) | exact Sl.nil_ | exact .old S.wd (by assumption) | exact Sl.of_own S.wd (k := 0) rfl (fun _ => rfl) | exact Sl.of_own S.wd (k := 1) rfl (fun _ => rfl) | exact Sl.of_own S.wd (k := 2) rfl (fun _ => rfl) | (simp at *; omega))) rfl ?_) <;> clear S a w)
    rintro _ _ ⟨B1, c1, rfl, rfl⟩ a w S
    refine run S (.mv rfl <| .ex rfl rfl <| .ex rfl rfl <| .as rfl <| .as rfl <| .z) fun a w S => st_nil (then_normal (hK1 _ _ (wp_seq_k fun _ hK1 => sg S (.mv rfl <| .yy (ys_T (by omega) (ys_neq (.t rfl) Ev.c)) rfl <| .z) fun a w S => st_then S (.t rfl) (wp_seq_k fun _ hK2 => wp_region_lit (run S (.yy (ys_bld (ps := []) (us := [_, _]) bld37 .nil rfl) rfl <| .mv rfl <| .z) fun a w S => st_m (op_stW S sizeOf37 (.t rfl) (.t rfl) (k := 3) rfl rfl rfl (by simp [Value.oneCell']) fun a w S => run S (.as rfl <| .z) fun a w S => st_nil (then_normal (hK2 _ _ (wp_ret (then_ret (st_ret S (results2 S results119 (Rv.cell (k := 3) ⟨isAgg37, sizeOf37⟩ rfl rfl rfl) (Rv.tmp rfl)) ?_)))))))))))
    rw [hc]
    exact ⟨_, _, rfl, ((S.nil_ 58 3 Dot.enc none).nil_ 122 3 Dot.enc none).wd.pk, none, 0, none, 0, rfl, rfl⟩
theorem c59 {w0 w : World} {L : List Chunk} {g cap k : Nat} {A : Option Addr} {b : List UInt8} (W : Wd w0 (rdr g A cap b k L) w) (hk : k ≤ b.length) (hb : b.length ≤ 16777216) :
    RetsO Tryz.prog 59 #[.pointer (some ⟨g, 0, none⟩)] w0 w (fun v L' => ∃ B c B' c', v = .tuple #[.agg #[.slice B (decAt b k).1.marks.length c, .slice B' (decAt b k).1.cloud.length c'], .int .i64 (decAt b k).2.2] ∧ L' = rdr g A cap b (decAt b k).2.1 (rowOf 122 3 Dot.enc B c (decAt b k).1.marks :: rowOf 58 3 Dot.enc B' c' (decAt b k).1.cloud :: L)) := by
  by_cases e : (ctxAt b k).2.2 = 0
  · have hc : decAt b k = ctxAt b k := by unfold decAt; rw [if_pos e]
    unfold Go.Fw.RetsO
    refine enterW1 W func59 rfl ntmps59 rfl fun a S => wp_seq_k fun _ hK1 => wp_region_lit (st_m (op_alloc S zeroValue37 (cs := _) rfl rfl fun g1 a w S => run S (.ac rfl <| .z) fun a w S => st_nil (then_normal (hK1 _ _ (wp_seq_k fun _ hK1 => sg S (.mv rfl <| .yy (ys_pNilS underlying92 (.t rfl) Ev.c) rfl <| .z) fun a w S => st_else S (.t rfl) (wp_skip (then_normal (hK1 _ _ (wp_seq_k fun _ hK1 => wp_region_lit (run S (.mv rfl <| .yy (ys_nilc (.t rfl)) rfl <| .la gt144 1 rfl rfl rfl <| .z) fun a w S => st_m (op_alloc S zeroValue144 (cs := _) rfl rfl fun g2 a w S => st_m (op_stW S sizeOf144 (.t rfl) (.t rfl) (k := 0) rfl rfl rfl (by simp [Value.oneCell']) fun a w S => st_nil (then_normal (hK1 _ _ (wp_seq_k fun _ hK1 => wp_region_lit (run S (.mv rfl <| .z) fun a w S => ?_))))))))))))))))
    (replace S := S.pull 3 rfl; try simp only [List.set_cons_zero, List.set_cons_succ, List.eraseIdx_cons_succ, List.eraseIdx_cons_zero] at S; replace S := S.pull 3 rfl; try simp only [List.set_cons_zero, List.set_cons_succ, List.eraseIdx_cons_succ, List.eraseIdx_cons_zero] at S; refine st_m (op_callO S call119 (.cons (.t rfl) .nil) (c119 S.wd (by first | assumption | omega | (dsimp only; omega) | exact Sl.nil_ | exact .old S.wd (by assumption) | exact Sl.of_own S.wd (k := 0) rfl (fun _ => rfl) | exact Sl.of_own S.wd (k := 1) rfl (fun _ => rfl) | exact Sl.of_own S.wd (k := 2) rfl (fun _ => rfl) | exact Sl.of_own S.wd (k := 3) rfl (fun _ => rfl) | (simp at *; omega)) (by first | assumption | omega | (dsimp only; omega) | exact Sl.nil_ | exact .old S.wd (by assumption) | exact Sl.of_own S.wd (k := 0) rfl (fun _ => rfl) | exact Sl.of_own S.wd (k := 1) rfl (fun _ => rfl) | exact Sl.of_own S.wd (k := 2) rfl (fun _ => rfl) | exact Sl.of_own S.wd (k := 3) rfl (fun _ => rfl) | (simp at *; omega))) rfl ?_) <;> clear S a w)
    rintro _ _ ⟨B1, c1, B'1, c'1, rfl, rfl⟩ a w S
    refine run S (.mv rfl <| .ex rfl rfl <| .ex rfl rfl <| .z) fun a w S => st_m (op_alloc S zeroValue37 (cs := _) rfl rfl fun g3 a w S => st_m (op_stW S sizeOf37 (.t rfl) (.t rfl) (k := 0) rfl rfl rfl (by simp [Value.oneCell']) fun a w S => run S (.as rfl <| .z) fun a w S => st_nil (then_normal (hK1 _ _ (wp_seq_k fun _ hK1 => sg S (.mv rfl <| .yy (ys_F (by omega) (ys_neq (.t rfl) Ev.c)) rfl <| .z) fun a w S => st_else S (.t rfl) (wp_skip (then_normal (hK1 _ _ (wp_seq_k fun _ hK1 => wp_region_lit (run S (.la gt37 0 rfl rfl rfl <| .z) fun a w S => st_m (op_stW S sizeOf37 (.t rfl) (.t rfl) (k := 6) rfl rfl rfl (by simp [Value.oneCell']) fun a w S => run S (.ac rfl <| .z) fun a w S => st_nil (then_normal (hK1 _ _ (wp_ret (st_ret S (results2 S results59 (Rv.cell (k := 6) ⟨isAgg37, sizeOf37⟩ rfl rfl rfl) (Rv.tmp rfl)) ?_)))))))))))))))
    rw [hc, e]
    exact ⟨_, _, rfl, S.wd.pk, _, _, _, _, rfl, rfl⟩
  · have hc : decAt b k = (⟨[], []⟩, k, (ctxAt b k).2.2) := by unfold decAt; rw [if_neg e]
    unfold Go.Fw.RetsO
    refine enterW1 W func59 rfl ntmps59 rfl fun a S => wp_seq_k fun _ hK1 => wp_region_lit (st_m (op_alloc S zeroValue37 (cs := _) rfl rfl fun g1 a w S => run S (.ac rfl <| .z) fun a w S => st_nil (then_normal (hK1 _ _ (wp_seq_k fun _ hK1 => sg S (.mv rfl <| .yy (ys_pNilS underlying92 (.t rfl) Ev.c) rfl <| .z) fun a w S => st_else S (.t rfl) (wp_skip (then_normal (hK1 _ _ (wp_seq_k fun _ hK1 => wp_region_lit (run S (.mv rfl <| .yy (ys_nilc (.t rfl)) rfl <| .la gt144 1 rfl rfl rfl <| .z) fun a w S => st_m (op_alloc S zeroValue144 (cs := _) rfl rfl fun g2 a w S => st_m (op_stW S sizeOf144 (.t rfl) (.t rfl) (k := 0) rfl rfl rfl (by simp [Value.oneCell']) fun a w S => st_nil (then_normal (hK1 _ _ (wp_seq_k fun _ hK1 => wp_region_lit (run S (.mv rfl <| .z) fun a w S => ?_))))))))))))))))
    (replace S := S.pull 3 rfl; try simp only [List.set_cons_zero, List.set_cons_succ, List.eraseIdx_cons_succ, List.eraseIdx_cons_zero] at S; replace S := S.pull 3 rfl; try simp only [List.set_cons_zero, List.set_cons_succ, List.eraseIdx_cons_succ, List.eraseIdx_cons_zero] at S; refine st_m (op_callO S call119 (.cons (.t rfl) .nil) (c119 S.wd (by first | assumption | omega | (dsimp only; omega) | exact Sl.nil_ | exact .old S.wd (by assumption) | exact Sl.of_own S.wd (k := 0) rfl (fun _ => rfl) | exact Sl.of_own S.wd (k := 1) rfl (fun _ => rfl) | exact Sl.of_own S.wd (k := 2) rfl (fun _ => rfl) | exact Sl.of_own S.wd (k := 3) rfl (fun _ => rfl) | (simp at *; omega)) (by first | assumption | omega | (dsimp only; omega) | exact Sl.nil_ | exact .old S.wd (by assumption) | exact Sl.of_own S.wd (k := 0) rfl (fun _ => rfl) | exact Sl.of_own S.wd (k := 1) rfl (fun _ => rfl) | exact Sl.of_own S.wd (k := 2) rfl (fun _ => rfl) | exact Sl.of_own S.wd (k := 3) rfl (fun _ => rfl) | (simp at *; omega))) rfl ?_) <;> clear S a w)
    rintro _ _ ⟨B1, c1, B'1, c'1, rfl, rfl⟩ a w S
    refine run S (.mv rfl <| .ex rfl rfl <| .ex rfl rfl <| .z) fun a w S => st_m (op_alloc S zeroValue37 (cs := _) rfl rfl fun g3 a w S => st_m (op_stW S sizeOf37 (.t rfl) (.t rfl) (k := 0) rfl rfl rfl (by simp [Value.oneCell']) fun a w S => run S (.as rfl <| .z) fun a w S => st_nil (then_normal (hK1 _ _ (wp_seq_k fun _ hK1 => sg S (.mv rfl <| .yy (ys_T (by omega) (ys_neq (.t rfl) Ev.c)) rfl <| .z) fun a w S => st_then S (.t rfl) (wp_seq_k fun _ hK2 => wp_region_lit (run S (.mv rfl <| .la gt144 5 rfl rfl rfl <| .yy (ys_nilc (.t rfl)) rfl <| .z) fun a w S => st_m (op_stW S sizeOf144 (.t rfl) (.t rfl) (k := 1) rfl rfl rfl (by simp [Value.oneCell']) fun a w S => st_nil (then_normal (hK2 _ _ (wp_seq_k fun _ hK2 => wp_region_lit (run S (.yy (ys_bld (ps := []) (us := [_, _]) bld37 .nil rfl) rfl <| .mv rfl <| .z) fun a w S => st_m (op_stW S sizeOf37 (.t rfl) (.t rfl) (k := 6) rfl rfl rfl (by simp [Value.oneCell']) fun a w S => run S (.as rfl <| .z) fun a w S => st_nil (then_normal (hK2 _ _ (wp_ret (then_ret (st_ret S (results2 S results59 (Rv.cell (k := 6) ⟨isAgg37, sizeOf37⟩ rfl rfl rfl) (Rv.tmp rfl)) ?_))))))))))))))))))
    rw [hc]
    exact ⟨_, _, rfl, ((S.nil_ 58 3 Dot.enc none).nil_ 122 3 Dot.enc none).wd.pk, none, 0, none, 0, rfl, rfl⟩
end Go.Proofs.YtfblmkocmnbdcaaGreat
set_option linter.unusedVariables false
set_option linter.unusedSimpArgs false
set_option maxRecDepth 100000
set_option maxHeartbeats 4000000
namespace Go.Fw
theorem wrap_u64n {n : Nat} (h : n < 18446744073709551616) : IntKind.u64.wrap (n : Int) = (n : Int) := by
  simp only [IntKind.wrap, IntKind.signed, IntKind.bits]
  simp
  omega
theorem pow_le8 {y i : Nat} (hy : y < 256) (hi : i < 8) : y * 256 ^ i < 18446744073709551616 := by
  have h1 : 256 ^ i ≤ 256 ^ 7 := Nat.pow_le_pow_right (by omega) (by omega)
  have h2 : y * 256 ^ i ≤ 255 * 256 ^ 7 := Nat.mul_le_mul (by omega) h1
  have h3 : 255 * 256 ^ 7 < 18446744073709551616 := by decide
  omega
theorem pow_28 (i : Nat) : (2 : Int) ^ (8 * i) = ((256 ^ i : Nat) : Int) := by
  rw [Int.pow_mul]; simp
theorem shl_le {y i : Nat} (hy : y < 256) (hi : i < 8) : IntKind.u64.wrap ((y : Int) * 2 ^ (8 * i)) = ((y * 256 ^ i : Nat) : Int) := by
  rw [pow_28, ← Int.natCast_mul]
  exact wrap_u64n (pow_le8 hy hi)
theorem or_le {m y i : Nat} (hm : m < 256 ^ i) (hy : y < 256) (hi : i < 8) : orK .u64 (m : Int) ((y * 256 ^ i : Nat) : Int) = ((m + y * 256 ^ i : Nat) : Int) := by
  have h1 := pow_le8 hy hi
  have h2 : 256 ^ i ≤ 256 ^ 7 := Nat.pow_le_pow_right (by omega) (by omega)
  have h3 : (256 : Nat) ^ 7 < 18446744073709551616 := by decide
  have e : m ||| y * 256 ^ i = m + y * 256 ^ i := by
    have hp : (256 : Nat) ^ i = 2 ^ (8 * i) := by rw [Nat.pow_mul]
    rw [hp] at hm ⊢
    have := Nat.shiftLeft_add_eq_or_of_lt (a := y) hm
    rw [Nat.shiftLeft_eq] at this
    rw [Nat.or_comm, ← this, Nat.add_comm]
  have h4 : m + y * 256 ^ i < 18446744073709551616 := by
    have h5 : (y + 1) * 256 ^ i ≤ 256 * 256 ^ 7 := Nat.mul_le_mul (by omega) h2
    have h6 : (256 : Nat) * 256 ^ 7 = 18446744073709551616 := by decide
    rw [Nat.add_mul, Nat.one_mul] at h5
    omega
  unfold orK
  rw [ofInt_nat, ofInt_nat, BitVec.toNat_or, BitVec.toNat_ofNat, BitVec.toNat_ofNat, show IntKind.u64.bits = 64 from rfl, Nat.mod_eq_of_lt (by omega), Nat.mod_eq_of_lt (by omega), e]
  exact wrap_u64n h4
end Go.Fw
namespace Go.Proofs.YtfblmkocmnbdcaaGreat
open Go.Fw Go.Proofs Go.RowKit Go.Proofs.Tryz
def EntRd (b : List UInt8) (k : Nat) (x : Ent) (k' : Nat) : Prop := k' ≤ b.length ∧ ((entAt b k).2.2 = 0 → x = (entAt b k).1 ∧ k' = (entAt b k).2.1)
theorem c58 {w0 w : World} {L : List Chunk} {g cap k : Nat} {A : Option Addr} {b : List UInt8} (W : Wd w0 (rdr g A cap b k L) w) (hk : k ≤ b.length) (hb : b.length ≤ 16777216) :
    RetsO Tryz.prog 58 #[.pointer (some ⟨g, 0, none⟩)] w0 w (fun v L' => ∃ x k', v = .tuple #[.agg (Ent.enc x).toArray, .int .i64 (entAt b k).2.2] ∧ L' = rdr g A cap b k' L ∧ EntRd b k x k') := by
  have t1 := textR_le (most := 32) hk
  obtain ⟨s, k1, e, hT⟩ : ∃ s k1 e, textR b k 32 = (s, k1, e) := ⟨_, _, _, rfl⟩
  have rw_T1 : (textR b k 32).1 = s := by rw [hT]
  have rw_T2 : (textR b k 32).2.1 = k1 := by rw [hT]
  have rw_T3 : (textR b k 32).2.2 = e := by rw [hT]
  rw [rw_T2] at t1
  by_cases e0 : e = 0
  rotate_left
  · have rw_d : decide (e ≠ 0) = true := decide_eq_true e0
    unfold Go.Fw.RetsO
    refine enterW1 W Tryz.func58 rfl Tryz.ntmps58 rfl fun a S => ?_
    refine wp_seq_k fun _ hK1 => ?_
    refine wp_region_lit ?_
    (refine st_m (op_alloc S Tryz.zeroValue71 (cs := _) rfl rfl ?_); clear S a; intro g1 a w S)
    (refine st_y S (Yr.ys (ys_assign Ev.c)) rfl ?_; clear S a w; intro a w S)
    refine st_nil ?_
    (refine (then_normal (hK1 _ _ ?_)); clear hK1)
    refine wp_seq_k fun _ hK1 => ?_
    refine wp_region_lit ?_
    (refine st_m (op_alloc S Tryz.zeroValue71 (cs := _) rfl rfl ?_); clear S a w; intro g2 a w S)
    refine st_nil ?_
    (refine (then_normal (hK1 _ _ ?_)); clear hK1)
    refine wp_seq_k fun _ hK1 => ?_
    refine wp_region_lit ?_
    (refine st_y S (Yr.ys (ys_move (Ev.t rfl))) rfl ?_; clear S a w; intro a w S)
    (replace S := S.pull 3 rfl; try simp only [List.set_cons_zero, List.set_cons_succ, List.eraseIdx_cons_succ, List.eraseIdx_cons_zero] at S; replace S := S.pull 3 rfl; try simp only [List.set_cons_zero, List.set_cons_succ, List.eraseIdx_cons_succ, List.eraseIdx_cons_zero] at S; refine st_m (op_callO S Tryz.call117 (EvL.cons (Ev.t rfl) (EvL.cons Ev.c EvL.nil)) (c117 S.wd (by first | assumption | omega | (dsimp only; omega) | exact Sl.nil_ | exact .old S.wd (by assumption) | exact Sl.of_own S.wd (k := 0) rfl (fun _ => rfl) | exact Sl.of_own S.wd (k := 1) rfl (fun _ => rfl) | exact Sl.of_own S.wd (k := 2) rfl (fun _ => rfl) | exact Sl.of_own S.wd (k := 3) rfl (fun _ => rfl) | (simp at *; omega)) (by first | assumption | omega | (dsimp only; omega) | exact Sl.nil_ | exact .old S.wd (by assumption) | exact Sl.of_own S.wd (k := 0) rfl (fun _ => rfl) | exact Sl.of_own S.wd (k := 1) rfl (fun _ => rfl) | exact Sl.of_own S.wd (k := 2) rfl (fun _ => rfl) | exact Sl.of_own S.wd (k := 3) rfl (fun _ => rfl) | (simp at *; omega))) rfl ?_) <;> clear S a w)
    rintro _ _ ⟨rfl, rfl⟩ a w S
    rw [rw_T1] at S
    rw [rw_T2] at S
    rw [rw_T3] at S
    (refine st_y S (Yr.ys (ys_move (Ev.t rfl))) rfl ?_; clear S a w; intro a w S)
    (refine st_y S (Yr.ys (ys_ext (Ev.t rfl) rfl)) rfl ?_; clear S a w; intro a w S)
    (refine st_y S (Yr.ys (ys_ext (Ev.t rfl) rfl)) rfl ?_; clear S a w; intro a w S)
    (refine st_y S (Yr.ys (ys_assign (Ev.t rfl))) rfl ?_; clear S a w; intro a w S)
    (refine st_y S (Yr.ys (ys_assign (Ev.t rfl))) rfl ?_; clear S a w; intro a w S)
    refine st_nil ?_
    (refine (then_normal (hK1 _ _ ?_)); clear hK1)
    refine wp_seq_k fun _ hK1 => ?_
    refine wp_seq_k fun _ hK2 => ?_
    refine wp_region_lit ?_
    (refine st_y S (Yr.ys (ys_move (Ev.t rfl))) rfl ?_; clear S a w; intro a w S)
    (refine st_y S (Yr.ys (ys_T (by omega) (ys_neq (Ev.t rfl) Ev.c))) rfl ?_; clear S a w; intro a w S)
    refine st_nil ?_
    (refine (then_normal (hK2 _ _ ?_)); clear hK2)
    refine st_then S (Ev.t rfl) ?_
    refine wp_seq_k fun _ hK2 => ?_
    refine wp_region_lit ?_
    (refine st_y S (Yr.ys (ys_ldA ⟨Tryz.isAgg71, Tryz.sizeOf71⟩ (Ev.t rfl) (k := 2) rfl rfl)) rfl ?_; clear S a w; intro a w S)
    (refine st_y S (Yr.ys (ys_move (Ev.t rfl))) rfl ?_; clear S a w; intro a w S)
    (refine st_m (op_stW S Tryz.sizeOf71 (Ev.t rfl) (Ev.t rfl) (k := 3) rfl rfl rfl (by simp [Value.oneCell']) ?_); clear S a w; intro a w S)
    (refine st_y S (Yr.ys (ys_assign (Ev.t rfl))) rfl ?_; clear S a w; intro a w S)
    refine st_nil ?_
    (refine (then_normal (hK2 _ _ ?_)); clear hK2)
    refine wp_ret ?_
    refine (then_ret ?_)
    refine st_ret S (results2 S Tryz.results58 (Rv.cell (k := 3) ⟨Tryz.isAgg71, Tryz.sizeOf71⟩ rfl rfl rfl) (Rv.tmp rfl)) ?_
    refine ⟨_, _, rfl, S.wd.picks (L' := rdr g A cap b k1 L) (by repeat (first | exact Picks.nil | (refine Picks.rest ?_; (repeat (first | exact List.Sublist.refl _ | refine List.Sublist.cons_cons _ ?_ | refine List.Sublist.cons _ ?_)); done) | refine Picks.take 0 rfl ?_ | refine Picks.take 1 rfl ?_ | refine Picks.take 2 rfl ?_ | refine Picks.take 3 rfl ?_ | refine Picks.take 4 rfl ?_ | refine Picks.take 5 rfl ?_ | refine Picks.take 6 rfl ?_ | refine Picks.take 7 rfl ?_ | refine Picks.take 8 rfl ?_ | refine Picks.take 9 rfl ?_ | refine Picks.take 10 rfl ?_ | refine Picks.take 11 rfl ?_)), ⟨[], ⟨0, 0, 0⟩, 0, 0⟩, k1, ?_, rfl, t1.2, fun h => absurd h ?_⟩
    · unfold entAt; rw [bindR_bad (by rw [rw_T3]; exact e0), rw_T3]; rfl
    · unfold entAt; rw [bindR_bad (by rw [rw_T3]; exact e0), rw_T3]; exact e0
  subst e0
  obtain ⟨x1, k2, e1, hN1⟩ : ∃ x k e, numAt b k1 = (x, k, e) := ⟨_, _, _, rfl⟩
  have t2 := numAt_le (b := b) (k := k1) (by omega)
  have rw_N1a : (numAt b k1).1 = x1 := by rw [hN1]
  have rw_N1b : (numAt b k1).2.1 = k2 := by rw [hN1]
  have rw_N1c : (numAt b k1).2.2 = e1 := by rw [hN1]
  rw [rw_N1b] at t2
  have he1 : e1 ≠ 0 → (entAt b k).2.2 = e1 := fun h => by
    unfold entAt
    rw [hT, bindR_ok rfl]
    dsimp only
    rw [hN1, bindR_bad (by exact h)]
  by_cases h1 : e1 = 0
  rotate_left
  · have rw_d : decide (e1 ≠ 0) = true := decide_eq_true h1
    unfold Go.Fw.RetsO
    refine enterW1 W Tryz.func58 rfl Tryz.ntmps58 rfl fun a S => ?_
    refine wp_seq_k fun _ hK1 => ?_
    refine wp_region_lit ?_
    (refine st_m (op_alloc S Tryz.zeroValue71 (cs := _) rfl rfl ?_); clear S a; intro g1 a w S)
    (refine st_y S (Yr.ys (ys_assign Ev.c)) rfl ?_; clear S a w; intro a w S)
    refine st_nil ?_
    (refine (then_normal (hK1 _ _ ?_)); clear hK1)
    refine wp_seq_k fun _ hK1 => ?_
    refine wp_region_lit ?_
    (refine st_m (op_alloc S Tryz.zeroValue71 (cs := _) rfl rfl ?_); clear S a w; intro g2 a w S)
    refine st_nil ?_
    (refine (then_normal (hK1 _ _ ?_)); clear hK1)
    refine wp_seq_k fun _ hK1 => ?_
    refine wp_region_lit ?_
    (refine st_y S (Yr.ys (ys_move (Ev.t rfl))) rfl ?_; clear S a w; intro a w S)
    (replace S := S.pull 3 rfl; try simp only [List.set_cons_zero, List.set_cons_succ, List.eraseIdx_cons_succ, List.eraseIdx_cons_zero] at S; replace S := S.pull 3 rfl; try simp only [List.set_cons_zero, List.set_cons_succ, List.eraseIdx_cons_succ, List.eraseIdx_cons_zero] at S; refine st_m (op_callO S Tryz.call117 (EvL.cons (Ev.t rfl) (EvL.cons Ev.c EvL.nil)) (c117 S.wd (by first | assumption | omega | (dsimp only; omega) | exact Sl.nil_ | exact .old S.wd (by assumption) | exact Sl.of_own S.wd (k := 0) rfl (fun _ => rfl) | exact Sl.of_own S.wd (k := 1) rfl (fun _ => rfl) | exact Sl.of_own S.wd (k := 2) rfl (fun _ => rfl) | exact Sl.of_own S.wd (k := 3) rfl (fun _ => rfl) | (simp at *; omega)) (by first | assumption | omega | (dsimp only; omega) | exact Sl.nil_ | exact .old S.wd (by assumption) | exact Sl.of_own S.wd (k := 0) rfl (fun _ => rfl) | exact Sl.of_own S.wd (k := 1) rfl (fun _ => rfl) | exact Sl.of_own S.wd (k := 2) rfl (fun _ => rfl) | exact Sl.of_own S.wd (k := 3) rfl (fun _ => rfl) | (simp at *; omega))) rfl ?_) <;> clear S a w)
    rintro _ _ ⟨rfl, rfl⟩ a w S
    rw [rw_T1] at S
    rw [rw_T2] at S
    rw [rw_T3] at S
    (refine st_y S (Yr.ys (ys_move (Ev.t rfl))) rfl ?_; clear S a w; intro a w S)
    (refine st_y S (Yr.ys (ys_ext (Ev.t rfl) rfl)) rfl ?_; clear S a w; intro a w S)
    (refine st_y S (Yr.ys (ys_ext (Ev.t rfl) rfl)) rfl ?_; clear S a w; intro a w S)
    (refine st_y S (Yr.ys (ys_assign (Ev.t rfl))) rfl ?_; clear S a w; intro a w S)
    (refine st_y S (Yr.ys (ys_assign (Ev.t rfl))) rfl ?_; clear S a w; intro a w S)
    refine st_nil ?_
    (refine (then_normal (hK1 _ _ ?_)); clear hK1)
    refine wp_seq_k fun _ hK1 => ?_
    refine wp_seq_k fun _ hK2 => ?_
    refine wp_region_lit ?_
    (refine st_y S (Yr.ys (ys_move (Ev.t rfl))) rfl ?_; clear S a w; intro a w S)
    (refine st_y S (Yr.ys (ys_F (by omega) (ys_neq (Ev.t rfl) Ev.c))) rfl ?_; clear S a w; intro a w S)
    refine st_nil ?_
    (refine (then_normal (hK2 _ _ ?_)); clear hK2)
    refine st_else S (Ev.t rfl) ?_
    refine wp_skip ?_
    (refine (then_normal (hK1 _ _ ?_)); clear hK1)
    refine wp_seq_k fun _ hK1 => ?_
    refine wp_region_lit ?_
    (refine st_y S (Yr.ys (ys_move (Ev.t rfl))) rfl ?_; clear S a w; intro a w S)
    (refine st_y S (Yr.ys (ys_fieldN (FieldT.mk Tryz.underlying71 rfl Tryz.sizeOf9 rfl) (Ev.t rfl) (i' := 0) rfl)) rfl ?_; clear S a w; intro a w S)
    (refine st_m (op_st S Tryz.sizeOf9 (Ev.t rfl) (Ev.t rfl) (k := 2) rfl rfl (by simp) ?_); clear S a w; intro a w S)
    refine st_nil ?_
    (refine (then_normal (hK1 _ _ ?_)); clear hK1)
    refine wp_seq_k fun _ hK1 => ?_
    refine wp_seq_k fun _ hK2 => ?_
    refine wp_region_lit ?_
    (refine st_y S (Yr.ys (ys_fieldN (FieldT.mk Tryz.underlying71 rfl Tryz.sizeOf58 rfl) (Ev.t rfl) (i' := 1) rfl)) rfl ?_; clear S a w; intro a w S)
    (refine st_y S (Yr.ys (ys_fieldN (FieldT.mk Tryz.underlying58 rfl Tryz.sizeOf3 rfl) (Ev.t rfl) (i' := 1) rfl)) rfl ?_; clear S a w; intro a w S)
    (refine st_y S (Yr.ys (ys_fieldN (FieldT.mk Tryz.underlying71 rfl Tryz.sizeOf58 rfl) (Ev.t rfl) (i' := 1) rfl)) rfl ?_; clear S a w; intro a w S)
    (refine st_y S (Yr.ys (ys_fieldN (FieldT.mk Tryz.underlying58 rfl Tryz.sizeOf3 rfl) (Ev.t rfl) (i' := 2) rfl)) rfl ?_; clear S a w; intro a w S)
    (refine st_y S (Yr.ys (ys_fieldN (FieldT.mk Tryz.underlying71 rfl Tryz.sizeOf58 rfl) (Ev.t rfl) (i' := 1) rfl)) rfl ?_; clear S a w; intro a w S)
    (refine st_y S (Yr.ys (ys_fieldN (FieldT.mk Tryz.underlying58 rfl Tryz.sizeOf3 rfl) (Ev.t rfl) (i' := 3) rfl)) rfl ?_; clear S a w; intro a w S)
    (refine st_y S (Yr.ys (ys_fieldN (FieldT.mk Tryz.underlying71 rfl Tryz.sizeOf3 rfl) (Ev.t rfl) (i' := 4) rfl)) rfl ?_; clear S a w; intro a w S)
    (refine st_m (op_bsliceZ (ps := [(0, Go.Operand.tmp 24), (1, Go.Operand.tmp 26), (2, Go.Operand.tmp 28), (3, Go.Operand.tmp 29)]) (us := [_, _, _, _]) S Tryz.underlying149 Tryz.sizeOf148 Tryz.zeroValue148 rfl rfl (EvL.cons (Ev.t rfl) (EvL.cons (Ev.t rfl) (EvL.cons (Ev.t rfl) (EvL.cons (Ev.t rfl) EvL.nil)))) rfl rfl ?_); clear S a w; intro g3 a w S)
    (refine st_y S (Yr.ys (ys_lenS Tryz.underlying149 (Ev.t rfl))) rfl ?_; clear S a w; intro a w S)
    (refine st_y S (Yr.ys (ys_move Ev.c)) rfl ?_; clear S a w; intro a w S)
    refine st_nil ?_
    (refine (then_normal (hK2 _ _ ?_)); clear hK2)
    refine wp_block ?_
    refine st_rounds 5 (st_round ?_)
    refine wp_seq_k fun _ hK2 => ?_
    refine wp_region_lit ?_
    (refine st_y S (Yr.ys (ys_T (by omega) (ys_lss (Ev.t rfl) (Ev.t rfl)))) rfl ?_; clear S a w; intro a w S)
    refine st_nil ?_
    (refine (then_normal (hK2 _ _ ?_)); clear hK2)
    refine wp_seq_k fun _ hK2 => ?_
    refine st_then S (Ev.t rfl) ?_
    refine wp_skip ?_
    (refine (then_normal (hK2 _ _ ?_)); clear hK2)
    refine wp_seq_k fun _ hK2 => ?_
    refine wp_block ?_
    refine wp_seq_k fun _ hK3 => ?_
    refine wp_region_lit ?_
    (refine st_y S (Yr.ys (ys_ixS (j := 0) Tryz.underlying149 Tryz.sizeOf148 (Ev.t rfl) (Ev.t rfl) (fun _ => by omega))) rfl ?_; clear S a w; intro a w S)
    (refine st_y S (Yr.ys (ys_ld ⟨Tryz.isAgg148, Tryz.sizeOf148⟩ (Ev.t rfl) (k := 0) rfl rfl)) rfl ?_; clear S a w; intro a w S)
    (refine st_y S (Yr.ys (ys_assign (Ev.t rfl))) rfl ?_; clear S a w; intro a w S)
    refine st_nil ?_
    (refine (then_normal (hK3 _ _ ?_)); clear hK3)
    refine wp_seq_k fun _ hK3 => ?_
    refine wp_region_lit ?_
    (refine st_y S (Yr.ys (ys_move (Ev.t rfl))) rfl ?_; clear S a w; intro a w S)
    (refine st_y S (Yr.ys (ys_move (Ev.t rfl))) rfl ?_; clear S a w; intro a w S)
    (replace S := S.pull 2 rfl; try simp only [List.set_cons_zero, List.set_cons_succ, List.eraseIdx_cons_succ, List.eraseIdx_cons_zero] at S; replace S := S.pull 2 rfl; try simp only [List.set_cons_zero, List.set_cons_succ, List.eraseIdx_cons_succ, List.eraseIdx_cons_zero] at S; refine st_m (op_callO S Tryz.call57 (EvL.cons (Ev.t rfl) EvL.nil) (c57 S.wd (by first | assumption | omega | (dsimp only; omega) | exact Sl.nil_ | exact .old S.wd (by assumption) | exact Sl.of_own S.wd (k := 0) rfl (fun _ => rfl) | exact Sl.of_own S.wd (k := 1) rfl (fun _ => rfl) | exact Sl.of_own S.wd (k := 2) rfl (fun _ => rfl) | exact Sl.of_own S.wd (k := 3) rfl (fun _ => rfl) | exact Sl.of_own S.wd (k := 4) rfl (fun _ => rfl) | (simp at *; omega)) (by first | assumption | omega | (dsimp only; omega) | exact Sl.nil_ | exact .old S.wd (by assumption) | exact Sl.of_own S.wd (k := 0) rfl (fun _ => rfl) | exact Sl.of_own S.wd (k := 1) rfl (fun _ => rfl) | exact Sl.of_own S.wd (k := 2) rfl (fun _ => rfl) | exact Sl.of_own S.wd (k := 3) rfl (fun _ => rfl) | exact Sl.of_own S.wd (k := 4) rfl (fun _ => rfl) | (simp at *; omega))) rfl ?_) <;> clear S a w)
    rintro _ _ ⟨rfl, rfl⟩ a w S
    rw [rw_N1a] at S
    rw [rw_N1b] at S
    rw [rw_N1c] at S
    (refine st_y S (Yr.ys (ys_move (Ev.t rfl))) rfl ?_; clear S a w; intro a w S)
    (refine st_y S (Yr.ys (ys_ext (Ev.t rfl) rfl)) rfl ?_; clear S a w; intro a w S)
    (refine st_y S (Yr.ys (ys_ext (Ev.t rfl) rfl)) rfl ?_; clear S a w; intro a w S)
    (refine st_y S (Yr.ys (ys_nilc (Ev.t rfl))) rfl ?_; clear S a w; intro a w S)
    (refine st_m (op_st S Tryz.sizeOf3 (Ev.t rfl) (Ev.t rfl) (k := 3) rfl rfl (by simp) ?_); clear S a w; intro a w S)
    (refine st_y S (Yr.ys (ys_assign (Ev.t rfl))) rfl ?_; clear S a w; intro a w S)
    refine st_nil ?_
    (refine (then_normal (hK3 _ _ ?_)); clear hK3)
    refine wp_seq_k fun _ hK3 => ?_
    refine wp_region_lit ?_
    (refine st_y S (Yr.ys (ys_move (Ev.t rfl))) rfl ?_; clear S a w; intro a w S)
    (refine st_y S (Yr.ys (ys_T (by omega) (ys_neq (Ev.t rfl) Ev.c))) rfl ?_; clear S a w; intro a w S)
    refine st_nil ?_
    (refine (then_normal (hK3 _ _ ?_)); clear hK3)
    refine st_then S (Ev.t rfl) ?_
    refine wp_seq_k fun _ hK3 => ?_
    refine wp_region_lit ?_
    (refine st_y S (Yr.ys (ys_ldA ⟨Tryz.isAgg71, Tryz.sizeOf71⟩ (Ev.t rfl) (k := 3) rfl rfl)) rfl ?_; clear S a w; intro a w S)
    (refine st_y S (Yr.ys (ys_move (Ev.t rfl))) rfl ?_; clear S a w; intro a w S)
    (refine st_m (op_stW S Tryz.sizeOf71 (Ev.t rfl) (Ev.t rfl) (k := 4) rfl rfl rfl (by simp [Value.oneCell']) ?_); clear S a w; intro a w S)
    (refine st_y S (Yr.ys (ys_assign (Ev.t rfl))) rfl ?_; clear S a w; intro a w S)
    refine st_nil ?_
    (refine (then_normal (hK3 _ _ ?_)); clear hK3)
    refine wp_ret ?_
    refine (in_ret (then_ret (then_ret (in_ret (then_ret ?_)))))
    refine st_ret S (results2 S Tryz.results58 (Rv.cell (k := 4) ⟨Tryz.isAgg71, Tryz.sizeOf71⟩ rfl rfl rfl) (Rv.tmp rfl)) ?_
    exact ⟨_, _, rfl, S.wd.picks (L' := rdr g A cap b k2 L) (by repeat (first | exact Picks.nil | (refine Picks.rest ?_; (repeat (first | exact List.Sublist.refl _ | refine List.Sublist.cons_cons _ ?_ | refine List.Sublist.cons _ ?_)); done) | refine Picks.take 0 rfl ?_ | refine Picks.take 1 rfl ?_ | refine Picks.take 2 rfl ?_ | refine Picks.take 3 rfl ?_ | refine Picks.take 4 rfl ?_ | refine Picks.take 5 rfl ?_ | refine Picks.take 6 rfl ?_ | refine Picks.take 7 rfl ?_ | refine Picks.take 8 rfl ?_ | refine Picks.take 9 rfl ?_ | refine Picks.take 10 rfl ?_ | refine Picks.take 11 rfl ?_)), ⟨s, ⟨x1, 0, 0⟩, 0, 0⟩, k2, by rw [he1 h1]; rfl, rfl, by omega, fun h => absurd ((he1 h1).symm.trans h) h1⟩
  subst h1
  unfold Go.Fw.RetsO
  refine enterW1 W Tryz.func58 rfl Tryz.ntmps58 rfl fun a S => ?_
  refine wp_seq_k fun _ hK1 => ?_
  refine wp_region_lit ?_
  (refine st_m (op_alloc S Tryz.zeroValue71 (cs := _) rfl rfl ?_); clear S a; intro g1 a w S)
  (refine st_y S (Yr.ys (ys_assign Ev.c)) rfl ?_; clear S a w; intro a w S)
  refine st_nil ?_
  (refine (then_normal (hK1 _ _ ?_)); clear hK1)
  refine wp_seq_k fun _ hK1 => ?_
  refine wp_region_lit ?_
  (refine st_m (op_alloc S Tryz.zeroValue71 (cs := _) rfl rfl ?_); clear S a w; intro g2 a w S)
  refine st_nil ?_
  (refine (then_normal (hK1 _ _ ?_)); clear hK1)
  refine wp_seq_k fun _ hK1 => ?_
  refine wp_region_lit ?_
  (refine st_y S (Yr.ys (ys_move (Ev.t rfl))) rfl ?_; clear S a w; intro a w S)
  (replace S := S.pull 3 rfl; try simp only [List.set_cons_zero, List.set_cons_succ, List.eraseIdx_cons_succ, List.eraseIdx_cons_zero] at S; replace S := S.pull 3 rfl; try simp only [List.set_cons_zero, List.set_cons_succ, List.eraseIdx_cons_succ, List.eraseIdx_cons_zero] at S; refine st_m (op_callO S Tryz.call117 (EvL.cons (Ev.t rfl) (EvL.cons Ev.c EvL.nil)) (c117 S.wd (by first | assumption | omega | (dsimp only; omega) | exact Sl.nil_ | exact .old S.wd (by assumption) | exact Sl.of_own S.wd (k := 0) rfl (fun _ => rfl) | exact Sl.of_own S.wd (k := 1) rfl (fun _ => rfl) | exact Sl.of_own S.wd (k := 2) rfl (fun _ => rfl) | exact Sl.of_own S.wd (k := 3) rfl (fun _ => rfl) | (simp at *; omega)) (by first | assumption | omega | (dsimp only; omega) | exact Sl.nil_ | exact .old S.wd (by assumption) | exact Sl.of_own S.wd (k := 0) rfl (fun _ => rfl) | exact Sl.of_own S.wd (k := 1) rfl (fun _ => rfl) | exact Sl.of_own S.wd (k := 2) rfl (fun _ => rfl) | exact Sl.of_own S.wd (k := 3) rfl (fun _ => rfl) | (simp at *; omega))) rfl ?_) <;> clear S a w)
  rintro _ _ ⟨rfl, rfl⟩ a w S
  rw [rw_T1] at S
  rw [rw_T2] at S
  rw [rw_T3] at S
  (refine st_y S (Yr.ys (ys_move (Ev.t rfl))) rfl ?_; clear S a w; intro a w S)
  (refine st_y S (Yr.ys (ys_ext (Ev.t rfl) rfl)) rfl ?_; clear S a w; intro a w S)
  (refine st_y S (Yr.ys (ys_ext (Ev.t rfl) rfl)) rfl ?_; clear S a w; intro a w S)
  (refine st_y S (Yr.ys (ys_assign (Ev.t rfl))) rfl ?_; clear S a w; intro a w S)
  (refine st_y S (Yr.ys (ys_assign (Ev.t rfl))) rfl ?_; clear S a w; intro a w S)
  refine st_nil ?_
  (refine (then_normal (hK1 _ _ ?_)); clear hK1)
  refine wp_seq_k fun _ hK1 => ?_
  refine wp_seq_k fun _ hK2 => ?_
  refine wp_region_lit ?_
  (refine st_y S (Yr.ys (ys_move (Ev.t rfl))) rfl ?_; clear S a w; intro a w S)
  (refine st_y S (Yr.ys (ys_F (by omega) (ys_neq (Ev.t rfl) Ev.c))) rfl ?_; clear S a w; intro a w S)
  refine st_nil ?_
  (refine (then_normal (hK2 _ _ ?_)); clear hK2)
  refine st_else S (Ev.t rfl) ?_
  refine wp_skip ?_
  (refine (then_normal (hK1 _ _ ?_)); clear hK1)
  refine wp_seq_k fun _ hK1 => ?_
  refine wp_region_lit ?_
  (refine st_y S (Yr.ys (ys_move (Ev.t rfl))) rfl ?_; clear S a w; intro a w S)
  (refine st_y S (Yr.ys (ys_fieldN (FieldT.mk Tryz.underlying71 rfl Tryz.sizeOf9 rfl) (Ev.t rfl) (i' := 0) rfl)) rfl ?_; clear S a w; intro a w S)
  (refine st_m (op_st S Tryz.sizeOf9 (Ev.t rfl) (Ev.t rfl) (k := 2) rfl rfl (by simp) ?_); clear S a w; intro a w S)
  refine st_nil ?_
  (refine (then_normal (hK1 _ _ ?_)); clear hK1)
  refine wp_seq_k fun _ hK1 => ?_
  refine wp_seq_k fun _ hK2 => ?_
  refine wp_region_lit ?_
  (refine st_y S (Yr.ys (ys_fieldN (FieldT.mk Tryz.underlying71 rfl Tryz.sizeOf58 rfl) (Ev.t rfl) (i' := 1) rfl)) rfl ?_; clear S a w; intro a w S)
  (refine st_y S (Yr.ys (ys_fieldN (FieldT.mk Tryz.underlying58 rfl Tryz.sizeOf3 rfl) (Ev.t rfl) (i' := 1) rfl)) rfl ?_; clear S a w; intro a w S)
  (refine st_y S (Yr.ys (ys_fieldN (FieldT.mk Tryz.underlying71 rfl Tryz.sizeOf58 rfl) (Ev.t rfl) (i' := 1) rfl)) rfl ?_; clear S a w; intro a w S)
  (refine st_y S (Yr.ys (ys_fieldN (FieldT.mk Tryz.underlying58 rfl Tryz.sizeOf3 rfl) (Ev.t rfl) (i' := 2) rfl)) rfl ?_; clear S a w; intro a w S)
  (refine st_y S (Yr.ys (ys_fieldN (FieldT.mk Tryz.underlying71 rfl Tryz.sizeOf58 rfl) (Ev.t rfl) (i' := 1) rfl)) rfl ?_; clear S a w; intro a w S)
  (refine st_y S (Yr.ys (ys_fieldN (FieldT.mk Tryz.underlying58 rfl Tryz.sizeOf3 rfl) (Ev.t rfl) (i' := 3) rfl)) rfl ?_; clear S a w; intro a w S)
  (refine st_y S (Yr.ys (ys_fieldN (FieldT.mk Tryz.underlying71 rfl Tryz.sizeOf3 rfl) (Ev.t rfl) (i' := 4) rfl)) rfl ?_; clear S a w; intro a w S)
  (refine st_m (op_bsliceZ (ps := [(0, Go.Operand.tmp 24), (1, Go.Operand.tmp 26), (2, Go.Operand.tmp 28), (3, Go.Operand.tmp 29)]) (us := [_, _, _, _]) S Tryz.underlying149 Tryz.sizeOf148 Tryz.zeroValue148 rfl rfl (EvL.cons (Ev.t rfl) (EvL.cons (Ev.t rfl) (EvL.cons (Ev.t rfl) (EvL.cons (Ev.t rfl) EvL.nil)))) rfl rfl ?_); clear S a w; intro g3 a w S)
  (refine st_y S (Yr.ys (ys_lenS Tryz.underlying149 (Ev.t rfl))) rfl ?_; clear S a w; intro a w S)
  (refine st_y S (Yr.ys (ys_move Ev.c)) rfl ?_; clear S a w; intro a w S)
  refine st_nil ?_
  (refine (then_normal (hK2 _ _ ?_)); clear hK2)
  refine wp_block ?_
  refine st_rounds 5 (st_round ?_)
  refine wp_seq_k fun _ hK2 => ?_
  refine wp_region_lit ?_
  (refine st_y S (Yr.ys (ys_T (by omega) (ys_lss (Ev.t rfl) (Ev.t rfl)))) rfl ?_; clear S a w; intro a w S)
  refine st_nil ?_
  (refine (then_normal (hK2 _ _ ?_)); clear hK2)
  refine wp_seq_k fun _ hK2 => ?_
  refine st_then S (Ev.t rfl) ?_
  refine wp_skip ?_
  (refine (then_normal (hK2 _ _ ?_)); clear hK2)
  refine wp_seq_k fun _ hK2 => ?_
  refine wp_block ?_
  refine wp_seq_k fun _ hK3 => ?_
  refine wp_region_lit ?_
  (refine st_y S (Yr.ys (ys_ixS (j := 0) Tryz.underlying149 Tryz.sizeOf148 (Ev.t rfl) (Ev.t rfl) (fun _ => by omega))) rfl ?_; clear S a w; intro a w S)
  (refine st_y S (Yr.ys (ys_ld ⟨Tryz.isAgg148, Tryz.sizeOf148⟩ (Ev.t rfl) (k := 0) rfl rfl)) rfl ?_; clear S a w; intro a w S)
  (refine st_y S (Yr.ys (ys_assign (Ev.t rfl))) rfl ?_; clear S a w; intro a w S)
  refine st_nil ?_
  (refine (then_normal (hK3 _ _ ?_)); clear hK3)
  refine wp_seq_k fun _ hK3 => ?_
  refine wp_region_lit ?_
  (refine st_y S (Yr.ys (ys_move (Ev.t rfl))) rfl ?_; clear S a w; intro a w S)
  (refine st_y S (Yr.ys (ys_move (Ev.t rfl))) rfl ?_; clear S a w; intro a w S)
  (replace S := S.pull 2 rfl; try simp only [List.set_cons_zero, List.set_cons_succ, List.eraseIdx_cons_succ, List.eraseIdx_cons_zero] at S; replace S := S.pull 2 rfl; try simp only [List.set_cons_zero, List.set_cons_succ, List.eraseIdx_cons_succ, List.eraseIdx_cons_zero] at S; refine st_m (op_callO S Tryz.call57 (EvL.cons (Ev.t rfl) EvL.nil) (c57 S.wd (by first | assumption | omega | (dsimp only; omega) | exact Sl.nil_ | exact .old S.wd (by assumption) | exact Sl.of_own S.wd (k := 0) rfl (fun _ => rfl) | exact Sl.of_own S.wd (k := 1) rfl (fun _ => rfl) | exact Sl.of_own S.wd (k := 2) rfl (fun _ => rfl) | exact Sl.of_own S.wd (k := 3) rfl (fun _ => rfl) | exact Sl.of_own S.wd (k := 4) rfl (fun _ => rfl) | (simp at *; omega)) (by first | assumption | omega | (dsimp only; omega) | exact Sl.nil_ | exact .old S.wd (by assumption) | exact Sl.of_own S.wd (k := 0) rfl (fun _ => rfl) | exact Sl.of_own S.wd (k := 1) rfl (fun _ => rfl) | exact Sl.of_own S.wd (k := 2) rfl (fun _ => rfl) | exact Sl.of_own S.wd (k := 3) rfl (fun _ => rfl) | exact Sl.of_own S.wd (k := 4) rfl (fun _ => rfl) | (simp at *; omega))) rfl ?_) <;> clear S a w)
  rintro _ _ ⟨rfl, rfl⟩ a w S
  rw [rw_N1a] at S
  rw [rw_N1b] at S
  rw [rw_N1c] at S
  (refine st_y S (Yr.ys (ys_move (Ev.t rfl))) rfl ?_; clear S a w; intro a w S)
  (refine st_y S (Yr.ys (ys_ext (Ev.t rfl) rfl)) rfl ?_; clear S a w; intro a w S)
  (refine st_y S (Yr.ys (ys_ext (Ev.t rfl) rfl)) rfl ?_; clear S a w; intro a w S)
  (refine st_y S (Yr.ys (ys_nilc (Ev.t rfl))) rfl ?_; clear S a w; intro a w S)
  (refine st_m (op_st S Tryz.sizeOf3 (Ev.t rfl) (Ev.t rfl) (k := 3) rfl rfl (by simp) ?_); clear S a w; intro a w S)
  (refine st_y S (Yr.ys (ys_assign (Ev.t rfl))) rfl ?_; clear S a w; intro a w S)
  refine st_nil ?_
  (refine (then_normal (hK3 _ _ ?_)); clear hK3)
  refine wp_seq_k fun _ hK3 => ?_
  refine wp_region_lit ?_
  (refine st_y S (Yr.ys (ys_move (Ev.t rfl))) rfl ?_; clear S a w; intro a w S)
  (refine st_y S (Yr.ys (ys_F (by omega) (ys_neq (Ev.t rfl) Ev.c))) rfl ?_; clear S a w; intro a w S)
  refine st_nil ?_
  (refine (then_normal (hK3 _ _ ?_)); clear hK3)
  refine st_else S (Ev.t rfl) ?_
  refine wp_skip ?_
  (refine (in_normal (then_normal (hK2 _ _ ?_))); clear hK2)
  refine wp_region_lit ?_
  (refine st_y S (Yr.ys (ys_addI (Ev.t rfl) Ev.c (fun _ => by unfold I64; omega))) rfl ?_; clear S a w; intro a w S)
  (refine st_y S (Yr.ys (ys_move (Ev.t rfl))) rfl ?_; clear S a w; intro a w S)
  refine st_nil ?_
  refine (then_normal ?_)
  obtain ⟨x2, k3, e2, hN2⟩ : ∃ x k e, numAt b k2 = (x, k, e) := ⟨_, _, _, rfl⟩
  have t3 := numAt_le (b := b) (k := k2) (by omega)
  have rw_N2a : (numAt b k2).1 = x2 := by rw [hN2]
  have rw_N2b : (numAt b k2).2.1 = k3 := by rw [hN2]
  have rw_N2c : (numAt b k2).2.2 = e2 := by rw [hN2]
  rw [rw_N2b] at t3
  have he2 : e2 ≠ 0 → (entAt b k).2.2 = e2 := fun h => by
    unfold entAt
    rw [hT, bindR_ok rfl]
    dsimp only
    rw [hN1, bindR_ok rfl]
    dsimp only
    rw [hN2, bindR_bad (by exact h)]
  by_cases h2 : e2 = 0
  rotate_left
  · have rw_d : decide (e2 ≠ 0) = true := decide_eq_true h2
    refine st_round ?_
    refine wp_seq_k fun _ hK2 => ?_
    refine wp_region_lit ?_
    (refine st_y S (Yr.ys (ys_T (by omega) (ys_lss (Ev.t rfl) (Ev.t rfl)))) rfl ?_; clear S a w; intro a w S)
    refine st_nil ?_
    (refine (then_normal (hK2 _ _ ?_)); clear hK2)
    refine wp_seq_k fun _ hK2 => ?_
    refine st_then S (Ev.t rfl) ?_
    refine wp_skip ?_
    (refine (then_normal (hK2 _ _ ?_)); clear hK2)
    refine wp_seq_k fun _ hK2 => ?_
    refine wp_block ?_
    refine wp_seq_k fun _ hK3 => ?_
    refine wp_region_lit ?_
    (refine st_y S (Yr.ys (ys_ixS (j := 1) Tryz.underlying149 Tryz.sizeOf148 (Ev.t rfl) (Ev.t rfl) (fun _ => by omega))) rfl ?_; clear S a w; intro a w S)
    (refine st_y S (Yr.ys (ys_ld ⟨Tryz.isAgg148, Tryz.sizeOf148⟩ (Ev.t rfl) (k := 2) rfl rfl)) rfl ?_; clear S a w; intro a w S)
    (refine st_y S (Yr.ys (ys_assign (Ev.t rfl))) rfl ?_; clear S a w; intro a w S)
    refine st_nil ?_
    (refine (then_normal (hK3 _ _ ?_)); clear hK3)
    refine wp_seq_k fun _ hK3 => ?_
    refine wp_region_lit ?_
    (refine st_y S (Yr.ys (ys_move (Ev.t rfl))) rfl ?_; clear S a w; intro a w S)
    (refine st_y S (Yr.ys (ys_move (Ev.t rfl))) rfl ?_; clear S a w; intro a w S)
    (refine st_m (op_callO S Tryz.call57 (EvL.cons (Ev.t rfl) EvL.nil) (c57 S.wd (by first | assumption | omega | (dsimp only; omega) | exact Sl.nil_ | exact .old S.wd (by assumption) | exact Sl.of_own S.wd (k := 0) rfl (fun _ => rfl) | exact Sl.of_own S.wd (k := 1) rfl (fun _ => rfl) | exact Sl.of_own S.wd (k := 2) rfl (fun _ => rfl) | exact Sl.of_own S.wd (k := 3) rfl (fun _ => rfl) | exact Sl.of_own S.wd (k := 4) rfl (fun _ => rfl) | (simp at *; omega)) (by first | assumption | omega | (dsimp only; omega) | exact Sl.nil_ | exact .old S.wd (by assumption) | exact Sl.of_own S.wd (k := 0) rfl (fun _ => rfl) | exact Sl.of_own S.wd (k := 1) rfl (fun _ => rfl) | exact Sl.of_own S.wd (k := 2) rfl (fun _ => rfl) | exact Sl.of_own S.wd (k := 3) rfl (fun _ => rfl) | exact Sl.of_own S.wd (k := 4) rfl (fun _ => rfl) | (simp at *; omega))) rfl ?_) <;> clear S a w)
    rintro _ _ ⟨rfl, rfl⟩ a w S
    rw [rw_N2a] at S
    rw [rw_N2b] at S
    rw [rw_N2c] at S
    (refine st_y S (Yr.ys (ys_move (Ev.t rfl))) rfl ?_; clear S a w; intro a w S)
    (refine st_y S (Yr.ys (ys_ext (Ev.t rfl) rfl)) rfl ?_; clear S a w; intro a w S)
    (refine st_y S (Yr.ys (ys_ext (Ev.t rfl) rfl)) rfl ?_; clear S a w; intro a w S)
    (refine st_y S (Yr.ys (ys_nilc (Ev.t rfl))) rfl ?_; clear S a w; intro a w S)
    (refine st_m (op_st S Tryz.sizeOf3 (Ev.t rfl) (Ev.t rfl) (k := 3) rfl rfl (by simp) ?_); clear S a w; intro a w S)
    (refine st_y S (Yr.ys (ys_assign (Ev.t rfl))) rfl ?_; clear S a w; intro a w S)
    refine st_nil ?_
    (refine (then_normal (hK3 _ _ ?_)); clear hK3)
    refine wp_seq_k fun _ hK3 => ?_
    refine wp_region_lit ?_
    (refine st_y S (Yr.ys (ys_move (Ev.t rfl))) rfl ?_; clear S a w; intro a w S)
    (refine st_y S (Yr.ys (ys_T (by omega) (ys_neq (Ev.t rfl) Ev.c))) rfl ?_; clear S a w; intro a w S)
    refine st_nil ?_
    (refine (then_normal (hK3 _ _ ?_)); clear hK3)
    refine st_then S (Ev.t rfl) ?_
    refine wp_seq_k fun _ hK3 => ?_
    refine wp_region_lit ?_
    (refine st_y S (Yr.ys (ys_ldA ⟨Tryz.isAgg71, Tryz.sizeOf71⟩ (Ev.t rfl) (k := 3) rfl rfl)) rfl ?_; clear S a w; intro a w S)
    (refine st_y S (Yr.ys (ys_move (Ev.t rfl))) rfl ?_; clear S a w; intro a w S)
    (refine st_m (op_stW S Tryz.sizeOf71 (Ev.t rfl) (Ev.t rfl) (k := 4) rfl rfl rfl (by simp [Value.oneCell']) ?_); clear S a w; intro a w S)
    (refine st_y S (Yr.ys (ys_assign (Ev.t rfl))) rfl ?_; clear S a w; intro a w S)
    refine st_nil ?_
    (refine (then_normal (hK3 _ _ ?_)); clear hK3)
    refine wp_ret ?_
    refine (in_ret (then_ret (then_ret (in_ret (then_ret ?_)))))
    refine st_ret S (results2 S Tryz.results58 (Rv.cell (k := 4) ⟨Tryz.isAgg71, Tryz.sizeOf71⟩ rfl rfl rfl) (Rv.tmp rfl)) ?_
    exact ⟨_, _, rfl, S.wd.picks (L' := rdr g A cap b k3 L) (by repeat (first | exact Picks.nil | (refine Picks.rest ?_; (repeat (first | exact List.Sublist.refl _ | refine List.Sublist.cons_cons _ ?_ | refine List.Sublist.cons _ ?_)); done) | refine Picks.take 0 rfl ?_ | refine Picks.take 1 rfl ?_ | refine Picks.take 2 rfl ?_ | refine Picks.take 3 rfl ?_ | refine Picks.take 4 rfl ?_ | refine Picks.take 5 rfl ?_ | refine Picks.take 6 rfl ?_ | refine Picks.take 7 rfl ?_ | refine Picks.take 8 rfl ?_ | refine Picks.take 9 rfl ?_ | refine Picks.take 10 rfl ?_ | refine Picks.take 11 rfl ?_)), ⟨s, ⟨x1, x2, 0⟩, 0, 0⟩, k3, by rw [he2 h2]; rfl, rfl, by omega, fun h => absurd ((he2 h2).symm.trans h) h2⟩
  subst h2
  refine st_round ?_
  refine wp_seq_k fun _ hK2 => ?_
  refine wp_region_lit ?_
  (refine st_y S (Yr.ys (ys_T (by omega) (ys_lss (Ev.t rfl) (Ev.t rfl)))) rfl ?_; clear S a w; intro a w S)
  refine st_nil ?_
  (refine (then_normal (hK2 _ _ ?_)); clear hK2)
  refine wp_seq_k fun _ hK2 => ?_
  refine st_then S (Ev.t rfl) ?_
  refine wp_skip ?_
  (refine (then_normal (hK2 _ _ ?_)); clear hK2)
  refine wp_seq_k fun _ hK2 => ?_
  refine wp_block ?_
  refine wp_seq_k fun _ hK3 => ?_
  refine wp_region_lit ?_
  (refine st_y S (Yr.ys (ys_ixS (j := 1) Tryz.underlying149 Tryz.sizeOf148 (Ev.t rfl) (Ev.t rfl) (fun _ => by omega))) rfl ?_; clear S a w; intro a w S)
  (refine st_y S (Yr.ys (ys_ld ⟨Tryz.isAgg148, Tryz.sizeOf148⟩ (Ev.t rfl) (k := 2) rfl rfl)) rfl ?_; clear S a w; intro a w S)
  (refine st_y S (Yr.ys (ys_assign (Ev.t rfl))) rfl ?_; clear S a w; intro a w S)
  refine st_nil ?_
  (refine (then_normal (hK3 _ _ ?_)); clear hK3)
  refine wp_seq_k fun _ hK3 => ?_
  refine wp_region_lit ?_
  (refine st_y S (Yr.ys (ys_move (Ev.t rfl))) rfl ?_; clear S a w; intro a w S)
  (refine st_y S (Yr.ys (ys_move (Ev.t rfl))) rfl ?_; clear S a w; intro a w S)
  (refine st_m (op_callO S Tryz.call57 (EvL.cons (Ev.t rfl) EvL.nil) (c57 S.wd (by first | assumption | omega | (dsimp only; omega) | exact Sl.nil_ | exact .old S.wd (by assumption) | exact Sl.of_own S.wd (k := 0) rfl (fun _ => rfl) | exact Sl.of_own S.wd (k := 1) rfl (fun _ => rfl) | exact Sl.of_own S.wd (k := 2) rfl (fun _ => rfl) | exact Sl.of_own S.wd (k := 3) rfl (fun _ => rfl) | exact Sl.of_own S.wd (k := 4) rfl (fun _ => rfl) | (simp at *; omega)) (by first | assumption | omega | (dsimp only; omega) | exact Sl.nil_ | exact .old S.wd (by assumption) | exact Sl.of_own S.wd (k := 0) rfl (fun _ => rfl) | exact Sl.of_own S.wd (k := 1) rfl (fun _ => rfl) | exact Sl.of_own S.wd (k := 2) rfl (fun _ => rfl) | exact Sl.of_own S.wd (k := 3) rfl (fun _ => rfl) | exact Sl.of_own S.wd (k := 4) rfl (fun _ => rfl) | (simp at *; omega))) rfl ?_) <;> clear S a w)
  rintro _ _ ⟨rfl, rfl⟩ a w S
  rw [rw_N2a] at S
  rw [rw_N2b] at S
  rw [rw_N2c] at S
  (refine st_y S (Yr.ys (ys_move (Ev.t rfl))) rfl ?_; clear S a w; intro a w S)
  (refine st_y S (Yr.ys (ys_ext (Ev.t rfl) rfl)) rfl ?_; clear S a w; intro a w S)
  (refine st_y S (Yr.ys (ys_ext (Ev.t rfl) rfl)) rfl ?_; clear S a w; intro a w S)
  (refine st_y S (Yr.ys (ys_nilc (Ev.t rfl))) rfl ?_; clear S a w; intro a w S)
  (refine st_m (op_st S Tryz.sizeOf3 (Ev.t rfl) (Ev.t rfl) (k := 3) rfl rfl (by simp) ?_); clear S a w; intro a w S)
  (refine st_y S (Yr.ys (ys_assign (Ev.t rfl))) rfl ?_; clear S a w; intro a w S)
  refine st_nil ?_
  (refine (then_normal (hK3 _ _ ?_)); clear hK3)
  refine wp_seq_k fun _ hK3 => ?_
  refine wp_region_lit ?_
  (refine st_y S (Yr.ys (ys_move (Ev.t rfl))) rfl ?_; clear S a w; intro a w S)
  (refine st_y S (Yr.ys (ys_F (by omega) (ys_neq (Ev.t rfl) Ev.c))) rfl ?_; clear S a w; intro a w S)
  refine st_nil ?_
  (refine (then_normal (hK3 _ _ ?_)); clear hK3)
  refine st_else S (Ev.t rfl) ?_
  refine wp_skip ?_
  (refine (in_normal (then_normal (hK2 _ _ ?_))); clear hK2)
  refine wp_region_lit ?_
  (refine st_y S (Yr.ys (ys_addI (Ev.t rfl) Ev.c (fun _ => by unfold I64; omega))) rfl ?_; clear S a w; intro a w S)
  (refine st_y S (Yr.ys (ys_move (Ev.t rfl))) rfl ?_; clear S a w; intro a w S)
  refine st_nil ?_
  refine (then_normal ?_)
  obtain ⟨x3, k4, e3, hN3⟩ : ∃ x k e, numAt b k3 = (x, k, e) := ⟨_, _, _, rfl⟩
  have t4 := numAt_le (b := b) (k := k3) (by omega)
  have rw_N3a : (numAt b k3).1 = x3 := by rw [hN3]
  have rw_N3b : (numAt b k3).2.1 = k4 := by rw [hN3]
  have rw_N3c : (numAt b k3).2.2 = e3 := by rw [hN3]
  rw [rw_N3b] at t4
  have he3 : e3 ≠ 0 → (entAt b k).2.2 = e3 := fun h => by
    unfold entAt
    rw [hT, bindR_ok rfl]
    dsimp only
    rw [hN1, bindR_ok rfl]
    dsimp only
    rw [hN2, bindR_ok rfl]
    dsimp only
    rw [hN3, bindR_bad (by exact h)]
  by_cases h3 : e3 = 0
  rotate_left
  · have rw_d : decide (e3 ≠ 0) = true := decide_eq_true h3
    refine st_round ?_
    refine wp_seq_k fun _ hK2 => ?_
    refine wp_region_lit ?_
    (refine st_y S (Yr.ys (ys_T (by omega) (ys_lss (Ev.t rfl) (Ev.t rfl)))) rfl ?_; clear S a w; intro a w S)
    refine st_nil ?_
    (refine (then_normal (hK2 _ _ ?_)); clear hK2)
    refine wp_seq_k fun _ hK2 => ?_
    refine st_then S (Ev.t rfl) ?_
    refine wp_skip ?_
    (refine (then_normal (hK2 _ _ ?_)); clear hK2)
    refine wp_seq_k fun _ hK2 => ?_
    refine wp_block ?_
    refine wp_seq_k fun _ hK3 => ?_
    refine wp_region_lit ?_
    (refine st_y S (Yr.ys (ys_ixS (j := 2) Tryz.underlying149 Tryz.sizeOf148 (Ev.t rfl) (Ev.t rfl) (fun _ => by omega))) rfl ?_; clear S a w; intro a w S)
    (refine st_y S (Yr.ys (ys_ld ⟨Tryz.isAgg148, Tryz.sizeOf148⟩ (Ev.t rfl) (k := 2) rfl rfl)) rfl ?_; clear S a w; intro a w S)
    (refine st_y S (Yr.ys (ys_assign (Ev.t rfl))) rfl ?_; clear S a w; intro a w S)
    refine st_nil ?_
    (refine (then_normal (hK3 _ _ ?_)); clear hK3)
    refine wp_seq_k fun _ hK3 => ?_
    refine wp_region_lit ?_
    (refine st_y S (Yr.ys (ys_move (Ev.t rfl))) rfl ?_; clear S a w; intro a w S)
    (refine st_y S (Yr.ys (ys_move (Ev.t rfl))) rfl ?_; clear S a w; intro a w S)
    (refine st_m (op_callO S Tryz.call57 (EvL.cons (Ev.t rfl) EvL.nil) (c57 S.wd (by first | assumption | omega | (dsimp only; omega) | exact Sl.nil_ | exact .old S.wd (by assumption) | exact Sl.of_own S.wd (k := 0) rfl (fun _ => rfl) | exact Sl.of_own S.wd (k := 1) rfl (fun _ => rfl) | exact Sl.of_own S.wd (k := 2) rfl (fun _ => rfl) | exact Sl.of_own S.wd (k := 3) rfl (fun _ => rfl) | exact Sl.of_own S.wd (k := 4) rfl (fun _ => rfl) | (simp at *; omega)) (by first | assumption | omega | (dsimp only; omega) | exact Sl.nil_ | exact .old S.wd (by assumption) | exact Sl.of_own S.wd (k := 0) rfl (fun _ => rfl) | exact Sl.of_own S.wd (k := 1) rfl (fun _ => rfl) | exact Sl.of_own S.wd (k := 2) rfl (fun _ => rfl) | exact Sl.of_own S.wd (k := 3) rfl (fun _ => rfl) | exact Sl.of_own S.wd (k := 4) rfl (fun _ => rfl) | (simp at *; omega))) rfl ?_) <;> clear S a w)
    rintro _ _ ⟨rfl, rfl⟩ a w S
    rw [rw_N3a] at S
    rw [rw_N3b] at S
    rw [rw_N3c] at S
    (refine st_y S (Yr.ys (ys_move (Ev.t rfl))) rfl ?_; clear S a w; intro a w S)
    (refine st_y S (Yr.ys (ys_ext (Ev.t rfl) rfl)) rfl ?_; clear S a w; intro a w S)
    (refine st_y S (Yr.ys (ys_ext (Ev.t rfl) rfl)) rfl ?_; clear S a w; intro a w S)
    (refine st_y S (Yr.ys (ys_nilc (Ev.t rfl))) rfl ?_; clear S a w; intro a w S)
    (refine st_m (op_st S Tryz.sizeOf3 (Ev.t rfl) (Ev.t rfl) (k := 3) rfl rfl (by simp) ?_); clear S a w; intro a w S)
    (refine st_y S (Yr.ys (ys_assign (Ev.t rfl))) rfl ?_; clear S a w; intro a w S)
    refine st_nil ?_
    (refine (then_normal (hK3 _ _ ?_)); clear hK3)
    refine wp_seq_k fun _ hK3 => ?_
    refine wp_region_lit ?_
    (refine st_y S (Yr.ys (ys_move (Ev.t rfl))) rfl ?_; clear S a w; intro a w S)
    (refine st_y S (Yr.ys (ys_T (by omega) (ys_neq (Ev.t rfl) Ev.c))) rfl ?_; clear S a w; intro a w S)
    refine st_nil ?_
    (refine (then_normal (hK3 _ _ ?_)); clear hK3)
    refine st_then S (Ev.t rfl) ?_
    refine wp_seq_k fun _ hK3 => ?_
    refine wp_region_lit ?_
    (refine st_y S (Yr.ys (ys_ldA ⟨Tryz.isAgg71, Tryz.sizeOf71⟩ (Ev.t rfl) (k := 3) rfl rfl)) rfl ?_; clear S a w; intro a w S)
    (refine st_y S (Yr.ys (ys_move (Ev.t rfl))) rfl ?_; clear S a w; intro a w S)
    (refine st_m (op_stW S Tryz.sizeOf71 (Ev.t rfl) (Ev.t rfl) (k := 4) rfl rfl rfl (by simp [Value.oneCell']) ?_); clear S a w; intro a w S)
    (refine st_y S (Yr.ys (ys_assign (Ev.t rfl))) rfl ?_; clear S a w; intro a w S)
    refine st_nil ?_
    (refine (then_normal (hK3 _ _ ?_)); clear hK3)
    refine wp_ret ?_
    refine (in_ret (then_ret (then_ret (in_ret (then_ret ?_)))))
    refine st_ret S (results2 S Tryz.results58 (Rv.cell (k := 4) ⟨Tryz.isAgg71, Tryz.sizeOf71⟩ rfl rfl rfl) (Rv.tmp rfl)) ?_
    exact ⟨_, _, rfl, S.wd.picks (L' := rdr g A cap b k4 L) (by repeat (first | exact Picks.nil | (refine Picks.rest ?_; (repeat (first | exact List.Sublist.refl _ | refine List.Sublist.cons_cons _ ?_ | refine List.Sublist.cons _ ?_)); done) | refine Picks.take 0 rfl ?_ | refine Picks.take 1 rfl ?_ | refine Picks.take 2 rfl ?_ | refine Picks.take 3 rfl ?_ | refine Picks.take 4 rfl ?_ | refine Picks.take 5 rfl ?_ | refine Picks.take 6 rfl ?_ | refine Picks.take 7 rfl ?_ | refine Picks.take 8 rfl ?_ | refine Picks.take 9 rfl ?_ | refine Picks.take 10 rfl ?_ | refine Picks.take 11 rfl ?_)), ⟨s, ⟨x1, x2, x3⟩, 0, 0⟩, k4, by rw [he3 h3]; rfl, rfl, by omega, fun h => absurd ((he3 h3).symm.trans h) h3⟩
  subst h3
  refine st_round ?_
  refine wp_seq_k fun _ hK2 => ?_
  refine wp_region_lit ?_
  (refine st_y S (Yr.ys (ys_T (by omega) (ys_lss (Ev.t rfl) (Ev.t rfl)))) rfl ?_; clear S a w; intro a w S)
  refine st_nil ?_
  (refine (then_normal (hK2 _ _ ?_)); clear hK2)
  refine wp_seq_k fun _ hK2 => ?_
  refine st_then S (Ev.t rfl) ?_
  refine wp_skip ?_
  (refine (then_normal (hK2 _ _ ?_)); clear hK2)
  refine wp_seq_k fun _ hK2 => ?_
  refine wp_block ?_
  refine wp_seq_k fun _ hK3 => ?_
  refine wp_region_lit ?_
  (refine st_y S (Yr.ys (ys_ixS (j := 2) Tryz.underlying149 Tryz.sizeOf148 (Ev.t rfl) (Ev.t rfl) (fun _ => by omega))) rfl ?_; clear S a w; intro a w S)
  (refine st_y S (Yr.ys (ys_ld ⟨Tryz.isAgg148, Tryz.sizeOf148⟩ (Ev.t rfl) (k := 2) rfl rfl)) rfl ?_; clear S a w; intro a w S)
  (refine st_y S (Yr.ys (ys_assign (Ev.t rfl))) rfl ?_; clear S a w; intro a w S)
  refine st_nil ?_
  (refine (then_normal (hK3 _ _ ?_)); clear hK3)
  refine wp_seq_k fun _ hK3 => ?_
  refine wp_region_lit ?_
  (refine st_y S (Yr.ys (ys_move (Ev.t rfl))) rfl ?_; clear S a w; intro a w S)
  (refine st_y S (Yr.ys (ys_move (Ev.t rfl))) rfl ?_; clear S a w; intro a w S)
  (refine st_m (op_callO S Tryz.call57 (EvL.cons (Ev.t rfl) EvL.nil) (c57 S.wd (by first | assumption | omega | (dsimp only; omega) | exact Sl.nil_ | exact .old S.wd (by assumption) | exact Sl.of_own S.wd (k := 0) rfl (fun _ => rfl) | exact Sl.of_own S.wd (k := 1) rfl (fun _ => rfl) | exact Sl.of_own S.wd (k := 2) rfl (fun _ => rfl) | exact Sl.of_own S.wd (k := 3) rfl (fun _ => rfl) | exact Sl.of_own S.wd (k := 4) rfl (fun _ => rfl) | (simp at *; omega)) (by first | assumption | omega | (dsimp only; omega) | exact Sl.nil_ | exact .old S.wd (by assumption) | exact Sl.of_own S.wd (k := 0) rfl (fun _ => rfl) | exact Sl.of_own S.wd (k := 1) rfl (fun _ => rfl) | exact Sl.of_own S.wd (k := 2) rfl (fun _ => rfl) | exact Sl.of_own S.wd (k := 3) rfl (fun _ => rfl) | exact Sl.of_own S.wd (k := 4) rfl (fun _ => rfl) | (simp at *; omega))) rfl ?_) <;> clear S a w)
  rintro _ _ ⟨rfl, rfl⟩ a w S
  rw [rw_N3a] at S
  rw [rw_N3b] at S
  rw [rw_N3c] at S
  (refine st_y S (Yr.ys (ys_move (Ev.t rfl))) rfl ?_; clear S a w; intro a w S)
  (refine st_y S (Yr.ys (ys_ext (Ev.t rfl) rfl)) rfl ?_; clear S a w; intro a w S)
  (refine st_y S (Yr.ys (ys_ext (Ev.t rfl) rfl)) rfl ?_; clear S a w; intro a w S)
  (refine st_y S (Yr.ys (ys_nilc (Ev.t rfl))) rfl ?_; clear S a w; intro a w S)
  (refine st_m (op_st S Tryz.sizeOf3 (Ev.t rfl) (Ev.t rfl) (k := 3) rfl rfl (by simp) ?_); clear S a w; intro a w S)
  (refine st_y S (Yr.ys (ys_assign (Ev.t rfl))) rfl ?_; clear S a w; intro a w S)
  refine st_nil ?_
  (refine (then_normal (hK3 _ _ ?_)); clear hK3)
  refine wp_seq_k fun _ hK3 => ?_
  refine wp_region_lit ?_
  (refine st_y S (Yr.ys (ys_move (Ev.t rfl))) rfl ?_; clear S a w; intro a w S)
  (refine st_y S (Yr.ys (ys_F (by omega) (ys_neq (Ev.t rfl) Ev.c))) rfl ?_; clear S a w; intro a w S)
  refine st_nil ?_
  (refine (then_normal (hK3 _ _ ?_)); clear hK3)
  refine st_else S (Ev.t rfl) ?_
  refine wp_skip ?_
  (refine (in_normal (then_normal (hK2 _ _ ?_))); clear hK2)
  refine wp_region_lit ?_
  (refine st_y S (Yr.ys (ys_addI (Ev.t rfl) Ev.c (fun _ => by unfold I64; omega))) rfl ?_; clear S a w; intro a w S)
  (refine st_y S (Yr.ys (ys_move (Ev.t rfl))) rfl ?_; clear S a w; intro a w S)
  refine st_nil ?_
  refine (then_normal ?_)
  obtain ⟨x4, k5, e4, hN4⟩ : ∃ x k e, numAt b k4 = (x, k, e) := ⟨_, _, _, rfl⟩
  have t5 := numAt_le (b := b) (k := k4) (by omega)
  have rw_N4a : (numAt b k4).1 = x4 := by rw [hN4]
  have rw_N4b : (numAt b k4).2.1 = k5 := by rw [hN4]
  have rw_N4c : (numAt b k4).2.2 = e4 := by rw [hN4]
  rw [rw_N4b] at t5
  have he4 : e4 ≠ 0 → (entAt b k).2.2 = e4 := fun h => by
    unfold entAt
    rw [hT, bindR_ok rfl]
    dsimp only
    rw [hN1, bindR_ok rfl]
    dsimp only
    rw [hN2, bindR_ok rfl]
    dsimp only
    rw [hN3, bindR_ok rfl]
    dsimp only
    rw [hN4, bindR_bad (by exact h)]
  by_cases h4 : e4 = 0
  rotate_left
  · have rw_d : decide (e4 ≠ 0) = true := decide_eq_true h4
    refine st_round ?_
    refine wp_seq_k fun _ hK2 => ?_
    refine wp_region_lit ?_
    (refine st_y S (Yr.ys (ys_T (by omega) (ys_lss (Ev.t rfl) (Ev.t rfl)))) rfl ?_; clear S a w; intro a w S)
    refine st_nil ?_
    (refine (then_normal (hK2 _ _ ?_)); clear hK2)
    refine wp_seq_k fun _ hK2 => ?_
    refine st_then S (Ev.t rfl) ?_
    refine wp_skip ?_
    (refine (then_normal (hK2 _ _ ?_)); clear hK2)
    refine wp_seq_k fun _ hK2 => ?_
    refine wp_block ?_
    refine wp_seq_k fun _ hK3 => ?_
    refine wp_region_lit ?_
    (refine st_y S (Yr.ys (ys_ixS (j := 3) Tryz.underlying149 Tryz.sizeOf148 (Ev.t rfl) (Ev.t rfl) (fun _ => by omega))) rfl ?_; clear S a w; intro a w S)
    (refine st_y S (Yr.ys (ys_ld ⟨Tryz.isAgg148, Tryz.sizeOf148⟩ (Ev.t rfl) (k := 2) rfl rfl)) rfl ?_; clear S a w; intro a w S)
    (refine st_y S (Yr.ys (ys_assign (Ev.t rfl))) rfl ?_; clear S a w; intro a w S)
    refine st_nil ?_
    (refine (then_normal (hK3 _ _ ?_)); clear hK3)
    refine wp_seq_k fun _ hK3 => ?_
    refine wp_region_lit ?_
    (refine st_y S (Yr.ys (ys_move (Ev.t rfl))) rfl ?_; clear S a w; intro a w S)
    (refine st_y S (Yr.ys (ys_move (Ev.t rfl))) rfl ?_; clear S a w; intro a w S)
    (refine st_m (op_callO S Tryz.call57 (EvL.cons (Ev.t rfl) EvL.nil) (c57 S.wd (by first | assumption | omega | (dsimp only; omega) | exact Sl.nil_ | exact .old S.wd (by assumption) | exact Sl.of_own S.wd (k := 0) rfl (fun _ => rfl) | exact Sl.of_own S.wd (k := 1) rfl (fun _ => rfl) | exact Sl.of_own S.wd (k := 2) rfl (fun _ => rfl) | exact Sl.of_own S.wd (k := 3) rfl (fun _ => rfl) | exact Sl.of_own S.wd (k := 4) rfl (fun _ => rfl) | (simp at *; omega)) (by first | assumption | omega | (dsimp only; omega) | exact Sl.nil_ | exact .old S.wd (by assumption) | exact Sl.of_own S.wd (k := 0) rfl (fun _ => rfl) | exact Sl.of_own S.wd (k := 1) rfl (fun _ => rfl) | exact Sl.of_own S.wd (k := 2) rfl (fun _ => rfl) | exact Sl.of_own S.wd (k := 3) rfl (fun _ => rfl) | exact Sl.of_own S.wd (k := 4) rfl (fun _ => rfl) | (simp at *; omega))) rfl ?_) <;> clear S a w)
    rintro _ _ ⟨rfl, rfl⟩ a w S
    rw [rw_N4a] at S
    rw [rw_N4b] at S
    rw [rw_N4c] at S
    (refine st_y S (Yr.ys (ys_move (Ev.t rfl))) rfl ?_; clear S a w; intro a w S)
    (refine st_y S (Yr.ys (ys_ext (Ev.t rfl) rfl)) rfl ?_; clear S a w; intro a w S)
    (refine st_y S (Yr.ys (ys_ext (Ev.t rfl) rfl)) rfl ?_; clear S a w; intro a w S)
    (refine st_y S (Yr.ys (ys_nilc (Ev.t rfl))) rfl ?_; clear S a w; intro a w S)
    (refine st_m (op_st S Tryz.sizeOf3 (Ev.t rfl) (Ev.t rfl) (k := 3) rfl rfl (by simp) ?_); clear S a w; intro a w S)
    (refine st_y S (Yr.ys (ys_assign (Ev.t rfl))) rfl ?_; clear S a w; intro a w S)
    refine st_nil ?_
    (refine (then_normal (hK3 _ _ ?_)); clear hK3)
    refine wp_seq_k fun _ hK3 => ?_
    refine wp_region_lit ?_
    (refine st_y S (Yr.ys (ys_move (Ev.t rfl))) rfl ?_; clear S a w; intro a w S)
    (refine st_y S (Yr.ys (ys_T (by omega) (ys_neq (Ev.t rfl) Ev.c))) rfl ?_; clear S a w; intro a w S)
    refine st_nil ?_
    (refine (then_normal (hK3 _ _ ?_)); clear hK3)
    refine st_then S (Ev.t rfl) ?_
    refine wp_seq_k fun _ hK3 => ?_
    refine wp_region_lit ?_
    (refine st_y S (Yr.ys (ys_ldA ⟨Tryz.isAgg71, Tryz.sizeOf71⟩ (Ev.t rfl) (k := 3) rfl rfl)) rfl ?_; clear S a w; intro a w S)
    (refine st_y S (Yr.ys (ys_move (Ev.t rfl))) rfl ?_; clear S a w; intro a w S)
    (refine st_m (op_stW S Tryz.sizeOf71 (Ev.t rfl) (Ev.t rfl) (k := 4) rfl rfl rfl (by simp [Value.oneCell']) ?_); clear S a w; intro a w S)
    (refine st_y S (Yr.ys (ys_assign (Ev.t rfl))) rfl ?_; clear S a w; intro a w S)
    refine st_nil ?_
    (refine (then_normal (hK3 _ _ ?_)); clear hK3)
    refine wp_ret ?_
    refine (in_ret (then_ret (then_ret (in_ret (then_ret ?_)))))
    refine st_ret S (results2 S Tryz.results58 (Rv.cell (k := 4) ⟨Tryz.isAgg71, Tryz.sizeOf71⟩ rfl rfl rfl) (Rv.tmp rfl)) ?_
    exact ⟨_, _, rfl, S.wd.picks (L' := rdr g A cap b k5 L) (by repeat (first | exact Picks.nil | (refine Picks.rest ?_; (repeat (first | exact List.Sublist.refl _ | refine List.Sublist.cons_cons _ ?_ | refine List.Sublist.cons _ ?_)); done) | refine Picks.take 0 rfl ?_ | refine Picks.take 1 rfl ?_ | refine Picks.take 2 rfl ?_ | refine Picks.take 3 rfl ?_ | refine Picks.take 4 rfl ?_ | refine Picks.take 5 rfl ?_ | refine Picks.take 6 rfl ?_ | refine Picks.take 7 rfl ?_ | refine Picks.take 8 rfl ?_ | refine Picks.take 9 rfl ?_ | refine Picks.take 10 rfl ?_ | refine Picks.take 11 rfl ?_)), ⟨s, ⟨x1, x2, x3⟩, x4, 0⟩, k5, by rw [he4 h4]; rfl, rfl, by omega, fun h => absurd ((he4 h4).symm.trans h) h4⟩
  subst h4
  refine st_round ?_
  refine wp_seq_k fun _ hK2 => ?_
  refine wp_region_lit ?_
  (refine st_y S (Yr.ys (ys_T (by omega) (ys_lss (Ev.t rfl) (Ev.t rfl)))) rfl ?_; clear S a w; intro a w S)
  refine st_nil ?_
  (refine (then_normal (hK2 _ _ ?_)); clear hK2)
  refine wp_seq_k fun _ hK2 => ?_
  refine st_then S (Ev.t rfl) ?_
  refine wp_skip ?_
  (refine (then_normal (hK2 _ _ ?_)); clear hK2)
  refine wp_seq_k fun _ hK2 => ?_
  refine wp_block ?_
  refine wp_seq_k fun _ hK3 => ?_
  refine wp_region_lit ?_
  (refine st_y S (Yr.ys (ys_ixS (j := 3) Tryz.underlying149 Tryz.sizeOf148 (Ev.t rfl) (Ev.t rfl) (fun _ => by omega))) rfl ?_; clear S a w; intro a w S)
  (refine st_y S (Yr.ys (ys_ld ⟨Tryz.isAgg148, Tryz.sizeOf148⟩ (Ev.t rfl) (k := 2) rfl rfl)) rfl ?_; clear S a w; intro a w S)
  (refine st_y S (Yr.ys (ys_assign (Ev.t rfl))) rfl ?_; clear S a w; intro a w S)
  refine st_nil ?_
  (refine (then_normal (hK3 _ _ ?_)); clear hK3)
  refine wp_seq_k fun _ hK3 => ?_
  refine wp_region_lit ?_
  (refine st_y S (Yr.ys (ys_move (Ev.t rfl))) rfl ?_; clear S a w; intro a w S)
  (refine st_y S (Yr.ys (ys_move (Ev.t rfl))) rfl ?_; clear S a w; intro a w S)
  (refine st_m (op_callO S Tryz.call57 (EvL.cons (Ev.t rfl) EvL.nil) (c57 S.wd (by first | assumption | omega | (dsimp only; omega) | exact Sl.nil_ | exact .old S.wd (by assumption) | exact Sl.of_own S.wd (k := 0) rfl (fun _ => rfl) | exact Sl.of_own S.wd (k := 1) rfl (fun _ => rfl) | exact Sl.of_own S.wd (k := 2) rfl (fun _ => rfl) | exact Sl.of_own S.wd (k := 3) rfl (fun _ => rfl) | exact Sl.of_own S.wd (k := 4) rfl (fun _ => rfl) | (simp at *; omega)) (by first | assumption | omega | (dsimp only; omega) | exact Sl.nil_ | exact .old S.wd (by assumption) | exact Sl.of_own S.wd (k := 0) rfl (fun _ => rfl) | exact Sl.of_own S.wd (k := 1) rfl (fun _ => rfl) | exact Sl.of_own S.wd (k := 2) rfl (fun _ => rfl) | exact Sl.of_own S.wd (k := 3) rfl (fun _ => rfl) | exact Sl.of_own S.wd (k := 4) rfl (fun _ => rfl) | (simp at *; omega))) rfl ?_) <;> clear S a w)
  rintro _ _ ⟨rfl, rfl⟩ a w S
  rw [rw_N4a] at S
  rw [rw_N4b] at S
  rw [rw_N4c] at S
  (refine st_y S (Yr.ys (ys_move (Ev.t rfl))) rfl ?_; clear S a w; intro a w S)
  (refine st_y S (Yr.ys (ys_ext (Ev.t rfl) rfl)) rfl ?_; clear S a w; intro a w S)
  (refine st_y S (Yr.ys (ys_ext (Ev.t rfl) rfl)) rfl ?_; clear S a w; intro a w S)
  (refine st_y S (Yr.ys (ys_nilc (Ev.t rfl))) rfl ?_; clear S a w; intro a w S)
  (refine st_m (op_st S Tryz.sizeOf3 (Ev.t rfl) (Ev.t rfl) (k := 3) rfl rfl (by simp) ?_); clear S a w; intro a w S)
  (refine st_y S (Yr.ys (ys_assign (Ev.t rfl))) rfl ?_; clear S a w; intro a w S)
  refine st_nil ?_
  (refine (then_normal (hK3 _ _ ?_)); clear hK3)
  refine wp_seq_k fun _ hK3 => ?_
  refine wp_region_lit ?_
  (refine st_y S (Yr.ys (ys_move (Ev.t rfl))) rfl ?_; clear S a w; intro a w S)
  (refine st_y S (Yr.ys (ys_F (by omega) (ys_neq (Ev.t rfl) Ev.c))) rfl ?_; clear S a w; intro a w S)
  refine st_nil ?_
  (refine (then_normal (hK3 _ _ ?_)); clear hK3)
  refine st_else S (Ev.t rfl) ?_
  refine wp_skip ?_
  (refine (in_normal (then_normal (hK2 _ _ ?_))); clear hK2)
  refine wp_region_lit ?_
  (refine st_y S (Yr.ys (ys_addI (Ev.t rfl) Ev.c (fun _ => by unfold I64; omega))) rfl ?_; clear S a w; intro a w S)
  (refine st_y S (Yr.ys (ys_move (Ev.t rfl))) rfl ?_; clear S a w; intro a w S)
  refine st_nil ?_
  refine (then_normal ?_)
  refine st_round ?_
  refine wp_seq_k fun _ hK2 => ?_
  refine wp_region_lit ?_
  (refine st_y S (Yr.ys (ys_F (by omega) (ys_lss (Ev.t rfl) (Ev.t rfl)))) rfl ?_; clear S a w; intro a w S)
  refine st_nil ?_
  (refine (then_normal (hK2 _ _ ?_)); clear hK2)
  refine wp_seq_k fun _ hK2 => ?_
  refine st_else S (Ev.t rfl) ?_
  refine wp_exit ?_
  (refine (then_exit (then_exit (in_here (then_normal (hK1 _ _ ?_))))); clear hK1)
  refine wp_seq_k fun _ hK1 => ?_
  refine wp_seq_k fun _ hK3 => ?_
  refine wp_region_lit ?_
  (refine st_y S (Yr.ys (ys_move Ev.c)) rfl ?_; clear S a w; intro a w S)
  refine st_nil ?_
  (refine (then_normal (hK3 _ _ ?_)); clear hK3)
  refine wp_block ?_
  have t6 : u64R b k5 = if k5 + 8 ≤ b.length then (leV b k5 8, k5 + 8, 0) else (0, b.length, 2) := rfl
  have hE : entAt b k = bindR (u64R b k5) Ent.none fun p k6 => (⟨s, ⟨x1, x2, x3⟩, x4, UInt64.ofNat p⟩, k6, 0) := by
    unfold entAt
    rw [hT, bindR_ok rfl]
    dsimp only
    rw [hN1, bindR_ok rfl]
    dsimp only
    rw [hN2, bindR_ok rfl]
    dsimp only
    rw [hN3, bindR_ok rfl]
    dsimp only
    rw [hN4, bindR_ok rfl]
  refine st_loopM S [48] (X := Nat) (fun i => [(48, true, .int .i64 (i : Int))]) (fun i => rdr g A cap b (k5 + i) (.blk g2 (.cells #[.string (Fw.bs s), .int .i64 x1, .int .i64 x2, .int .i64 x3, .int .i64 x4, .int .u64 (leV b k5 i : Int)] 71) :: .blk g1 (.cells #[.string ⟨#[]⟩, .int .i64 0, .int .i64 0, .int .i64 0, .int .i64 0, .int .u64 0] 71) :: L))
    (fun i => i ≤ 8 ∧ k5 + i ≤ b.length) (fun i => 8 - i) 0 ⟨Nat.zero_le _, t5.2⟩ (by repeat (first | exact Fits.nil | refine Fits.skip rfl ?_ | refine Fits.cons rfl ?_)) (by repeat (first | exact Picks.nil | (refine Picks.rest ?_; (repeat (first | exact List.Sublist.refl _ | refine List.Sublist.cons_cons _ ?_ | refine List.Sublist.cons _ ?_)); done) | refine Picks.take 0 rfl ?_ | refine Picks.take 1 rfl ?_ | refine Picks.take 2 rfl ?_ | refine Picks.take 3 rfl ?_ | refine Picks.take 4 rfl ?_ | refine Picks.take 5 rfl ?_ | refine Picks.take 6 rfl ?_ | refine Picks.take 7 rfl ?_ | refine Picks.take 8 rfl ?_ | refine Picks.take 9 rfl ?_ | refine Picks.take 10 rfl ?_ | refine Picks.take 11 rfl ?_)) ?_
  clear S
  intro i a w ⟨hi, hki⟩ S
  by_cases hlt : i < 8
  · by_cases hb8 : k5 + i < b.length
    · obtain ⟨y, hy⟩ : ∃ y, b[k5 + i]? = some y := ⟨_, List.getElem?_eq_getElem hb8⟩
      have hy8 : y.toNat < 256 := y.toNat_lt
      have rw_b1 : (byteR b (k5 + i)).1 = (y.toNat : Int) := by rw [byteR_some hy]
      have rw_b2 : (byteR b (k5 + i)).2.1 = 1 := by rw [byteR_some hy]
      have rw_b3 : (byteR b (k5 + i)).2.2 = 0 := by rw [byteR_some hy]
      have rw_i : (i : Int) + 1 = ((i + 1 : Nat) : Int) := rfl
      have rw_8 : 8 * (i : Int) = ((8 * i : Nat) : Int) := rfl
      have rw_s := shl_le hy8 hlt
      have rw_o : orK .u64 (leV b k5 i : Int) ((y.toNat * 256 ^ i : Nat) : Int) = (leV b k5 (i + 1) : Int) := by
        rw [or_le (leV_lt b k5 i) hy8 hlt, leV, List.getD_eq_getElem?_getD, hy]
        rfl
      refine wp_seq_k fun _ hK3 => ?_
      refine wp_region_lit ?_
      (refine st_y S (Yr.ys (ys_T (by omega) (ys_lss (Ev.t rfl) Ev.c))) rfl ?_; clear S a w; intro a w S)
      refine st_nil ?_
      (refine (then_normal (hK3 _ _ ?_)); clear hK3)
      refine wp_seq_k fun _ hK3 => ?_
      refine st_then S (Ev.t rfl) ?_
      refine wp_skip ?_
      (refine (then_normal (hK3 _ _ ?_)); clear hK3)
      refine wp_seq_k fun _ hK3 => ?_
      refine wp_block ?_
      refine wp_seq_k fun _ hK4 => ?_
      refine wp_region_lit ?_
      (refine st_y S (Yr.ys (ys_move (Ev.t rfl))) rfl ?_; clear S a w; intro a w S)
      (refine st_y S (Yr.ys (ys_assign (Ev.t rfl))) rfl ?_; clear S a w; intro a w S)
      refine st_nil ?_
      (refine (then_normal (hK4 _ _ ?_)); clear hK4)
      refine wp_seq_k fun _ hK4 => ?_
      refine wp_region_lit ?_
      (refine st_y S (Yr.ys (ys_move (Ev.t rfl))) rfl ?_; clear S a w; intro a w S)
      (refine st_m (op_callO S Tryz.call118 (EvL.cons (Ev.t rfl) EvL.nil) (c118 S.wd (by first | assumption | omega | (dsimp only; omega) | exact Sl.nil_ | exact .old S.wd (by assumption) | exact Sl.of_own S.wd (k := 0) rfl (fun _ => rfl) | exact Sl.of_own S.wd (k := 1) rfl (fun _ => rfl) | exact Sl.of_own S.wd (k := 2) rfl (fun _ => rfl) | exact Sl.of_own S.wd (k := 3) rfl (fun _ => rfl) | (simp at *; omega)) (by first | assumption | omega | (dsimp only; omega) | exact Sl.nil_ | exact .old S.wd (by assumption) | exact Sl.of_own S.wd (k := 0) rfl (fun _ => rfl) | exact Sl.of_own S.wd (k := 1) rfl (fun _ => rfl) | exact Sl.of_own S.wd (k := 2) rfl (fun _ => rfl) | exact Sl.of_own S.wd (k := 3) rfl (fun _ => rfl) | (simp at *; omega))) rfl ?_) <;> clear S a w)
      rintro _ _ ⟨rfl, rfl⟩ a w S
      rw [rw_b1] at S
      rw [rw_b2] at S
      rw [rw_b3] at S
      (refine st_y S (Yr.ys (ys_move (Ev.t rfl))) rfl ?_; clear S a w; intro a w S)
      (refine st_y S (Yr.ys (ys_ext (Ev.t rfl) rfl)) rfl ?_; clear S a w; intro a w S)
      (refine st_y S (Yr.ys (ys_ext (Ev.t rfl) rfl)) rfl ?_; clear S a w; intro a w S)
      (refine st_y S (Yr.ys (ys_assign (Ev.t rfl))) rfl ?_; clear S a w; intro a w S)
      (refine st_y S (Yr.ys (ys_assign (Ev.t rfl))) rfl ?_; clear S a w; intro a w S)
      refine st_nil ?_
      (refine (then_normal (hK4 _ _ ?_)); clear hK4)
      refine wp_seq_k fun _ hK4 => ?_
      refine wp_seq_k fun _ hK5 => ?_
      refine wp_region_lit ?_
      (refine st_y S (Yr.ys (ys_move (Ev.t rfl))) rfl ?_; clear S a w; intro a w S)
      (refine st_y S (Yr.ys (ys_F (by omega) (ys_neq (Ev.t rfl) Ev.c))) rfl ?_; clear S a w; intro a w S)
      refine st_nil ?_
      (refine (then_normal (hK5 _ _ ?_)); clear hK5)
      refine st_else S (Ev.t rfl) ?_
      refine wp_skip ?_
      (refine (then_normal (hK4 _ _ ?_)); clear hK4)
      (refine h_beginE S (by kernel_rfl) 2 ?_; clear S a w; intro a w S)
      (refine h_y (i := 0) S (by repeat (first | exact List.Sublist.refl _ | exact List.nil_sublist _ | refine .cons_cons _ ?_ | refine .cons _ ?_)) rfl (by kernel_rfl) (by kernel_rfl) (by kernel_rfl) (fun _ _ _ _ h => h) (ys_fieldN (FieldT.mk Tryz.underlying71 rfl Tryz.sizeOf27 rfl) (Ev.t rfl) (i' := 5) rfl) rfl ?_; clear S a w; intro a w S)
      (refine h_y (i := 2) S (by repeat (first | exact List.Sublist.refl _ | exact List.nil_sublist _ | refine .cons_cons _ ?_ | refine .cons _ ?_)) rfl (by kernel_rfl) (by kernel_rfl) (by kernel_rfl) (fun _ _ _ _ h => h) (ys_move (Ev.t rfl)) rfl ?_; clear S a w; intro a w S)
      (refine h_y (i := 3) S (by repeat (first | exact List.Sublist.refl _ | exact List.nil_sublist _ | refine .cons_cons _ ?_ | refine .cons _ ?_)) rfl (by kernel_rfl) (by kernel_rfl) (by kernel_rfl) (fun _ _ _ _ h => h) (ys_cvU Tryz.underlying3 Tryz.underlying27 (Ev.t rfl) (fun _ => by omega)) rfl ?_; clear S a w; intro a w S)
      (refine h_y (i := 4) S (by repeat (first | exact List.Sublist.refl _ | exact List.nil_sublist _ | refine .cons_cons _ ?_ | refine .cons _ ?_)) rfl (by kernel_rfl) (by kernel_rfl) (by kernel_rfl) (fun _ _ _ _ h => h) (ys_move (Ev.t rfl)) rfl ?_; clear S a w; intro a w S)
      (refine h_y (i := 5) S (by repeat (first | exact List.Sublist.refl _ | exact List.nil_sublist _ | refine .cons_cons _ ?_ | refine .cons _ ?_)) rfl (by kernel_rfl) (by kernel_rfl) (by kernel_rfl) (fun _ _ _ _ h => h) (ys_mulI Ev.c (Ev.t rfl) (fun _ => by unfold I64; omega)) rfl ?_; clear S a w; intro a w S)
      rw [rw_8] at S
      (refine h_y (i := 6) S (by repeat (first | exact List.Sublist.refl _ | exact List.nil_sublist _ | refine .cons_cons _ ?_ | refine .cons _ ?_)) rfl (by kernel_rfl) (by kernel_rfl) (by kernel_rfl) (fun _ _ _ _ h => h) (ys_shl (Ev.t rfl) (Ev.t rfl) (Nat.ble_eq_true_of_le (by show _ ≤ 64; omega))) rfl ?_; clear S a w; intro a w S)
      rw [rw_s] at S
      (refine h_q (i := 1) S (by repeat (first | exact List.Sublist.refl _ | exact List.nil_sublist _ | refine .cons_cons _ ?_ | refine .cons _ ?_)) rfl (by kernel_rfl) (Yr.ys (ys_ld ⟨Tryz.isAgg27, Tryz.sizeOf27⟩ (Ev.t rfl) (k := 2) rfl rfl)) rfl ?_; clear S a w; intro a w S)
      (refine h_y (i := 7) S (by repeat (first | exact List.Sublist.refl _ | exact List.nil_sublist _ | refine .cons_cons _ ?_ | refine .cons _ ?_)) rfl (by kernel_rfl) (by kernel_rfl) (by kernel_rfl) (fun _ _ _ _ h => h) (ys_bor (Ev.t rfl) (Ev.t rfl)) rfl ?_; clear S a w; intro a w S)
      rw [rw_o] at S
      (refine h_y (i := 8) S (by repeat (first | exact List.Sublist.refl _ | exact List.nil_sublist _ | refine .cons_cons _ ?_ | refine .cons _ ?_)) rfl (by kernel_rfl) (by kernel_rfl) (by kernel_rfl) (fun _ _ _ _ h => h) (ys_fieldN (FieldT.mk Tryz.underlying71 rfl Tryz.sizeOf27 rfl) (Ev.t rfl) (i' := 5) rfl) rfl ?_; clear S a w; intro a w S)
      (refine h_m0 (i := 9) rfl (by kernel_rfl) (op_st S Tryz.sizeOf27 (Ev.t rfl) (Ev.t rfl) (k := 2) rfl rfl (by simp) ?_); clear S a w; intro a w S; refine h_on S _ (List.Sublist.refl _) (by repeat (first | exact List.Sublist.refl _ | exact List.nil_sublist _ | refine .cons_cons _ ?_ | refine .cons _ ?_)) ?_)
      refine h_done (by kernel_rfl) ?_
      (refine (in_normal (then_normal (hK3 _ _ ?_))); clear hK3)
      refine wp_region_lit ?_
      (refine st_y S (Yr.ys (ys_addI (Ev.t rfl) Ev.c (fun _ => by unfold I64; omega))) rfl ?_; clear S a w; intro a w S)
      rw [rw_i] at S
      (refine st_y S (Yr.ys (ys_move (Ev.t rfl))) rfl ?_; clear S a w; intro a w S)
      refine st_nil ?_
      refine (then_normal ?_)
      exact ⟨i + 1, ⟨by omega, by omega⟩, by omega, S.picks (by repeat (first | exact Fits.nil | refine Fits.skip rfl ?_ | refine Fits.cons rfl ?_)) (by repeat (first | exact Picks.nil | (refine Picks.rest ?_; (repeat (first | exact List.Sublist.refl _ | refine List.Sublist.cons_cons _ ?_ | refine List.Sublist.cons _ ?_)); done) | refine Picks.take 0 rfl ?_ | refine Picks.take 1 rfl ?_ | refine Picks.take 2 rfl ?_ | refine Picks.take 3 rfl ?_ | refine Picks.take 4 rfl ?_ | refine Picks.take 5 rfl ?_ | refine Picks.take 6 rfl ?_ | refine Picks.take 7 rfl ?_ | refine Picks.take 8 rfl ?_ | refine Picks.take 9 rfl ?_ | refine Picks.take 10 rfl ?_ | refine Picks.take 11 rfl ?_))⟩
    · have rw_b1 : (byteR b (k5 + i)).1 = 0 := by rw [byteR_none (by omega)]
      have rw_b2 : (byteR b (k5 + i)).2.1 = 0 := by rw [byteR_none (by omega)]
      have rw_b3 : (byteR b (k5 + i)).2.2 = 2 := by rw [byteR_none (by omega)]
      have he : (entAt b k).2.2 = 2 := by rw [hE, t6, if_neg (by omega)]; rfl
      refine wp_seq_k fun _ hK3 => ?_
      refine wp_region_lit ?_
      (refine st_y S (Yr.ys (ys_T (by omega) (ys_lss (Ev.t rfl) Ev.c))) rfl ?_; clear S a w; intro a w S)
      refine st_nil ?_
      (refine (then_normal (hK3 _ _ ?_)); clear hK3)
      refine wp_seq_k fun _ hK3 => ?_
      refine st_then S (Ev.t rfl) ?_
      refine wp_skip ?_
      (refine (then_normal (hK3 _ _ ?_)); clear hK3)
      refine wp_seq_k fun _ hK3 => ?_
      refine wp_block ?_
      refine wp_seq_k fun _ hK4 => ?_
      refine wp_region_lit ?_
      (refine st_y S (Yr.ys (ys_move (Ev.t rfl))) rfl ?_; clear S a w; intro a w S)
      (refine st_y S (Yr.ys (ys_assign (Ev.t rfl))) rfl ?_; clear S a w; intro a w S)
      refine st_nil ?_
      (refine (then_normal (hK4 _ _ ?_)); clear hK4)
      refine wp_seq_k fun _ hK4 => ?_
      refine wp_region_lit ?_
      (refine st_y S (Yr.ys (ys_move (Ev.t rfl))) rfl ?_; clear S a w; intro a w S)
      (refine st_m (op_callO S Tryz.call118 (EvL.cons (Ev.t rfl) EvL.nil) (c118 S.wd (by first | assumption | omega | (dsimp only; omega) | exact Sl.nil_ | exact .old S.wd (by assumption) | exact Sl.of_own S.wd (k := 0) rfl (fun _ => rfl) | exact Sl.of_own S.wd (k := 1) rfl (fun _ => rfl) | exact Sl.of_own S.wd (k := 2) rfl (fun _ => rfl) | exact Sl.of_own S.wd (k := 3) rfl (fun _ => rfl) | (simp at *; omega)) (by first | assumption | omega | (dsimp only; omega) | exact Sl.nil_ | exact .old S.wd (by assumption) | exact Sl.of_own S.wd (k := 0) rfl (fun _ => rfl) | exact Sl.of_own S.wd (k := 1) rfl (fun _ => rfl) | exact Sl.of_own S.wd (k := 2) rfl (fun _ => rfl) | exact Sl.of_own S.wd (k := 3) rfl (fun _ => rfl) | (simp at *; omega))) rfl ?_) <;> clear S a w)
      rintro _ _ ⟨rfl, rfl⟩ a w S
      rw [rw_b1] at S
      rw [rw_b2] at S
      rw [rw_b3] at S
      (refine st_y S (Yr.ys (ys_move (Ev.t rfl))) rfl ?_; clear S a w; intro a w S)
      (refine st_y S (Yr.ys (ys_ext (Ev.t rfl) rfl)) rfl ?_; clear S a w; intro a w S)
      (refine st_y S (Yr.ys (ys_ext (Ev.t rfl) rfl)) rfl ?_; clear S a w; intro a w S)
      (refine st_y S (Yr.ys (ys_assign (Ev.t rfl))) rfl ?_; clear S a w; intro a w S)
      (refine st_y S (Yr.ys (ys_assign (Ev.t rfl))) rfl ?_; clear S a w; intro a w S)
      refine st_nil ?_
      (refine (then_normal (hK4 _ _ ?_)); clear hK4)
      refine wp_seq_k fun _ hK4 => ?_
      refine wp_seq_k fun _ hK5 => ?_
      refine wp_region_lit ?_
      (refine st_y S (Yr.ys (ys_move (Ev.t rfl))) rfl ?_; clear S a w; intro a w S)
      (refine st_y S (Yr.ys (ys_T (by omega) (ys_neq (Ev.t rfl) Ev.c))) rfl ?_; clear S a w; intro a w S)
      refine st_nil ?_
      (refine (then_normal (hK5 _ _ ?_)); clear hK5)
      refine st_then S (Ev.t rfl) ?_
      refine wp_seq_k fun _ hK5 => ?_
      refine wp_region_lit ?_
      (refine st_y S (Yr.ys (ys_ldA ⟨Tryz.isAgg71, Tryz.sizeOf71⟩ (Ev.t rfl) (k := 2) rfl rfl)) rfl ?_; clear S a w; intro a w S)
      (refine st_y S (Yr.ys (ys_move (Ev.t rfl))) rfl ?_; clear S a w; intro a w S)
      (refine st_m (op_stW S Tryz.sizeOf71 (Ev.t rfl) (Ev.t rfl) (k := 3) rfl rfl rfl (by simp [Value.oneCell']) ?_); clear S a w; intro a w S)
      (refine st_y S (Yr.ys (ys_assign (Ev.t rfl))) rfl ?_; clear S a w; intro a w S)
      refine st_nil ?_
      (refine (then_normal (hK5 _ _ ?_)); clear hK5)
      refine wp_ret ?_
      refine (then_ret (in_ret (then_ret (then_ret (in_ret (then_ret ?_))))))
      refine st_ret S (results2 S Tryz.results58 (Rv.cell (k := 3) ⟨Tryz.isAgg71, Tryz.sizeOf71⟩ rfl rfl rfl) (Rv.tmp rfl)) ?_
      have hv : (UInt64.ofNat (leV b k5 i)).toNat = leV b k5 i := by
        rw [UInt64.toNat_ofNat']
        exact Nat.mod_eq_of_lt (Nat.lt_of_lt_of_le (leV_lt b k5 i) (Nat.pow_le_pow_right (n := 256) (by omega) (show i ≤ 8 by omega)))
      refine ⟨_, _, rfl, S.wd.picks (L' := rdr g A cap b (k5 + i) L) (by repeat (first | exact Picks.nil | (refine Picks.rest ?_; (repeat (first | exact List.Sublist.refl _ | refine List.Sublist.cons_cons _ ?_ | refine List.Sublist.cons _ ?_)); done) | refine Picks.take 0 rfl ?_ | refine Picks.take 1 rfl ?_ | refine Picks.take 2 rfl ?_ | refine Picks.take 3 rfl ?_ | refine Picks.take 4 rfl ?_ | refine Picks.take 5 rfl ?_ | refine Picks.take 6 rfl ?_ | refine Picks.take 7 rfl ?_ | refine Picks.take 8 rfl ?_ | refine Picks.take 9 rfl ?_ | refine Picks.take 10 rfl ?_ | refine Picks.take 11 rfl ?_)), ⟨s, ⟨x1, x2, x3⟩, x4, UInt64.ofNat (leV b k5 i)⟩, k5 + i, ?_, rfl, hki, fun h => absurd (he.symm.trans h) (by decide)⟩
      rw [he]
      dsimp only [Ent.enc]
      rw [hv]
  obtain rfl : i = 8 := by omega
  refine wp_seq_k fun _ hK3 => ?_
  refine wp_region_lit ?_
  (refine st_y S (Yr.ys (ys_F (by omega) (ys_lss (Ev.t rfl) Ev.c))) rfl ?_; clear S a w; intro a w S)
  refine st_nil ?_
  (refine (then_normal (hK3 _ _ ?_)); clear hK3)
  refine wp_seq_k fun _ hK3 => ?_
  refine st_else S (Ev.t rfl) ?_
  refine wp_exit ?_
  (refine (then_exit (then_exit (in_here (then_normal (hK1 _ _ ?_))))); clear hK1)
  refine wp_seq_k fun _ hK1 => ?_
  refine wp_region_lit ?_
  (refine st_y S (Yr.ys (ys_ldA ⟨Tryz.isAgg71, Tryz.sizeOf71⟩ (Ev.t rfl) (k := 2) rfl rfl)) rfl ?_; clear S a w; intro a w S)
  (refine st_m (op_stW S Tryz.sizeOf71 (Ev.t rfl) (Ev.t rfl) (k := 3) rfl rfl rfl (by simp [Value.oneCell']) ?_); clear S a w; intro a w S)
  (refine st_y S (Yr.ys (ys_assign Ev.c)) rfl ?_; clear S a w; intro a w S)
  refine st_nil ?_
  (refine (then_normal (hK1 _ _ ?_)); clear hK1)
  refine wp_ret ?_
  refine st_ret S (results2 S Tryz.results58 (Rv.cell (k := 3) ⟨Tryz.isAgg71, Tryz.sizeOf71⟩ rfl rfl rfl) (Rv.tmp rfl)) ?_
  have he : entAt b k = (⟨s, ⟨x1, x2, x3⟩, x4, UInt64.ofNat (leV b k5 8)⟩, k5 + 8, 0) := by rw [hE, t6, if_pos (by omega), bindR_ok rfl]
  have hv : (UInt64.ofNat (leV b k5 8)).toNat = leV b k5 8 := by rw [UInt64.toNat_ofNat']; exact Nat.mod_eq_of_lt (leV_lt b k5 8)
  refine ⟨_, _, rfl, S.wd.picks (L' := rdr g A cap b (k5 + 8) L) (by repeat (first | exact Picks.nil | (refine Picks.rest ?_; (repeat (first | exact List.Sublist.refl _ | refine List.Sublist.cons_cons _ ?_ | refine List.Sublist.cons _ ?_)); done) | refine Picks.take 0 rfl ?_ | refine Picks.take 1 rfl ?_ | refine Picks.take 2 rfl ?_ | refine Picks.take 3 rfl ?_ | refine Picks.take 4 rfl ?_ | refine Picks.take 5 rfl ?_ | refine Picks.take 6 rfl ?_ | refine Picks.take 7 rfl ?_ | refine Picks.take 8 rfl ?_ | refine Picks.take 9 rfl ?_ | refine Picks.take 10 rfl ?_ | refine Picks.take 11 rfl ?_)), (entAt b k).1, k5 + 8, ?_, rfl, hki, fun _ => ⟨rfl, by rw [he]⟩⟩
  rw [he]
  dsimp only [Ent.enc]
  rw [hv]
end Go.Proofs.YtfblmkocmnbdcaaGreat
set_option linter.unusedVariables false
set_option linter.unusedSimpArgs false
set_option maxRecDepth 100000
set_option maxHeartbeats 4000000
namespace Go.Proofs.YtfblmkocmnbdcaaGreat
open Go.Fw Go.Proofs Go.RowKit Go.Proofs.Tryz
theorem c64 {w0 w : World} {L : List Chunk} {g cap k : Nat} {A : Option Addr} {b : List UInt8} (W : Wd w0 (rds g A cap b k L) w) (hs : Sl encB 1 w0 w0.heap.size (.slice A b.length cap) b) (hk : k ≤ b.length) (hb : b.length ≤ 16777216) :
    RetsO Tryz.prog 64 #[.pointer (some ⟨g, 0, none⟩)] w0 w (fun v L' => ∃ x k', v = .tuple #[.agg (Ent.enc x).toArray, .int .i64 (entAt b k).2.2] ∧ L' = rds g A cap b k' L ∧ EntRd b k x k') := by
  have t1 := textR_le (most := 32) hk
  obtain ⟨s, k1, e, hT⟩ : ∃ s k1 e, textR b k 32 = (s, k1, e) := ⟨_, _, _, rfl⟩
  have rw_T1 : (textR b k 32).1 = s := by rw [hT]
  have rw_T2 : (textR b k 32).2.1 = k1 := by rw [hT]
  have rw_T3 : (textR b k 32).2.2 = e := by rw [hT]
  rw [rw_T2] at t1
  by_cases e0 : e = 0
  rotate_left
  · have rw_d : decide (e ≠ 0) = true := decide_eq_true e0
    have he0 : (entAt b k).2.2 = e := by unfold entAt; rw [bindR_bad (by rw [rw_T3]; exact e0), rw_T3]
    unfold Go.Fw.RetsO
    refine enterW1 W func64 rfl ntmps64 rfl fun a S => wp_seq_k fun _ hK1 => wp_region_lit (st_m (op_alloc S zeroValue71 (cs := _) rfl rfl fun g1 a w S => run S (.ac rfl <| .z) fun a w S => st_nil (then_normal (hK1 _ _ (wp_seq_k fun _ hK1 => wp_region_lit (run S (.mv rfl <| .z) fun a w S => ?_))))))
    (replace S := S.pull 1 rfl; try simp only [List.set_cons_zero, List.set_cons_succ, List.eraseIdx_cons_succ, List.eraseIdx_cons_zero] at S; refine st_m (op_callO S call123 (.cons (.t rfl) (.cons Ev.c .nil)) (c123 S.wd (by first | assumption | omega | (dsimp only; omega) | exact Sl.nil_ | exact .old S.wd (by assumption) | exact Sl.of_own S.wd (k := 0) rfl (fun _ => rfl) | exact Sl.of_own S.wd (k := 1) rfl (fun _ => rfl) | (simp at *; omega)) (by first | assumption | omega | (dsimp only; omega) | exact Sl.nil_ | exact .old S.wd (by assumption) | exact Sl.of_own S.wd (k := 0) rfl (fun _ => rfl) | exact Sl.of_own S.wd (k := 1) rfl (fun _ => rfl) | (simp at *; omega)) (by first | assumption | omega | (dsimp only; omega) | exact Sl.nil_ | exact .old S.wd (by assumption) | exact Sl.of_own S.wd (k := 0) rfl (fun _ => rfl) | exact Sl.of_own S.wd (k := 1) rfl (fun _ => rfl) | (simp at *; omega))) rfl ?_) <;> clear S a w)
    rintro _ _ ⟨rfl, rfl⟩ a w S
    rw [rw_T1] at S
    rw [rw_T2] at S
    rw [rw_T3] at S
    refine run S (.mv rfl <| .ex rfl rfl <| .ex rfl rfl <| .as rfl <| .as rfl <| .z) fun a w S => st_nil (then_normal (hK1 _ _ (wp_seq_k fun _ hK1 => sg S (.mv rfl <| .yy (ys_T (by omega) (ys_neq (.t rfl) Ev.c)) rfl <| .z) fun a w S => st_then S (.t rfl) (wp_seq_k fun _ hK2 => wp_region_lit (run S (.yy (ys_bld (ps := []) (us := [_, _, _, _, _, _]) bld71 .nil rfl) rfl <| .mv rfl <| .z) fun a w S => st_m (op_stW S sizeOf71 (.t rfl) (.t rfl) (k := 1) rfl rfl rfl (by simp [Value.oneCell']) fun a w S => run S (.as rfl <| .z) fun a w S => st_nil (then_normal (hK2 _ _ (wp_ret (then_ret (st_ret S (results2 S results64 (Rv.cell (k := 1) ⟨isAgg71, sizeOf71⟩ rfl rfl rfl) (Rv.tmp rfl)) ?_)))))))))))
    exact ⟨_, _, rfl, S.wd.picks (L' := rds g A cap b k1 L) (by repeat (first | exact Picks.nil | (refine Picks.rest ?_; (repeat (first | exact List.Sublist.refl _ | refine List.Sublist.cons_cons _ ?_ | refine List.Sublist.cons _ ?_)); done) | refine Picks.take 0 rfl ?_ | refine Picks.take 1 rfl ?_ | refine Picks.take 2 rfl ?_ | refine Picks.take 3 rfl ?_ | refine Picks.take 4 rfl ?_ | refine Picks.take 5 rfl ?_ | refine Picks.take 6 rfl ?_ | refine Picks.take 7 rfl ?_ | refine Picks.take 8 rfl ?_ | refine Picks.take 9 rfl ?_ | refine Picks.take 10 rfl ?_ | refine Picks.take 11 rfl ?_)), Ent.none, k1, by rw [he0]; rfl, rfl, t1.2, fun h => absurd (he0.symm.trans h) e0⟩
  subst e0
  obtain ⟨x1, k2, e1, hN1⟩ : ∃ x k e, numAt b k1 = (x, k, e) := ⟨_, _, _, rfl⟩
  have t2 := numAt_le (b := b) (k := k1) (by omega)
  have rw_N1a : (numAt b k1).1 = x1 := by rw [hN1]
  have rw_N1b : (numAt b k1).2.1 = k2 := by rw [hN1]
  have rw_N1c : (numAt b k1).2.2 = e1 := by rw [hN1]
  rw [rw_N1b] at t2
  have he1 : e1 ≠ 0 → (entAt b k).2.2 = e1 := fun h => by
    unfold entAt
    rw [hT, bindR_ok rfl]
    dsimp only
    rw [hN1, bindR_bad (by exact h)]
  by_cases h1 : e1 = 0
  rotate_left
  · have rw_d : decide (e1 ≠ 0) = true := decide_eq_true h1
    unfold Go.Fw.RetsO
    refine enterW1 W func64 rfl ntmps64 rfl fun a S => wp_seq_k fun _ hK1 => wp_region_lit (st_m (op_alloc S zeroValue71 (cs := _) rfl rfl fun g1 a w S => run S (.ac rfl <| .z) fun a w S => st_nil (then_normal (hK1 _ _ (wp_seq_k fun _ hK1 => wp_region_lit (run S (.mv rfl <| .z) fun a w S => ?_))))))
    (replace S := S.pull 1 rfl; try simp only [List.set_cons_zero, List.set_cons_succ, List.eraseIdx_cons_succ, List.eraseIdx_cons_zero] at S; refine st_m (op_callO S call123 (.cons (.t rfl) (.cons Ev.c .nil)) (c123 S.wd (by first | assumption | omega | (dsimp only; omega) | exact Sl.nil_ | exact .old S.wd (by assumption) | exact Sl.of_own S.wd (k := 0) rfl (fun _ => rfl) | exact Sl.of_own S.wd (k := 1) rfl (fun _ => rfl) | (simp at *; omega)) (by first | assumption | omega | (dsimp only; omega) | exact Sl.nil_ | exact .old S.wd (by assumption) | exact Sl.of_own S.wd (k := 0) rfl (fun _ => rfl) | exact Sl.of_own S.wd (k := 1) rfl (fun _ => rfl) | (simp at *; omega)) (by first | assumption | omega | (dsimp only; omega) | exact Sl.nil_ | exact .old S.wd (by assumption) | exact Sl.of_own S.wd (k := 0) rfl (fun _ => rfl) | exact Sl.of_own S.wd (k := 1) rfl (fun _ => rfl) | (simp at *; omega))) rfl ?_) <;> clear S a w)
    rintro _ _ ⟨rfl, rfl⟩ a w S
    rw [rw_T1] at S
    rw [rw_T2] at S
    rw [rw_T3] at S
    refine run S (.mv rfl <| .ex rfl rfl <| .ex rfl rfl <| .as rfl <| .as rfl <| .z) fun a w S => st_nil (then_normal (hK1 _ _ (wp_seq_k fun _ hK1 => sg S (.mv rfl <| .yy (ys_F (by omega) (ys_neq (.t rfl) Ev.c)) rfl <| .z) fun a w S => st_else S (.t rfl) (wp_skip (then_normal (hK1 _ _ (wp_seq_k fun _ hK1 => wp_region_lit (st_m (op_alloc S zeroValue153 (cs := _) rfl rfl fun g2 a w S => st_nil (then_normal (hK1 _ _ (wp_seq_k fun _ hK1 => sg S (.mc rfl <| .z) fun a w S => wp_block (st_rounds 5 (st_round (sg S (.yy (ys_T (by omega) (ys_lss (.t rfl) Ev.c)) rfl <| .z) fun a w S => wp_seq_k fun _ hK2 => st_then S (.t rfl) (wp_skip (then_normal (hK2 _ _ (wp_seq_k fun _ hK2 => wp_block (sg S (.mv rfl <| .as rfl <| .z) fun a w S => wp_seq_k fun _ hK3 => wp_region_lit (run S (.mv rfl <| .z) fun a w S => ?_)))))))))))))))))))))
    (replace S := S.pull 1 rfl; try simp only [List.set_cons_zero, List.set_cons_succ, List.eraseIdx_cons_succ, List.eraseIdx_cons_zero] at S; refine st_m (op_callO S call63 (.cons (.t rfl) .nil) (c63 S.wd (by first | assumption | omega | (dsimp only; omega) | exact Sl.nil_ | exact .old S.wd (by assumption) | exact Sl.of_own S.wd (k := 0) rfl (fun _ => rfl) | exact Sl.of_own S.wd (k := 1) rfl (fun _ => rfl) | exact Sl.of_own S.wd (k := 2) rfl (fun _ => rfl) | (simp at *; omega)) (by first | assumption | omega | (dsimp only; omega) | exact Sl.nil_ | exact .old S.wd (by assumption) | exact Sl.of_own S.wd (k := 0) rfl (fun _ => rfl) | exact Sl.of_own S.wd (k := 1) rfl (fun _ => rfl) | exact Sl.of_own S.wd (k := 2) rfl (fun _ => rfl) | (simp at *; omega)) (by first | assumption | omega | (dsimp only; omega) | exact Sl.nil_ | exact .old S.wd (by assumption) | exact Sl.of_own S.wd (k := 0) rfl (fun _ => rfl) | exact Sl.of_own S.wd (k := 1) rfl (fun _ => rfl) | exact Sl.of_own S.wd (k := 2) rfl (fun _ => rfl) | (simp at *; omega))) rfl ?_) <;> clear S a w)
    rintro _ _ ⟨rfl, rfl⟩ a w S
    rw [rw_N1a] at S
    rw [rw_N1b] at S
    rw [rw_N1c] at S
    refine run S (.mv rfl <| .ex rfl rfl <| .ex rfl rfl <| .as rfl <| .as rfl <| .z) fun a w S => st_nil (then_normal (hK3 _ _ (wp_seq_k fun _ hK3 => sg S (.mv rfl <| .yy (ys_T (by omega) (ys_neq (.t rfl) Ev.c)) rfl <| .z) fun a w S => st_then S (.t rfl) (wp_seq_k fun _ hK4 => wp_region_lit (run S (.yy (ys_bld (ps := []) (us := [_, _, _, _, _, _]) bld71 .nil rfl) rfl <| .mv rfl <| .z) fun a w S => st_m (op_stW S sizeOf71 (.t rfl) (.t rfl) (k := 2) rfl rfl rfl (by simp [Value.oneCell']) fun a w S => run S (.as rfl <| .z) fun a w S => st_nil (then_normal (hK4 _ _ (wp_ret (then_ret (in_ret (then_ret (then_ret (in_ret (then_ret (st_ret S (results2 S results64 (Rv.cell (k := 2) ⟨isAgg71, sizeOf71⟩ rfl rfl rfl) (Rv.tmp rfl)) ?_))))))))))))))))
    exact ⟨_, _, rfl, S.wd.picks (L' := rds g A cap b k2 L) (by repeat (first | exact Picks.nil | (refine Picks.rest ?_; (repeat (first | exact List.Sublist.refl _ | refine List.Sublist.cons_cons _ ?_ | refine List.Sublist.cons _ ?_)); done) | refine Picks.take 0 rfl ?_ | refine Picks.take 1 rfl ?_ | refine Picks.take 2 rfl ?_ | refine Picks.take 3 rfl ?_ | refine Picks.take 4 rfl ?_ | refine Picks.take 5 rfl ?_ | refine Picks.take 6 rfl ?_ | refine Picks.take 7 rfl ?_ | refine Picks.take 8 rfl ?_ | refine Picks.take 9 rfl ?_ | refine Picks.take 10 rfl ?_ | refine Picks.take 11 rfl ?_)), Ent.none, k2, by rw [he1 h1]; rfl, rfl, by omega, fun h => absurd ((he1 h1).symm.trans h) h1⟩
  subst h1
  unfold Go.Fw.RetsO
  refine enterW1 W func64 rfl ntmps64 rfl fun a S => wp_seq_k fun _ hK1 => wp_region_lit (st_m (op_alloc S zeroValue71 (cs := _) rfl rfl fun g1 a w S => run S (.ac rfl <| .z) fun a w S => st_nil (then_normal (hK1 _ _ (wp_seq_k fun _ hK1 => wp_region_lit (run S (.mv rfl <| .z) fun a w S => ?_))))))
  (replace S := S.pull 1 rfl; try simp only [List.set_cons_zero, List.set_cons_succ, List.eraseIdx_cons_succ, List.eraseIdx_cons_zero] at S; refine st_m (op_callO S call123 (.cons (.t rfl) (.cons Ev.c .nil)) (c123 S.wd (by first | assumption | omega | (dsimp only; omega) | exact Sl.nil_ | exact .old S.wd (by assumption) | exact Sl.of_own S.wd (k := 0) rfl (fun _ => rfl) | exact Sl.of_own S.wd (k := 1) rfl (fun _ => rfl) | (simp at *; omega)) (by first | assumption | omega | (dsimp only; omega) | exact Sl.nil_ | exact .old S.wd (by assumption) | exact Sl.of_own S.wd (k := 0) rfl (fun _ => rfl) | exact Sl.of_own S.wd (k := 1) rfl (fun _ => rfl) | (simp at *; omega)) (by first | assumption | omega | (dsimp only; omega) | exact Sl.nil_ | exact .old S.wd (by assumption) | exact Sl.of_own S.wd (k := 0) rfl (fun _ => rfl) | exact Sl.of_own S.wd (k := 1) rfl (fun _ => rfl) | (simp at *; omega))) rfl ?_) <;> clear S a w)
  rintro _ _ ⟨rfl, rfl⟩ a w S
  rw [rw_T1] at S
  rw [rw_T2] at S
  rw [rw_T3] at S
  refine run S (.mv rfl <| .ex rfl rfl <| .ex rfl rfl <| .as rfl <| .as rfl <| .z) fun a w S => st_nil (then_normal (hK1 _ _ (wp_seq_k fun _ hK1 => sg S (.mv rfl <| .yy (ys_F (by omega) (ys_neq (.t rfl) Ev.c)) rfl <| .z) fun a w S => st_else S (.t rfl) (wp_skip (then_normal (hK1 _ _ (wp_seq_k fun _ hK1 => wp_region_lit (st_m (op_alloc S zeroValue153 (cs := _) rfl rfl fun g2 a w S => st_nil (then_normal (hK1 _ _ (wp_seq_k fun _ hK1 => sg S (.mc rfl <| .z) fun a w S => wp_block (st_rounds 5 (st_round (sg S (.yy (ys_T (by omega) (ys_lss (.t rfl) Ev.c)) rfl <| .z) fun a w S => wp_seq_k fun _ hK2 => st_then S (.t rfl) (wp_skip (then_normal (hK2 _ _ (wp_seq_k fun _ hK2 => wp_block (sg S (.mv rfl <| .as rfl <| .z) fun a w S => wp_seq_k fun _ hK3 => wp_region_lit (run S (.mv rfl <| .z) fun a w S => ?_)))))))))))))))))))))
  (replace S := S.pull 1 rfl; try simp only [List.set_cons_zero, List.set_cons_succ, List.eraseIdx_cons_succ, List.eraseIdx_cons_zero] at S; refine st_m (op_callO S call63 (.cons (.t rfl) .nil) (c63 S.wd (by first | assumption | omega | (dsimp only; omega) | exact Sl.nil_ | exact .old S.wd (by assumption) | exact Sl.of_own S.wd (k := 0) rfl (fun _ => rfl) | exact Sl.of_own S.wd (k := 1) rfl (fun _ => rfl) | exact Sl.of_own S.wd (k := 2) rfl (fun _ => rfl) | (simp at *; omega)) (by first | assumption | omega | (dsimp only; omega) | exact Sl.nil_ | exact .old S.wd (by assumption) | exact Sl.of_own S.wd (k := 0) rfl (fun _ => rfl) | exact Sl.of_own S.wd (k := 1) rfl (fun _ => rfl) | exact Sl.of_own S.wd (k := 2) rfl (fun _ => rfl) | (simp at *; omega)) (by first | assumption | omega | (dsimp only; omega) | exact Sl.nil_ | exact .old S.wd (by assumption) | exact Sl.of_own S.wd (k := 0) rfl (fun _ => rfl) | exact Sl.of_own S.wd (k := 1) rfl (fun _ => rfl) | exact Sl.of_own S.wd (k := 2) rfl (fun _ => rfl) | (simp at *; omega))) rfl ?_) <;> clear S a w)
  rintro _ _ ⟨rfl, rfl⟩ a w S
  rw [rw_N1a] at S
  rw [rw_N1b] at S
  rw [rw_N1c] at S
  refine run S (.mv rfl <| .ex rfl rfl <| .ex rfl rfl <| .as rfl <| .as rfl <| .z) fun a w S => st_nil (then_normal (hK3 _ _ (wp_seq_k fun _ hK3 => sg S (.mv rfl <| .yy (ys_F (by omega) (ys_neq (.t rfl) Ev.c)) rfl <| .z) fun a w S => st_else S (.t rfl) (wp_skip (then_normal (hK3 _ _ (wp_region_lit (run S (.mv rfl <| .mv rfl <| .yy (ys_ixA (j := 0) underlying153 sizeOf3 (.t rfl) (.t rfl) (fun _ => by decide)) rfl <| .z) fun a w S => st_m (op_st S sizeOf3 (.t rfl) (.t rfl) (k := 1) rfl rfl (by simp) fun a w S => st_nil (in_normal (then_normal (hK2 _ _ (wp_region_lit (run S (.ad (by unfold I64; omega) rfl <| .mv rfl <| .z) fun a w S => st_nil (then_normal ?_)))))))))))))))
  obtain ⟨x2, k3, e2, hN2⟩ : ∃ x k e, numAt b k2 = (x, k, e) := ⟨_, _, _, rfl⟩
  have t3 := numAt_le (b := b) (k := k2) (by omega)
  have rw_N2a : (numAt b k2).1 = x2 := by rw [hN2]
  have rw_N2b : (numAt b k2).2.1 = k3 := by rw [hN2]
  have rw_N2c : (numAt b k2).2.2 = e2 := by rw [hN2]
  rw [rw_N2b] at t3
  have he2 : e2 ≠ 0 → (entAt b k).2.2 = e2 := fun h => by
    unfold entAt
    rw [hT, bindR_ok rfl]
    dsimp only
    rw [hN1, bindR_ok rfl]
    dsimp only
    rw [hN2, bindR_bad (by exact h)]
  by_cases h2 : e2 = 0
  rotate_left
  · have rw_d : decide (e2 ≠ 0) = true := decide_eq_true h2
    refine st_round (sg S (.yy (ys_T (by omega) (ys_lss (.t rfl) Ev.c)) rfl <| .z) fun a w S => wp_seq_k fun _ hK2 => st_then S (.t rfl) (wp_skip (then_normal (hK2 _ _ (wp_seq_k fun _ hK2 => wp_block (sg S (.mv rfl <| .as rfl <| .z) fun a w S => wp_seq_k fun _ hK3 => wp_region_lit (run S (.mv rfl <| .z) fun a w S => ?_)))))))
    (refine st_m (op_callO S call63 (.cons (.t rfl) .nil) (c63 S.wd (by first | assumption | omega | (dsimp only; omega) | exact Sl.nil_ | exact .old S.wd (by assumption) | exact Sl.of_own S.wd (k := 0) rfl (fun _ => rfl) | exact Sl.of_own S.wd (k := 1) rfl (fun _ => rfl) | exact Sl.of_own S.wd (k := 2) rfl (fun _ => rfl) | (simp at *; omega)) (by first | assumption | omega | (dsimp only; omega) | exact Sl.nil_ | exact .old S.wd (by assumption) | exact Sl.of_own S.wd (k := 0) rfl (fun _ => rfl) | exact Sl.of_own S.wd (k := 1) rfl (fun _ => rfl) | exact Sl.of_own S.wd (k := 2) rfl (fun _ => rfl) | (simp at *; omega)) (by first | assumption | omega | (dsimp only; omega) | exact Sl.nil_ | exact .old S.wd (by assumption) | exact Sl.of_own S.wd (k := 0) rfl (fun _ => rfl) | exact Sl.of_own S.wd (k := 1) rfl (fun _ => rfl) | exact Sl.of_own S.wd (k := 2) rfl (fun _ => rfl) | (simp at *; omega))) rfl ?_) <;> clear S a w)
    rintro _ _ ⟨rfl, rfl⟩ a w S
    rw [rw_N2a] at S
    rw [rw_N2b] at S
    rw [rw_N2c] at S
    refine run S (.mv rfl <| .ex rfl rfl <| .ex rfl rfl <| .as rfl <| .as rfl <| .z) fun a w S => st_nil (then_normal (hK3 _ _ (wp_seq_k fun _ hK3 => sg S (.mv rfl <| .yy (ys_T (by omega) (ys_neq (.t rfl) Ev.c)) rfl <| .z) fun a w S => st_then S (.t rfl) (wp_seq_k fun _ hK4 => wp_region_lit (run S (.yy (ys_bld (ps := []) (us := [_, _, _, _, _, _]) bld71 .nil rfl) rfl <| .mv rfl <| .z) fun a w S => st_m (op_stW S sizeOf71 (.t rfl) (.t rfl) (k := 2) rfl rfl rfl (by simp [Value.oneCell']) fun a w S => run S (.as rfl <| .z) fun a w S => st_nil (then_normal (hK4 _ _ (wp_ret (then_ret (in_ret (then_ret (then_ret (in_ret (then_ret (st_ret S (results2 S results64 (Rv.cell (k := 2) ⟨isAgg71, sizeOf71⟩ rfl rfl rfl) (Rv.tmp rfl)) ?_))))))))))))))))
    exact ⟨_, _, rfl, S.wd.picks (L' := rds g A cap b k3 L) (by repeat (first | exact Picks.nil | (refine Picks.rest ?_; (repeat (first | exact List.Sublist.refl _ | refine List.Sublist.cons_cons _ ?_ | refine List.Sublist.cons _ ?_)); done) | refine Picks.take 0 rfl ?_ | refine Picks.take 1 rfl ?_ | refine Picks.take 2 rfl ?_ | refine Picks.take 3 rfl ?_ | refine Picks.take 4 rfl ?_ | refine Picks.take 5 rfl ?_ | refine Picks.take 6 rfl ?_ | refine Picks.take 7 rfl ?_ | refine Picks.take 8 rfl ?_ | refine Picks.take 9 rfl ?_ | refine Picks.take 10 rfl ?_ | refine Picks.take 11 rfl ?_)), Ent.none, k3, by rw [he2 h2]; rfl, rfl, by omega, fun h => absurd ((he2 h2).symm.trans h) h2⟩
  subst h2
  refine st_round (sg S (.yy (ys_T (by omega) (ys_lss (.t rfl) Ev.c)) rfl <| .z) fun a w S => wp_seq_k fun _ hK2 => st_then S (.t rfl) (wp_skip (then_normal (hK2 _ _ (wp_seq_k fun _ hK2 => wp_block (sg S (.mv rfl <| .as rfl <| .z) fun a w S => wp_seq_k fun _ hK3 => wp_region_lit (run S (.mv rfl <| .z) fun a w S => ?_)))))))
  (refine st_m (op_callO S call63 (.cons (.t rfl) .nil) (c63 S.wd (by first | assumption | omega | (dsimp only; omega) | exact Sl.nil_ | exact .old S.wd (by assumption) | exact Sl.of_own S.wd (k := 0) rfl (fun _ => rfl) | exact Sl.of_own S.wd (k := 1) rfl (fun _ => rfl) | exact Sl.of_own S.wd (k := 2) rfl (fun _ => rfl) | (simp at *; omega)) (by first | assumption | omega | (dsimp only; omega) | exact Sl.nil_ | exact .old S.wd (by assumption) | exact Sl.of_own S.wd (k := 0) rfl (fun _ => rfl) | exact Sl.of_own S.wd (k := 1) rfl (fun _ => rfl) | exact Sl.of_own S.wd (k := 2) rfl (fun _ => rfl) | (simp at *; omega)) (by first | assumption | omega | (dsimp only; omega) | exact Sl.nil_ | exact .old S.wd (by assumption) | exact Sl.of_own S.wd (k := 0) rfl (fun _ => rfl) | exact Sl.of_own S.wd (k := 1) rfl (fun _ => rfl) | exact Sl.of_own S.wd (k := 2) rfl (fun _ => rfl) | (simp at *; omega))) rfl ?_) <;> clear S a w)
  rintro _ _ ⟨rfl, rfl⟩ a w S
  rw [rw_N2a] at S
  rw [rw_N2b] at S
  rw [rw_N2c] at S
  refine run S (.mv rfl <| .ex rfl rfl <| .ex rfl rfl <| .as rfl <| .as rfl <| .z) fun a w S => st_nil (then_normal (hK3 _ _ (wp_seq_k fun _ hK3 => sg S (.mv rfl <| .yy (ys_F (by omega) (ys_neq (.t rfl) Ev.c)) rfl <| .z) fun a w S => st_else S (.t rfl) (wp_skip (then_normal (hK3 _ _ (wp_region_lit (run S (.mv rfl <| .mv rfl <| .yy (ys_ixAI underlying153 sizeOf3 (.t rfl) (.t rfl) (fun _ => by omega)) rfl <| .z) fun a w S => st_m (op_st S sizeOf3 (.t rfl) (.t rfl) (k := 1) rfl rfl (by simp) fun a w S => st_nil (in_normal (then_normal (hK2 _ _ (wp_region_lit (run S (.ad (by unfold I64; omega) rfl <| .mv rfl <| .z) fun a w S => st_nil (then_normal ?_)))))))))))))))
  obtain ⟨x3, k4, e3, hN3⟩ : ∃ x k e, numAt b k3 = (x, k, e) := ⟨_, _, _, rfl⟩
  have t4 := numAt_le (b := b) (k := k3) (by omega)
  have rw_N3a : (numAt b k3).1 = x3 := by rw [hN3]
  have rw_N3b : (numAt b k3).2.1 = k4 := by rw [hN3]
  have rw_N3c : (numAt b k3).2.2 = e3 := by rw [hN3]
  rw [rw_N3b] at t4
  have he3 : e3 ≠ 0 → (entAt b k).2.2 = e3 := fun h => by
    unfold entAt
    rw [hT, bindR_ok rfl]
    dsimp only
    rw [hN1, bindR_ok rfl]
    dsimp only
    rw [hN2, bindR_ok rfl]
    dsimp only
    rw [hN3, bindR_bad (by exact h)]
  by_cases h3 : e3 = 0
  rotate_left
  · have rw_d : decide (e3 ≠ 0) = true := decide_eq_true h3
    refine st_round (sg S (.yy (ys_T (by omega) (ys_lss (.t rfl) Ev.c)) rfl <| .z) fun a w S => wp_seq_k fun _ hK2 => st_then S (.t rfl) (wp_skip (then_normal (hK2 _ _ (wp_seq_k fun _ hK2 => wp_block (sg S (.mv rfl <| .as rfl <| .z) fun a w S => wp_seq_k fun _ hK3 => wp_region_lit (run S (.mv rfl <| .z) fun a w S => ?_)))))))
    (refine st_m (op_callO S call63 (.cons (.t rfl) .nil) (c63 S.wd (by first | assumption | omega | (dsimp only; omega) | exact Sl.nil_ | exact .old S.wd (by assumption) | exact Sl.of_own S.wd (k := 0) rfl (fun _ => rfl) | exact Sl.of_own S.wd (k := 1) rfl (fun _ => rfl) | exact Sl.of_own S.wd (k := 2) rfl (fun _ => rfl) | (simp at *; omega)) (by first | assumption | omega | (dsimp only; omega) | exact Sl.nil_ | exact .old S.wd (by assumption) | exact Sl.of_own S.wd (k := 0) rfl (fun _ => rfl) | exact Sl.of_own S.wd (k := 1) rfl (fun _ => rfl) | exact Sl.of_own S.wd (k := 2) rfl (fun _ => rfl) | (simp at *; omega)) (by first | assumption | omega | (dsimp only; omega) | exact Sl.nil_ | exact .old S.wd (by assumption) | exact Sl.of_own S.wd (k := 0) rfl (fun _ => rfl) | exact Sl.of_own S.wd (k := 1) rfl (fun _ => rfl) | exact Sl.of_own S.wd (k := 2) rfl (fun _ => rfl) | (simp at *; omega))) rfl ?_) <;> clear S a w)
    rintro _ _ ⟨rfl, rfl⟩ a w S
    rw [rw_N3a] at S
    rw [rw_N3b] at S
    rw [rw_N3c] at S
    refine run S (.mv rfl <| .ex rfl rfl <| .ex rfl rfl <| .as rfl <| .as rfl <| .z) fun a w S => st_nil (then_normal (hK3 _ _ (wp_seq_k fun _ hK3 => sg S (.mv rfl <| .yy (ys_T (by omega) (ys_neq (.t rfl) Ev.c)) rfl <| .z) fun a w S => st_then S (.t rfl) (wp_seq_k fun _ hK4 => wp_region_lit (run S (.yy (ys_bld (ps := []) (us := [_, _, _, _, _, _]) bld71 .nil rfl) rfl <| .mv rfl <| .z) fun a w S => st_m (op_stW S sizeOf71 (.t rfl) (.t rfl) (k := 2) rfl rfl rfl (by simp [Value.oneCell']) fun a w S => run S (.as rfl <| .z) fun a w S => st_nil (then_normal (hK4 _ _ (wp_ret (then_ret (in_ret (then_ret (then_ret (in_ret (then_ret (st_ret S (results2 S results64 (Rv.cell (k := 2) ⟨isAgg71, sizeOf71⟩ rfl rfl rfl) (Rv.tmp rfl)) ?_))))))))))))))))
    exact ⟨_, _, rfl, S.wd.picks (L' := rds g A cap b k4 L) (by repeat (first | exact Picks.nil | (refine Picks.rest ?_; (repeat (first | exact List.Sublist.refl _ | refine List.Sublist.cons_cons _ ?_ | refine List.Sublist.cons _ ?_)); done) | refine Picks.take 0 rfl ?_ | refine Picks.take 1 rfl ?_ | refine Picks.take 2 rfl ?_ | refine Picks.take 3 rfl ?_ | refine Picks.take 4 rfl ?_ | refine Picks.take 5 rfl ?_ | refine Picks.take 6 rfl ?_ | refine Picks.take 7 rfl ?_ | refine Picks.take 8 rfl ?_ | refine Picks.take 9 rfl ?_ | refine Picks.take 10 rfl ?_ | refine Picks.take 11 rfl ?_)), Ent.none, k4, by rw [he3 h3]; rfl, rfl, by omega, fun h => absurd ((he3 h3).symm.trans h) h3⟩
  subst h3
  refine st_round (sg S (.yy (ys_T (by omega) (ys_lss (.t rfl) Ev.c)) rfl <| .z) fun a w S => wp_seq_k fun _ hK2 => st_then S (.t rfl) (wp_skip (then_normal (hK2 _ _ (wp_seq_k fun _ hK2 => wp_block (sg S (.mv rfl <| .as rfl <| .z) fun a w S => wp_seq_k fun _ hK3 => wp_region_lit (run S (.mv rfl <| .z) fun a w S => ?_)))))))
  (refine st_m (op_callO S call63 (.cons (.t rfl) .nil) (c63 S.wd (by first | assumption | omega | (dsimp only; omega) | exact Sl.nil_ | exact .old S.wd (by assumption) | exact Sl.of_own S.wd (k := 0) rfl (fun _ => rfl) | exact Sl.of_own S.wd (k := 1) rfl (fun _ => rfl) | exact Sl.of_own S.wd (k := 2) rfl (fun _ => rfl) | (simp at *; omega)) (by first | assumption | omega | (dsimp only; omega) | exact Sl.nil_ | exact .old S.wd (by assumption) | exact Sl.of_own S.wd (k := 0) rfl (fun _ => rfl) | exact Sl.of_own S.wd (k := 1) rfl (fun _ => rfl) | exact Sl.of_own S.wd (k := 2) rfl (fun _ => rfl) | (simp at *; omega)) (by first | assumption | omega | (dsimp only; omega) | exact Sl.nil_ | exact .old S.wd (by assumption) | exact Sl.of_own S.wd (k := 0) rfl (fun _ => rfl) | exact Sl.of_own S.wd (k := 1) rfl (fun _ => rfl) | exact Sl.of_own S.wd (k := 2) rfl (fun _ => rfl) | (simp at *; omega))) rfl ?_) <;> clear S a w)
  rintro _ _ ⟨rfl, rfl⟩ a w S
  rw [rw_N3a] at S
  rw [rw_N3b] at S
  rw [rw_N3c] at S
  refine run S (.mv rfl <| .ex rfl rfl <| .ex rfl rfl <| .as rfl <| .as rfl <| .z) fun a w S => st_nil (then_normal (hK3 _ _ (wp_seq_k fun _ hK3 => sg S (.mv rfl <| .yy (ys_F (by omega) (ys_neq (.t rfl) Ev.c)) rfl <| .z) fun a w S => st_else S (.t rfl) (wp_skip (then_normal (hK3 _ _ (wp_region_lit (run S (.mv rfl <| .mv rfl <| .yy (ys_ixAI underlying153 sizeOf3 (.t rfl) (.t rfl) (fun _ => by omega)) rfl <| .z) fun a w S => st_m (op_st S sizeOf3 (.t rfl) (.t rfl) (k := 1) rfl rfl (by simp) fun a w S => st_nil (in_normal (then_normal (hK2 _ _ (wp_region_lit (run S (.ad (by unfold I64; omega) rfl <| .mv rfl <| .z) fun a w S => st_nil (then_normal ?_)))))))))))))))
  obtain ⟨x4, k5, e4, hN4⟩ : ∃ x k e, numAt b k4 = (x, k, e) := ⟨_, _, _, rfl⟩
  have t5 := numAt_le (b := b) (k := k4) (by omega)
  have rw_N4a : (numAt b k4).1 = x4 := by rw [hN4]
  have rw_N4b : (numAt b k4).2.1 = k5 := by rw [hN4]
  have rw_N4c : (numAt b k4).2.2 = e4 := by rw [hN4]
  rw [rw_N4b] at t5
  have he4 : e4 ≠ 0 → (entAt b k).2.2 = e4 := fun h => by
    unfold entAt
    rw [hT, bindR_ok rfl]
    dsimp only
    rw [hN1, bindR_ok rfl]
    dsimp only
    rw [hN2, bindR_ok rfl]
    dsimp only
    rw [hN3, bindR_ok rfl]
    dsimp only
    rw [hN4, bindR_bad (by exact h)]
  by_cases h4 : e4 = 0
  rotate_left
  · have rw_d : decide (e4 ≠ 0) = true := decide_eq_true h4
    refine st_round (sg S (.yy (ys_T (by omega) (ys_lss (.t rfl) Ev.c)) rfl <| .z) fun a w S => wp_seq_k fun _ hK2 => st_then S (.t rfl) (wp_skip (then_normal (hK2 _ _ (wp_seq_k fun _ hK2 => wp_block (sg S (.mv rfl <| .as rfl <| .z) fun a w S => wp_seq_k fun _ hK3 => wp_region_lit (run S (.mv rfl <| .z) fun a w S => ?_)))))))
    (refine st_m (op_callO S call63 (.cons (.t rfl) .nil) (c63 S.wd (by first | assumption | omega | (dsimp only; omega) | exact Sl.nil_ | exact .old S.wd (by assumption) | exact Sl.of_own S.wd (k := 0) rfl (fun _ => rfl) | exact Sl.of_own S.wd (k := 1) rfl (fun _ => rfl) | exact Sl.of_own S.wd (k := 2) rfl (fun _ => rfl) | (simp at *; omega)) (by first | assumption | omega | (dsimp only; omega) | exact Sl.nil_ | exact .old S.wd (by assumption) | exact Sl.of_own S.wd (k := 0) rfl (fun _ => rfl) | exact Sl.of_own S.wd (k := 1) rfl (fun _ => rfl) | exact Sl.of_own S.wd (k := 2) rfl (fun _ => rfl) | (simp at *; omega)) (by first | assumption | omega | (dsimp only; omega) | exact Sl.nil_ | exact .old S.wd (by assumption) | exact Sl.of_own S.wd (k := 0) rfl (fun _ => rfl) | exact Sl.of_own S.wd (k := 1) rfl (fun _ => rfl) | exact Sl.of_own S.wd (k := 2) rfl (fun _ => rfl) | (simp at *; omega))) rfl ?_) <;> clear S a w)
    rintro _ _ ⟨rfl, rfl⟩ a w S
    rw [rw_N4a] at S
    rw [rw_N4b] at S
    rw [rw_N4c] at S
    refine run S (.mv rfl <| .ex rfl rfl <| .ex rfl rfl <| .as rfl <| .as rfl <| .z) fun a w S => st_nil (then_normal (hK3 _ _ (wp_seq_k fun _ hK3 => sg S (.mv rfl <| .yy (ys_T (by omega) (ys_neq (.t rfl) Ev.c)) rfl <| .z) fun a w S => st_then S (.t rfl) (wp_seq_k fun _ hK4 => wp_region_lit (run S (.yy (ys_bld (ps := []) (us := [_, _, _, _, _, _]) bld71 .nil rfl) rfl <| .mv rfl <| .z) fun a w S => st_m (op_stW S sizeOf71 (.t rfl) (.t rfl) (k := 2) rfl rfl rfl (by simp [Value.oneCell']) fun a w S => run S (.as rfl <| .z) fun a w S => st_nil (then_normal (hK4 _ _ (wp_ret (then_ret (in_ret (then_ret (then_ret (in_ret (then_ret (st_ret S (results2 S results64 (Rv.cell (k := 2) ⟨isAgg71, sizeOf71⟩ rfl rfl rfl) (Rv.tmp rfl)) ?_))))))))))))))))
    exact ⟨_, _, rfl, S.wd.picks (L' := rds g A cap b k5 L) (by repeat (first | exact Picks.nil | (refine Picks.rest ?_; (repeat (first | exact List.Sublist.refl _ | refine List.Sublist.cons_cons _ ?_ | refine List.Sublist.cons _ ?_)); done) | refine Picks.take 0 rfl ?_ | refine Picks.take 1 rfl ?_ | refine Picks.take 2 rfl ?_ | refine Picks.take 3 rfl ?_ | refine Picks.take 4 rfl ?_ | refine Picks.take 5 rfl ?_ | refine Picks.take 6 rfl ?_ | refine Picks.take 7 rfl ?_ | refine Picks.take 8 rfl ?_ | refine Picks.take 9 rfl ?_ | refine Picks.take 10 rfl ?_ | refine Picks.take 11 rfl ?_)), Ent.none, k5, by rw [he4 h4]; rfl, rfl, by omega, fun h => absurd ((he4 h4).symm.trans h) h4⟩
  subst h4
  refine st_round (sg S (.yy (ys_T (by omega) (ys_lss (.t rfl) Ev.c)) rfl <| .z) fun a w S => wp_seq_k fun _ hK2 => st_then S (.t rfl) (wp_skip (then_normal (hK2 _ _ (wp_seq_k fun _ hK2 => wp_block (sg S (.mv rfl <| .as rfl <| .z) fun a w S => wp_seq_k fun _ hK3 => wp_region_lit (run S (.mv rfl <| .z) fun a w S => ?_)))))))
  (refine st_m (op_callO S call63 (.cons (.t rfl) .nil) (c63 S.wd (by first | assumption | omega | (dsimp only; omega) | exact Sl.nil_ | exact .old S.wd (by assumption) | exact Sl.of_own S.wd (k := 0) rfl (fun _ => rfl) | exact Sl.of_own S.wd (k := 1) rfl (fun _ => rfl) | exact Sl.of_own S.wd (k := 2) rfl (fun _ => rfl) | (simp at *; omega)) (by first | assumption | omega | (dsimp only; omega) | exact Sl.nil_ | exact .old S.wd (by assumption) | exact Sl.of_own S.wd (k := 0) rfl (fun _ => rfl) | exact Sl.of_own S.wd (k := 1) rfl (fun _ => rfl) | exact Sl.of_own S.wd (k := 2) rfl (fun _ => rfl) | (simp at *; omega)) (by first | assumption | omega | (dsimp only; omega) | exact Sl.nil_ | exact .old S.wd (by assumption) | exact Sl.of_own S.wd (k := 0) rfl (fun _ => rfl) | exact Sl.of_own S.wd (k := 1) rfl (fun _ => rfl) | exact Sl.of_own S.wd (k := 2) rfl (fun _ => rfl) | (simp at *; omega))) rfl ?_) <;> clear S a w)
  rintro _ _ ⟨rfl, rfl⟩ a w S
  rw [rw_N4a] at S
  rw [rw_N4b] at S
  rw [rw_N4c] at S
  refine run S (.mv rfl <| .ex rfl rfl <| .ex rfl rfl <| .as rfl <| .as rfl <| .z) fun a w S => st_nil (then_normal (hK3 _ _ (wp_seq_k fun _ hK3 => sg S (.mv rfl <| .yy (ys_F (by omega) (ys_neq (.t rfl) Ev.c)) rfl <| .z) fun a w S => st_else S (.t rfl) (wp_skip (then_normal (hK3 _ _ (wp_region_lit (run S (.mv rfl <| .mv rfl <| .yy (ys_ixAI underlying153 sizeOf3 (.t rfl) (.t rfl) (fun _ => by omega)) rfl <| .z) fun a w S => st_m (op_st S sizeOf3 (.t rfl) (.t rfl) (k := 1) rfl rfl (by simp) fun a w S => st_nil (in_normal (then_normal (hK2 _ _ (wp_region_lit (run S (.ad (by unfold I64; omega) rfl <| .mv rfl <| .z) fun a w S => st_nil (then_normal (st_round (sg S (.yy (ys_F (by omega) (ys_lss (.t rfl) Ev.c)) rfl <| .z) fun a w S => wp_seq_k fun _ hK2 => st_else S (.t rfl) (wp_exit (then_exit (then_exit (in_here (then_normal (hK1 _ _ (sg S (.ac rfl <| .z) fun a w S => wp_seq_k fun _ hK1 => sg S (.mc rfl <| .z) fun a w S => wp_block ?_))))))))))))))))))))))))
  have t6 : u64R b k5 = if k5 + 8 ≤ b.length then (leV b k5 8, k5 + 8, 0) else (0, b.length, 2) := rfl
  have hE : entAt b k = bindR (u64R b k5) Ent.none fun p k6 => (⟨s, ⟨x1, x2, x3⟩, x4, UInt64.ofNat p⟩, k6, 0) := by
    unfold entAt
    rw [hT, bindR_ok rfl]
    dsimp only
    rw [hN1, bindR_ok rfl]
    dsimp only
    rw [hN2, bindR_ok rfl]
    dsimp only
    rw [hN3, bindR_ok rfl]
    dsimp only
    rw [hN4, bindR_ok rfl]
  refine st_lpM S [10, 39] (X := Nat) (fun i => [(39, true, .int .i64 (i : Int)), (10, true, .int .u64 (leV b k5 i : Int))]) (fun i => rds g A cap b (k5 + i) (.blk g2 (.cells #[.int .i64 x1, .int .i64 x2, .int .i64 x3, .int .i64 x4] 153) :: .blk g1 (.cells #[.string ⟨#[]⟩, .int .i64 0, .int .i64 0, .int .i64 0, .int .i64 0, .int .u64 0] 71) :: L))
    (fun i => i ≤ 8 ∧ k5 + i ≤ b.length) (fun i => 8 - i) 0 ⟨Nat.zero_le _, t5.2⟩ ?_
  clear S
  intro i a w ⟨hi, hki⟩ S
  by_cases hlt : i < 8
  · by_cases hb8 : k5 + i < b.length
    · obtain ⟨y, hy⟩ : ∃ y, b[k5 + i]? = some y := ⟨_, List.getElem?_eq_getElem hb8⟩
      have hy8 : y.toNat < 256 := y.toNat_lt
      have rw_b1 : (byteR b (k5 + i)).1 = (y.toNat : Int) := by rw [byteR_some hy]
      have rw_b2 : (byteR b (k5 + i)).2.1 = 1 := by rw [byteR_some hy]
      have rw_b3 : (byteR b (k5 + i)).2.2 = 0 := by rw [byteR_some hy]
      have rw_i : (i : Int) + 1 = ((i + 1 : Nat) : Int) := rfl
      have rw_8 : 8 * (i : Int) = ((8 * i : Nat) : Int) := rfl
      have rw_s := shl_le hy8 hlt
      have rw_o : IntKind.u64.wrap ((leV b k5 i : Int) + ((y.toNat * 256 ^ i : Nat) : Int)) = (leV b k5 (i + 1) : Int) := by
        have h1 := leV_lt b k5 (i + 1)
        have h2 : 256 ^ (i + 1) ≤ 256 ^ 8 := Nat.pow_le_pow_right (by omega) (by omega)
        have h3 : (256 : Nat) ^ 8 = 18446744073709551616 := by decide
        have e : leV b k5 i + y.toNat * 256 ^ i = leV b k5 (i + 1) := by
          rw [leV, List.getD_eq_getElem?_getD, hy]
          rfl
        rw [← Int.natCast_add, e]
        exact wrap_u64n (by omega)
      refine sg S (.yy (ys_T (by omega) (ys_lss (.t rfl) Ev.c)) rfl <| .z) fun a w S => wp_seq_k fun _ hK3 => st_then S (.t rfl) (wp_skip (then_normal (hK3 _ _ (wp_seq_k fun _ hK3 => wp_block (sg S (.mv rfl <| .as rfl <| .z) fun a w S => wp_seq_k fun _ hK4 => wp_region_lit (run S (.mv rfl <| .z) fun a w S => ?_))))))
      (refine st_m (op_callO S call124 (.cons (.t rfl) .nil) (c124 S.wd (by first | assumption | omega | (dsimp only; omega) | exact Sl.nil_ | exact .old S.wd (by assumption) | exact Sl.of_own S.wd (k := 0) rfl (fun _ => rfl) | exact Sl.of_own S.wd (k := 1) rfl (fun _ => rfl) | exact Sl.of_own S.wd (k := 2) rfl (fun _ => rfl) | (simp at *; omega)) (by first | assumption | omega | (dsimp only; omega) | exact Sl.nil_ | exact .old S.wd (by assumption) | exact Sl.of_own S.wd (k := 0) rfl (fun _ => rfl) | exact Sl.of_own S.wd (k := 1) rfl (fun _ => rfl) | exact Sl.of_own S.wd (k := 2) rfl (fun _ => rfl) | (simp at *; omega)) (by first | assumption | omega | (dsimp only; omega) | exact Sl.nil_ | exact .old S.wd (by assumption) | exact Sl.of_own S.wd (k := 0) rfl (fun _ => rfl) | exact Sl.of_own S.wd (k := 1) rfl (fun _ => rfl) | exact Sl.of_own S.wd (k := 2) rfl (fun _ => rfl) | (simp at *; omega))) rfl ?_) <;> clear S a w)
      rintro _ _ ⟨rfl, rfl⟩ a w S
      rw [rw_b1] at S
      rw [rw_b2] at S
      rw [rw_b3] at S
      refine run S (.mv rfl <| .ex rfl rfl <| .ex rfl rfl <| .as rfl <| .as rfl <| .z) fun a w S => st_nil (then_normal (hK4 _ _ (wp_seq_k fun _ hK4 => sg S (.mv rfl <| .yy (ys_F (by omega) (ys_neq (.t rfl) Ev.c)) rfl <| .z) fun a w S => st_else S (.t rfl) (wp_skip (then_normal (hK4 _ _ (wp_region_lit (run S (.mv rfl <| .mv rfl <| .yy (ys_cvU underlying3 underlying27 (.t rfl) (fun _ => by omega)) rfl <| .mv rfl <| .yy (ys_mulI Ev.c (.t rfl) (fun _ => by unfold I64; omega)) rfl <| .z) fun a w S => ?_))))))))
      rw [rw_8] at S
      refine run S (.yy (ys_shl (.t rfl) (.t rfl) (Nat.ble_eq_true_of_le (by show _ ≤ 64; omega))) rfl <| .z) fun a w S => ?_
      rw [rw_s] at S
      refine run S (.yy (ys_add (.t rfl) (.t rfl)) rfl <| .z) fun a w S => ?_
      rw [rw_o] at S
      refine run S (.as rfl <| .z) fun a w S => st_nil (in_normal (then_normal (hK3 _ _ (wp_region_lit (run S (.ad (by unfold I64; omega) rfl <| .z) fun a w S => ?_)))))
      rw [rw_i] at S
      refine run S (.mv rfl <| .z) fun a w S => st_nil (then_normal ?_)
      exact ⟨i + 1, ⟨by omega, by omega⟩, by omega, S.pk⟩
    · have rw_b1 : (byteR b (k5 + i)).1 = 0 := by rw [byteR_none (by omega)]
      have rw_b2 : (byteR b (k5 + i)).2.1 = 0 := by rw [byteR_none (by omega)]
      have rw_b3 : (byteR b (k5 + i)).2.2 = 2 := by rw [byteR_none (by omega)]
      have he : (entAt b k).2.2 = 2 := by rw [hE, t6, if_neg (by omega)]; rfl
      refine sg S (.yy (ys_T (by omega) (ys_lss (.t rfl) Ev.c)) rfl <| .z) fun a w S => wp_seq_k fun _ hK3 => st_then S (.t rfl) (wp_skip (then_normal (hK3 _ _ (wp_seq_k fun _ hK3 => wp_block (sg S (.mv rfl <| .as rfl <| .z) fun a w S => wp_seq_k fun _ hK4 => wp_region_lit (run S (.mv rfl <| .z) fun a w S => ?_))))))
      (refine st_m (op_callO S call124 (.cons (.t rfl) .nil) (c124 S.wd (by first | assumption | omega | (dsimp only; omega) | exact Sl.nil_ | exact .old S.wd (by assumption) | exact Sl.of_own S.wd (k := 0) rfl (fun _ => rfl) | exact Sl.of_own S.wd (k := 1) rfl (fun _ => rfl) | exact Sl.of_own S.wd (k := 2) rfl (fun _ => rfl) | (simp at *; omega)) (by first | assumption | omega | (dsimp only; omega) | exact Sl.nil_ | exact .old S.wd (by assumption) | exact Sl.of_own S.wd (k := 0) rfl (fun _ => rfl) | exact Sl.of_own S.wd (k := 1) rfl (fun _ => rfl) | exact Sl.of_own S.wd (k := 2) rfl (fun _ => rfl) | (simp at *; omega)) (by first | assumption | omega | (dsimp only; omega) | exact Sl.nil_ | exact .old S.wd (by assumption) | exact Sl.of_own S.wd (k := 0) rfl (fun _ => rfl) | exact Sl.of_own S.wd (k := 1) rfl (fun _ => rfl) | exact Sl.of_own S.wd (k := 2) rfl (fun _ => rfl) | (simp at *; omega))) rfl ?_) <;> clear S a w)
      rintro _ _ ⟨rfl, rfl⟩ a w S
      rw [rw_b1] at S
      rw [rw_b2] at S
      rw [rw_b3] at S
      refine run S (.mv rfl <| .ex rfl rfl <| .ex rfl rfl <| .as rfl <| .as rfl <| .z) fun a w S => st_nil (then_normal (hK4 _ _ (wp_seq_k fun _ hK4 => sg S (.mv rfl <| .yy (ys_T (by omega) (ys_neq (.t rfl) Ev.c)) rfl <| .z) fun a w S => st_then S (.t rfl) (wp_seq_k fun _ hK5 => wp_region_lit (run S (.yy (ys_bld (ps := []) (us := [_, _, _, _, _, _]) bld71 .nil rfl) rfl <| .mv rfl <| .z) fun a w S => st_m (op_stW S sizeOf71 (.t rfl) (.t rfl) (k := 2) rfl rfl rfl (by simp [Value.oneCell']) fun a w S => run S (.as rfl <| .z) fun a w S => st_nil (then_normal (hK5 _ _ (wp_ret (then_ret (in_ret (then_ret (then_ret (in_ret (then_ret (st_ret S (results2 S results64 (Rv.cell (k := 2) ⟨isAgg71, sizeOf71⟩ rfl rfl rfl) (Rv.tmp rfl)) ?_))))))))))))))))
      exact ⟨_, _, rfl, S.wd.picks (L' := rds g A cap b (k5 + i) L) (by repeat (first | exact Picks.nil | (refine Picks.rest ?_; (repeat (first | exact List.Sublist.refl _ | refine List.Sublist.cons_cons _ ?_ | refine List.Sublist.cons _ ?_)); done) | refine Picks.take 0 rfl ?_ | refine Picks.take 1 rfl ?_ | refine Picks.take 2 rfl ?_ | refine Picks.take 3 rfl ?_ | refine Picks.take 4 rfl ?_ | refine Picks.take 5 rfl ?_ | refine Picks.take 6 rfl ?_ | refine Picks.take 7 rfl ?_ | refine Picks.take 8 rfl ?_ | refine Picks.take 9 rfl ?_ | refine Picks.take 10 rfl ?_ | refine Picks.take 11 rfl ?_)), Ent.none, k5 + i, by rw [he]; rfl, rfl, hki, fun h => absurd (he.symm.trans h) (by decide)⟩
  obtain rfl : i = 8 := by omega
  refine sg S (.yy (ys_F (by omega) (ys_lss (.t rfl) Ev.c)) rfl <| .z) fun a w S => wp_seq_k fun _ hK3 => st_else S (.t rfl) (wp_exit (then_exit (then_exit (in_here (then_normal (hK1 _ _ (wp_seq_k fun _ hK1 => wp_region_lit (run S (.mv rfl <| .yy (ys_ixA (j := 0) underlying153 sizeOf3 (.t rfl) Ev.c (fun _ => by decide)) rfl <| .ld gt3 1 rfl rfl rfl <| .yy (ys_ixA (j := 1) underlying153 sizeOf3 (.t rfl) Ev.c (fun _ => by decide)) rfl <| .ld gt3 1 rfl rfl rfl <| .yy (ys_ixA (j := 2) underlying153 sizeOf3 (.t rfl) Ev.c (fun _ => by decide)) rfl <| .ld gt3 1 rfl rfl rfl <| .yy (ys_bld (ps := [(0, Go.Operand.tmp 61), (1, Go.Operand.tmp 63), (2, Go.Operand.tmp 65)]) (us := [_, _, _]) bld58 (.cons (.t rfl) (.cons (.t rfl) (.cons (.t rfl) .nil))) rfl) rfl <| .yy (ys_ixA (j := 3) underlying153 sizeOf3 (.t rfl) Ev.c (fun _ => by decide)) rfl <| .ld gt3 1 rfl rfl rfl <| .mv rfl <| .yy (ys_bld (ps := [(0, Go.Operand.tmp 59), (1, Go.Operand.tmp 66), (2, Go.Operand.tmp 68), (3, Go.Operand.tmp 69)]) (us := [_, _, _, _, _, _]) bld71 (.cons (.t rfl) (.cons (.t rfl) (.cons (.t rfl) (.cons (.t rfl) .nil)))) rfl) rfl <| .z) fun a w S => st_m (op_stW S sizeOf71 (.t rfl) (.t rfl) (k := 2) rfl rfl rfl (by simp [Value.oneCell']) fun a w S => run S (.ac rfl <| .z) fun a w S => st_nil (then_normal (hK1 _ _ (wp_ret ?_))))))))))))
  refine st_ret S (results2 S results64 (Rv.cell (k := 2) ⟨isAgg71, sizeOf71⟩ rfl rfl rfl) (Rv.tmp rfl)) ?_
  have he : entAt b k = (⟨s, ⟨x1, x2, x3⟩, x4, UInt64.ofNat (leV b k5 8)⟩, k5 + 8, 0) := by rw [hE, t6, if_pos (by omega), bindR_ok rfl]
  have hv : (UInt64.ofNat (leV b k5 8)).toNat = leV b k5 8 := by rw [UInt64.toNat_ofNat']; exact Nat.mod_eq_of_lt (leV_lt b k5 8)
  refine ⟨_, _, rfl, S.wd.picks (L' := rds g A cap b (k5 + 8) L) (by repeat (first | exact Picks.nil | (refine Picks.rest ?_; (repeat (first | exact List.Sublist.refl _ | refine List.Sublist.cons_cons _ ?_ | refine List.Sublist.cons _ ?_)); done) | refine Picks.take 0 rfl ?_ | refine Picks.take 1 rfl ?_ | refine Picks.take 2 rfl ?_ | refine Picks.take 3 rfl ?_ | refine Picks.take 4 rfl ?_ | refine Picks.take 5 rfl ?_ | refine Picks.take 6 rfl ?_ | refine Picks.take 7 rfl ?_ | refine Picks.take 8 rfl ?_ | refine Picks.take 9 rfl ?_ | refine Picks.take 10 rfl ?_ | refine Picks.take 11 rfl ?_)), (entAt b k).1, k5 + 8, ?_, rfl, hki, fun _ => ⟨rfl, by rw [he]⟩⟩
  rw [he]
  dsimp only [Ent.enc]
  rw [hv]
end Go.Proofs.YtfblmkocmnbdcaaGreat
