/- What is written is read, and what is read was written: numbers, dots, contexts. Plain. Of no program. -/
import Derived.Test.YtjfeeiljinbmjaaRd2
set_option linter.unusedVariables false
set_option linter.unusedSimpArgs false
namespace Go.Fw
open Go.RowKit

theorem numR_fwd (post : List UInt8) : ∀ (x i : Nat) (n : Int), i ≤ 8 → x < 128 ^ (9 - i) → (0 < i → 0 < x) → numR i n (numB x ++ post) = (n + (x : Int) * 128 ^ i, i + (numB x).length, 0) := by
  intro x
  induction x using Nat.strongRecOn with
  | _ x ih =>
    intro i n hi hx h0
    by_cases hs : x < 128
    · rw [numB_small hs]
      have hb : (b8 (x : Int)).toNat = x := by have := b8_val (x : Int); omega
      rw [List.singleton_append, numR, hb, if_neg (by omega), if_pos hs, if_neg (by omega)]
      have : (x : Int) % 128 = x := by omega
      rw [this]
      rfl
    · rw [numB_big hs]
      have hb : (b8 ((x % 128 + 128 : Nat) : Int)).toNat = x % 128 + 128 := by have := b8_val ((x % 128 + 128 : Nat) : Int); omega
      have hi8 : i < 8 := by
        rcases Nat.lt_or_ge i 8 with h | h
        · exact h
        · obtain rfl : i = 8 := by omega
          simp at hx; omega
      have hp : 128 ^ (9 - i) = 128 ^ (9 - (i + 1)) * 128 := by rw [show 9 - i = (9 - (i + 1)) + 1 by omega, Nat.pow_succ]
      rw [List.cons_append, numR, hb, if_neg (by omega), if_neg (by omega), ih (x / 128) (by omega) (i + 1) _ (by omega) (by rw [hp] at hx; omega) (by omega)]
      have hq : (((x % 128 + 128 : Nat) : Int)) % 128 = ((x % 128 : Nat) : Int) := by omega
      have h5 : (128 : Int) ^ (i + 1) = 128 * 128 ^ i := by rw [Int.pow_succ, Int.mul_comm]
      have hxx : (x : Int) = ((x % 128 : Nat) : Int) + ((x / 128 : Nat) : Int) * 128 := by omega
      rw [hq, h5]
      refine Prod.ext ?_ (Prod.ext ?_ rfl)
      · dsimp only
        conv => rhs; rw [hxx, Int.add_mul, Int.mul_assoc]
        omega
      · simp only [List.length_cons]; omega
theorem numR_inv : ∀ (l : List UInt8) (i : Nat) (n : Int), (numR i n l).2.2 = 0 → i ≤ 8 → ∃ y : Nat, (numR i n l).1 = n + (y : Int) * 128 ^ i ∧ i < (numR i n l).2.1 ∧ numB y = l.take ((numR i n l).2.1 - i) ∧ (0 < i → 0 < y)
  | [], _, _, h, _ => by simp [numR] at h
  | x :: r, i, n, h, hi => by
    have hx8 : x.toNat < 256 := x.toNat_lt
    unfold numR at h ⊢
    split at h
    · simp at h
    · rename_i h1
      rw [if_neg h1]
      split at h
      · rename_i h2
        rw [if_pos h2]
        split at h
        · simp at h
        · rename_i h3
          rw [if_neg h3]
          refine ⟨x.toNat, ?_, ?_, ?_, ?_⟩
          · dsimp only
            rw [show (x.toNat : Int) % 128 = x.toNat by omega]
          · dsimp only; omega
          · dsimp only
            rw [numB_small h2, show i + 1 - i = 1 by omega, b8_nat]; rfl
          · intro hi0; omega
      · rename_i h2
        rw [if_neg h2]
        obtain ⟨y, e1, e2, e3, e4⟩ := numR_inv r (i + 1) _ h (by omega)
        have h5 : (128 : Int) ^ (i + 1) = 128 * 128 ^ i := by rw [Int.pow_succ, Int.mul_comm]
        have hy := e4 (by omega)
        refine ⟨x.toNat % 128 + 128 * y, ?_, by omega, ?_, by omega⟩
        · rw [e1, h5]
          have : (((x.toNat % 128 + 128 * y : Nat)) : Int) = (x.toNat : Int) % 128 + (y : Int) * 128 := by omega
          rw [this, Int.add_mul, Int.mul_assoc]
          omega
        · rw [numB_big (by omega), show (x.toNat % 128 + 128 * y) / 128 = y by omega, e3, show (numR (i + 1) (n + (x.toNat : Int) % 128 * 128 ^ i) r).2.1 - i = ((numR (i + 1) (n + (x.toNat : Int) % 128 * 128 ^ i) r).2.1 - (i + 1)) + 1 by omega, List.take_succ_cons]
          congr 1
          rw [b8_of (x := x)]
          omega
theorem take_more {b : List UInt8} {k j : Nat} : b.take (k + j) = b.take k ++ (b.drop k).take j := List.take_add
theorem numAt_fwd {pre post : List UInt8} {x : Int} (h0 : 0 ≤ x) (h1 : x ≤ 9223372036854775807) : numAt (putL pre x ++ post) pre.length = (x, (putL pre x).length, 0) := by
  unfold numAt putL
  rw [List.append_assoc, List.drop_left, numR_fwd post x.toNat 0 0 (by omega) (by simp; omega) (by omega)]
  refine Prod.ext ?_ (Prod.ext ?_ rfl)
  · dsimp only; rw [Int.pow_zero]; omega
  · simp
theorem numAt_inv {b : List UInt8} {k : Nat} (h : (numAt b k).2.2 = 0) : b.take (numAt b k).2.1 = putL (b.take k) (numAt b k).1 := by
  obtain ⟨y, e1, e2, e3, _⟩ := numR_inv (b.drop k) 0 0 h (by omega)
  unfold numAt putL
  dsimp only
  rw [take_more, e1]
  congr 1
  have hy : ((0 : Int) + (y : Int) * 128 ^ 0).toNat = y := by rw [Int.pow_zero]; omega
  rw [hy, e3, Nat.sub_zero]
theorem dotB_app (pre : List UInt8) (d : Dot) : ∃ X, dotB pre d = pre ++ X := ⟨numB d.node.toNat ++ numB d.life.toNat ++ numB d.count.toNat, by simp [dotB, putL]⟩
theorem foldB_app : ∀ (l : List Dot) (pre : List UInt8), ∃ X, l.foldl dotB pre = pre ++ X
  | [], pre => ⟨[], by simp⟩
  | d :: r, pre => by
    obtain ⟨X, hX⟩ := dotB_app pre d
    obtain ⟨Y, hY⟩ := foldB_app r (dotB pre d)
    exact ⟨X ++ Y, by rw [List.foldl_cons, hY, hX, List.append_assoc]⟩
theorem dotAt_fwd {pre post : List UInt8} {d : Dot} (h : mayD d = true) : dotAt (dotB pre d ++ post) pre.length = (d, (dotB pre d).length, 0) := by
  have hl := may_lim h
  have e1 : dotB pre d ++ post = putL pre d.node ++ (numB d.life.toNat ++ (numB d.count.toNat ++ post)) := by simp [dotB, putL]
  have e2 : dotB pre d ++ post = putL (putL pre d.node) d.life ++ (numB d.count.toNat ++ post) := by simp [dotB, putL]
  have n1 : numAt (dotB pre d ++ post) pre.length = (d.node, (putL pre d.node).length, 0) := by rw [e1]; exact numAt_fwd (by omega) (by omega)
  have n2 : numAt (dotB pre d ++ post) (putL pre d.node).length = (d.life, (putL (putL pre d.node) d.life).length, 0) := by rw [e2]; exact numAt_fwd (by omega) (by omega)
  have n3 : numAt (dotB pre d ++ post) (putL (putL pre d.node) d.life).length = (d.count, (dotB pre d).length, 0) := by exact numAt_fwd (by omega) (by omega)
  unfold dotAt
  rw [n1, bindR_ok rfl]
  dsimp only
  rw [n2, bindR_ok rfl]
  dsimp only
  rw [n3, bindR_ok rfl]
theorem bindR_zero {α β : Type} {r : α × Nat × Int} {z : β} {f : α → Nat → β × Nat × Int} (h : (bindR r z f).2.2 = 0) : r.2.2 = 0 ∧ bindR r z f = f r.1 r.2.1 := by
  by_cases h1 : r.2.2 = 0
  · exact ⟨h1, bindR_ok h1⟩
  · rw [bindR_bad h1] at h
    exact absurd h h1
theorem dotAt_inv {b : List UInt8} {k : Nat} (h : (dotAt b k).2.2 = 0) : b.take (dotAt b k).2.1 = dotB (b.take k) (dotAt b k).1 := by
  unfold dotAt at h ⊢
  obtain ⟨h1, e1⟩ := bindR_zero h
  rw [e1] at h ⊢
  obtain ⟨h2, e2⟩ := bindR_zero h
  rw [e2] at h ⊢
  obtain ⟨h3, e3⟩ := bindR_zero h
  rw [e3]
  dsimp only
  rw [numAt_inv h3, numAt_inv h2, numAt_inv h1]
  rfl
theorem dotsAt_fwd {post : List UInt8} : ∀ {l acc : List Dot} {pre : List UInt8}, (∀ x ∈ l, mayD x = true) → dotsAt (l.foldl dotB pre ++ post) l.length acc pre.length = (acc ++ l, (l.foldl dotB pre).length, 0)
  | [], acc, pre, _ => by simp [dotsAt]
  | d :: r, acc, pre, h => by
    obtain ⟨X, hX⟩ := foldB_app r (dotB pre d)
    have e : (d :: r).foldl dotB pre ++ post = dotB pre d ++ (X ++ post) := by rw [List.foldl_cons, hX, List.append_assoc]
    rw [List.length_cons, dotsAt]
    have hd : dotAt ((d :: r).foldl dotB pre ++ post) pre.length = (d, (dotB pre d).length, 0) := by rw [e]; exact dotAt_fwd (h d (by simp))
    rw [hd, bindR_ok rfl]
    dsimp only
    rw [List.foldl_cons, dotsAt_fwd (fun x hx => h x (by simp [hx])), List.append_assoc]
    rfl
theorem dotsAt_inv {b : List UInt8} : ∀ {n k : Nat} {acc : List Dot}, (dotsAt b n acc k).2.2 = 0 → ∃ l, (dotsAt b n acc k).1 = acc ++ l ∧ l.length = n ∧ b.take (dotsAt b n acc k).2.1 = l.foldl dotB (b.take k)
  | 0, k, acc, _ => ⟨[], by simp [dotsAt], rfl, rfl⟩
  | n + 1, k, acc, h => by
    unfold dotsAt at h ⊢
    obtain ⟨h1, e1⟩ := bindR_zero h
    rw [e1] at h ⊢
    obtain ⟨l, e2, e3, e4⟩ := dotsAt_inv h
    exact ⟨(dotAt b k).1 :: l, by rw [e2, List.append_assoc]; rfl, by simp [e3], by rw [e4, dotAt_inv h1]; rfl⟩
theorem listAt_fwd {pre post : List UInt8} {l : List Dot} (h : ∀ x ∈ l, mayD x = true) (hl : l.length ≤ 64) : listAt (dotsB pre l ++ post) pre.length = (l, (dotsB pre l).length, 0) := by
  obtain ⟨X, hX⟩ := foldB_app l (putL pre (l.length : Int))
  have e : dotsB pre l ++ post = putL pre (l.length : Int) ++ (X ++ post) := by unfold dotsB; rw [hX, List.append_assoc]
  have hn : numAt (dotsB pre l ++ post) pre.length = ((l.length : Int), (putL pre (l.length : Int)).length, 0) := by rw [e]; exact numAt_fwd (by omega) (by omega)
  unfold listAt
  rw [hn, bindR_ok rfl]
  dsimp only
  rw [if_neg (by omega), Int.toNat_natCast]
  have := dotsAt_fwd (post := post) (acc := []) (pre := putL pre (l.length : Int)) h
  unfold dotsB
  rw [this]
  rfl
theorem listAt_inv {b : List UInt8} {k : Nat} (h : (listAt b k).2.2 = 0) : b.take (listAt b k).2.1 = dotsB (b.take k) (listAt b k).1 := by
  unfold listAt at h ⊢
  obtain ⟨h1, e1⟩ := bindR_zero h
  rw [e1] at h ⊢
  split at h
  · simp at h
  · rename_i h2
    rw [if_neg h2]
    obtain ⟨l, e2, e3, e4⟩ := dotsAt_inv h
    have hv := numAt_val b k
    rw [e4, e2, numAt_inv h1]
    unfold dotsB
    rw [List.nil_append, e3, show (((numAt b k).1.toNat : Nat) : Int) = (numAt b k).1 by omega]
theorem decAt_fwd {pre post : List UInt8} {C : Ctx} (h : canL C = true) : decAt (encC pre C ++ post) pre.length = (C, (encC pre C).length, 0) := by
  have hlen := can_len h
  have hm := (can_nf h).mayM
  have hc := (can_nf h).mayC
  obtain ⟨X, hX⟩ := foldB_app C.cloud (putL (dotsB pre C.marks) (C.cloud.length : Int))
  have e : encC pre C ++ post = dotsB pre C.marks ++ (numB C.cloud.length ++ X ++ post) := by
    have e2 : encC pre C = C.cloud.foldl dotB (putL (dotsB pre C.marks) (C.cloud.length : Int)) := rfl
    rw [e2, hX]
    simp [putL]
  have h1 : listAt (encC pre C ++ post) pre.length = (C.marks, (dotsB pre C.marks).length, 0) := by rw [e]; exact listAt_fwd hm hlen.1
  have h2 : listAt (encC pre C ++ post) (dotsB pre C.marks).length = (C.cloud, (encC pre C).length, 0) := listAt_fwd hc hlen.2
  have h3 : ctxAt (encC pre C ++ post) pre.length = (C, (encC pre C).length, 0) := by
    unfold ctxAt
    rw [h1, bindR_ok rfl]
    dsimp only
    rw [h2, bindR_ok rfl]
    dsimp only
    rw [if_pos h]
  unfold decAt
  rw [h3, if_pos rfl]
theorem decAt_inv {b : List UInt8} {k : Nat} (h : (decAt b k).2.2 = 0) : canL (decAt b k).1 = true ∧ b.take (decAt b k).2.1 = encC (b.take k) (decAt b k).1 := by
  by_cases h0 : (ctxAt b k).2.2 = 0
  · unfold decAt at h ⊢
    rw [if_pos h0]
    unfold ctxAt at h0 ⊢
    obtain ⟨h1, e1⟩ := bindR_zero h0
    rw [e1] at h0 ⊢
    obtain ⟨h2, e2⟩ := bindR_zero h0
    rw [e2] at h0 ⊢
    split at h0
    · rename_i hc
      rw [if_pos hc]
      exact ⟨hc, by rw [listAt_inv h2, listAt_inv h1]; rfl⟩
    · simp at h0
  · unfold decAt at h
    rw [if_neg h0] at h
    exact absurd h h0
theorem decAt_bad {b : List UInt8} {k : Nat} (h : (decAt b k).2.2 ≠ 0) : (decAt b k).2.1 = k ∧ (decAt b k).1 = ⟨[], []⟩ := by
  unfold decAt at h ⊢
  split
  · rename_i h0
    rw [if_pos h0] at h
    exact absurd h0 h
  · exact ⟨rfl, rfl⟩
theorem decAt_le {b : List UInt8} {k : Nat} (h : k ≤ b.length) : k ≤ (decAt b k).2.1 ∧ (decAt b k).2.1 ≤ b.length := by
  unfold decAt
  split
  · exact ctxAt_le h
  · exact ⟨Nat.le_refl _, h⟩
end Go.Fw
