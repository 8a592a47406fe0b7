/- Contracts and laws that the statement Rpa leans on, part 2. -/
import Derived.Test.YtbijdmfilmecbaaGreatRpaK1
import Derived.Laws.IdiomStrings
import Derived.Shelf.SlIter.Nil
import Derived.StringKeys
import Derived.Shelf.SlGeneric
import Derived.Ground.GgzProg
import Derived.Shelf.SortM.Plain
import Derived.Shelf.SortM.SortNone
import Derived.Ground.SlgmProg
import Derived.Test.YtbijdmfilmecbaaGreatProg
set_option linter.unusedVariables false
set_option linter.unusedSimpArgs false
namespace Go.Fw
open Go.RowKit
section ops
variable {P : Program} {n : Nat} {w0 : World} {K : KL} {L : List Chunk} {b : Bool} {dst : Option Tmp} {ty : TypeId} {pos : String} {aft : Array Edge} {gd : Option (Nat × Bool)}
theorem ys_ixAgg {t e m : Nat} {x y : Operand} {vs : List Value} {j : Nat} {k : IntKind} {v : Value} (ht : P.underlying t = some (.array m e)) (hs : One P e) (hx : Ev n b K x (.agg vs.toArray)) (hy : Ev n b K y (.int k (j : Int))) (h : vs[j]? = some v) (hj : Nat.blt j m = true) :
   Yr P ⟨dst, .index t x y, ty, pos, aft, gd⟩ n K w0 L b v := fun a w hb hkn _ => by
 have hj' : (j : Int) < m := by have := Nat.le_of_ble_eq_true hj; omega
 simp [execOp, hx a hb hkn, hy a hb hkn, Instr.index, asIntOf, run_underlying ht, hs.1 w, hs.2 w, hj', Go.part, h]
 intro hle; omega
end ops
section app
variable {P : Program} {n : Nat} {w0 : World} {K : KL} {L : List Chunk} {ty : TypeId} {pos : String} {aft : Array Edge} {gd : Option (Nat × Bool)} {a : Act} {w : World} {Z : Act → World → Prop} {Q : Exit → Act → World → Prop} {d : Nat}
theorem op_appFull {α : Type} {enc : α → List Value} {l : List α} {t t2 e bytes size m q : Nat} {d2 : TypeDesc} {z : Value} {A : Option Addr} {s x : Operand} {xv : Value} {xs news : List Value} (S : St n w0 K L a w) (ht : P.underlying t = some (.slice e)) (ht2 : P.underlying t2 = some d2) (hd2 : d2 = .string ∨ ∃ e2, d2 = .slice e2)
   (hi : InfoT P e z size bytes) (hzs : z.cells.size = size) (hs : Ev n true K s (.slice A m m)) (hx : Ev n true K x xv) (hdst : Src P w size (.slice A m m) m xs) (hsrc : Src P w size xv q news) (hq : 0 < q) (hll : l.length = m + q) (hl : l.flatMap enc = xs ++ news) (hb : (m + q) * bytes ≤ 200000000000000) (hb1 : Nat.blt 0 bytes = true) (hb2 : Nat.ble bytes 65536 = true) (hd : Nat.blt d n = true)
   (next : ∀ A' cap' a w, St n w0 ((d, true, .slice A' l.length cap') :: K) (rowOf e size enc A' cap' l :: L) a w → Z a w) :
   Oper.wp P ⟨some d, .call ⟨.builtin .append, #[s, x], #[t, t2]⟩, ty, pos, aft, gd⟩ a w Z Q := by
 obtain ⟨i, hi1, hi2, hi3, hi4⟩ := hi.parts
 subst hi3; subst hi4
 have hb1 := Nat.le_of_ble_eq_true hb1
 have hb2 := Nat.le_of_ble_eq_true hb2
 have hlen : (xs ++ news).length = (m + q) * i.size := by rw [List.length_append, hdst.length, hsrc.length, Nat.add_mul]
 have hnm : m + q ≤ 200000000000000 := by
   have := Nat.le_mul_of_pos_right (m + q) hb1
   omega
 have hlx := hsrc.len w
 have holds := hdst.drew
 have hroom : ¬ m + q ≤ m := by omega
 have h63 : ¬ (9223372036854775807 < ((m : Int) + (q : Int))) := by omega
 have hnc := nextcap_le (need := m + q) (old := m) (by omega)
 have hfit : Builtin.nextslicecap (m + q) m * i.bytes ≤ 281474976710656 := by
   have h1 : Builtin.nextslicecap (m + q) m * i.bytes ≤ (m + q + (m + q) / 4 + 512) * i.bytes := Nat.mul_le_mul_right _ hnc
   have h2 : (m + q + (m + q) / 4 + 512) * i.bytes = (m + q) * i.bytes + (m + q) / 4 * i.bytes + 512 * i.bytes := by rw [Nat.add_mul, Nat.add_mul]
   have h3 : (m + q) / 4 * i.bytes * 4 ≤ (m + q) * i.bytes := by
     rw [Nat.mul_right_comm]; exact Nat.mul_le_mul_right _ (Nat.div_mul_le_self _ _)
   omega
 have hfit' : ¬ (281474976710656 < Builtin.nextslicecap (m + q) m * i.bytes) := by omega
 have hge := grownCap_ge w (m + q) m e
 have hcm : grownCap w (m + q) m e ≤ maxLen := grownCap_le_maxLen w (m + q) m e (by simp only [maxLen]; omega)
 have hrun : (Builtin.append_ #[t, t2] ty #[.slice A m m, xv]).run P w = .ok (.slice (some ⟨w.heap.size, 0, none⟩) (m + q) (grownCap w (m + q) m e)) (w.drew.alloc (.cells (xs.toArray ++ news.toArray ++ Builtin.zeroCells z.cells (grownCap w (m + q) m e - (m + q))) e)) := by
   have hh := hsrc.drew
   have ea : ∀ Z : Array Value, xs.toArray ++ (news.toArray ++ Z) = (xs ++ news).toArray ++ Z := fun Z => by rw [← List.append_toArray, Array.append_assoc]
   rcases hd2 with rfl | ⟨e2, rfl⟩ <;> simp [Builtin.append_, run_underlying ht, run_underlying ht2, sizeOf, typeInfo, hi1, hi2, hlx, hh, hroom, h63, hfit', holds, zeroValue, Question.forced, newRow, grownCap] <;> rw [ea]
 refine run_wp (v := .slice (some ⟨w.heap.size, 0, none⟩) (m + q) (grownCap w (m + q) m e)) (w' := _) (by simp only [execOp, resolve, invoke, builtin, Sem.run_bind, Sem.run_pure, Result.andThen_ok, List.map_toArray, List.map_cons, List.map_nil, hs a rfl S.kn, hx a rfl S.kn, hrun]; rfl) (next _ _ _ _ ⟨by rw [hll]; exact S.kn.put hd _, S.wd.more (((Bel.refl _ w).drew).alloc (Nat.le_refl _) _) ?_⟩)
 show Owns _ _ _ _ _ _ _ _
 rw [hll, hl]
 refine ⟨hlen, .inr ⟨w.heap.size, _, rfl, by omega, Nat.le_refl _, heap_alloc_new w.drew _, hge, hcm, ?_, ?_⟩⟩
 · simp only [Array.size_append, List.size_toArray, size_zeroCells, hzs, hdst.length, hsrc.length, ← Nat.add_mul]
   congr 1
   omega
 · simp only [Array.toList_append]
   rw [← hlen]
   exact List.take_left
theorem txt_one (l : List UInt8) : ∀ u ∈ l.map (fun u => Value.int .u8 (u.toNat : Int)), u.oneCell' = true := fun u hu => by
 obtain ⟨x, _, rfl⟩ := List.mem_map.1 hu; rfl
theorem appB (l m : List UInt8) : (l ++ m).flatMap encB = l.map (fun u => Value.int .u8 (u.toNat : Int)) ++ m.map (fun u => Value.int .u8 (u.toNat : Int)) := by rw [List.flatMap_append, flatB, flatB]
def txtC (l : List UInt8) (m : Nat) : List Value := l.map (fun u => Value.int .u8 (u.toNat : Int)) ++ List.replicate m (.int .u8 0)
theorem op_bytes {t s e : TypeId} {x : Operand} {l : List UInt8} (S : St n w0 K L a w) (hs : P.underlying s = some .string) (ht : P.underlying t = some (.slice e)) (he : P.underlying e = some (.int .u8)) (hx : Ev n true K x (.string (bs l))) (hl : l.length ≤ 4611686018427387904) (hd : Nat.blt d n = true)
   (next : ∀ g m fr, l.length + m ≤ 9223372036854775807 → ∀ a w, St n w0 ((d, true, .slice (some ⟨g, 0, none⟩) l.length (l.length + m)) :: K) (.blk g (.cells (txtC l m).toArray e fr) :: L) a w → Z a w) :
   Oper.wp P ⟨some d, .convert s t x, ty, pos, aft, gd⟩ a w Z Q := by
 have hge := grownCap_ge w l.length 0 e
 have hcm : grownCap w l.length 0 e ≤ maxLen := grownCap_le_maxLen w l.length 0 e (by simp only [maxLen]; omega)
 obtain ⟨m, hm⟩ : ∃ m, grownCap w l.length 0 e = l.length + m := ⟨grownCap w l.length 0 e - l.length, by omega⟩
 have hsize : (bs l).size = l.length := by simp [ByteArray.size]
 have hcs : bytesRow (bs l) (grownCap w (bs l).size 0 e) = (txtC l m).toArray := by
   rw [hsize, hm]
   simp [bytesRow, txtC, hsize, show l.length + m - l.length = m by omega]
 have hrun := run_bytes_of_string (P := P) w s t e (bs l) hs ht he
 rw [hcs, hsize, hm] at hrun
 refine run_wp ?_ (next w.heap.size m ((txtC l m).toArray.size, (txtC l m).toArray.size + 1) (by simp only [maxLen] at hcm; omega) _ _ ⟨S.kn.put hd _, S.wd.drew.alloc _⟩)
 simp only [execOp, hx a rfl S.kn, Sem.run_bind, hrun, Result.andThen_ok]
 rfl
theorem Sl.of_txt {l : List UInt8} {k g m : Nat} {e : TypeId} {fr : Nat × Nat} (W : Wd w0 L w) (hk : L[k]? = some (.blk g (.cells (txtC l m).toArray e fr))) (hm : l.length + m ≤ 9223372036854775807) : Sl encB 1 w w.heap.size (.slice (some ⟨g, 0, none⟩) l.length (l.length + m)) l := by
 have h := W.get hk
 refine ⟨_, _, rfl, by omega, hm, fun _ => ⟨g, 0, rfl, (Array.getElem?_eq_some_iff.1 h.2).1, fun i x hi j u hu => ?_⟩⟩
 have hj : j = 0 := by
   have := (List.getElem?_eq_some_iff.1 hu).1
   simp [encB] at this; exact this
 subst hj
 have hu' : u = .int .u8 (x.toNat : Int) := by simpa [encB] using hu.symm
 subst hu'
 rw [cell_of_row w g _ _ e fr h.2]
 have hlt := (List.getElem?_eq_some_iff.1 hi).1
 obtain ⟨_, rfl⟩ := List.getElem?_eq_some_iff.1 hi
 simp [txtC, List.getElem?_append, hlt]
end app
end Go.Fw
namespace Go.Fw
open Go.RowKit
def fnvF (h : Int) (c : UInt8) : Int := IntKind.u64.wrap (xorK .u64 h (c.toNat : Int) * 1099511628211)
def stirF (h m : Int) : Int := IntKind.u64.wrap (xorK .u64 h (h / 8589934592) * m)
def hashL (l : List UInt8) : Int :=
 let h := stirF (stirF (l.foldl fnvF 14695981039346656037) 18397679294719823053) 14181476777654086739
 xorK .u64 h (h / 8589934592)
def eightL (n : Int) : List UInt8 := [b8 (n / 72057594037927936), b8 (n / 281474976710656), b8 (n / 1099511627776), b8 (n / 4294967296), b8 (n / 16777216), b8 (n / 65536), b8 (n / 256), b8 (n / 1)]
def mixL (a b : Int) : Int := hashL (eightL a ++ eightL b)
theorem xorK_u64 (p q : Int) : 0 ≤ xorK .u64 p q ∧ xorK .u64 p q ≤ 18446744073709551615 := u64_range _
theorem hash_range (l : List UInt8) : 0 ≤ hashL l ∧ hashL l ≤ 18446744073709551615 := xorK_u64 _ _
theorem mix_range (a b : Int) : 0 ≤ mixL a b ∧ mixL a b ≤ 18446744073709551615 := hash_range _
def startOk (part p : Int) : Prop := 0 ≤ logP p ∧ 0 ≤ part ∧ part < p
instance (part p : Int) : Decidable (startOk part p) := by unfold startOk; infer_instance
end Go.Fw
namespace Go.Fw
open Go.RowKit
abbrev KH := List UInt8 × Int
def placeK (k : List UInt8) : Nat := (hashL k % 16).toNat
theorem placeK_lt (k : List UInt8) : placeK k < 16 := by unfold placeK; omega
def setT (k : List UInt8) (h : Int) : List KH → List KH
 | [] => [(k, h)]
 | (x, u) :: r => if Op.bytesLess k x = true then (k, h) :: (x, u) :: r else if k = x then (k, h) :: r else (x, u) :: setT k h r
def hasT (T : List KH) (k : List UInt8) : Bool := T.any fun x => decide (x.1 = k)
abbrev ltK (a b : KH) : Prop := Op.bytesLess a.1 b.1 = true
structure KhOk (T : List KH) : Prop where
 sorted : T.Pairwise ltK
 name : ∀ x ∈ T, nameB x.1 = true
 hash : ∀ x ∈ T, 0 ≤ x.2 ∧ x.2 ≤ 18446744073709551615
theorem kh_nil : KhOk [] := ⟨List.Pairwise.nil, by simp, by simp⟩
theorem ltK_irr (a : KH) : ¬ ltK a a := by show ¬ Op.bytesLess a.1 a.1 = true; rw [Wa]; simp
theorem ltK_asymm (a b : KH) (h : ltK a b) : ¬ ltK b a := by show ¬ Op.bytesLess b.1 a.1 = true; rw [Xv h]; simp
theorem Xw {k : List UInt8} {h : Int} {x : KH} : ∀ {T : List KH}, T.Pairwise ltK → (x ∈ setT k h T ↔ x = (k, h) ∨ (x ∈ T ∧ x.1 ≠ k))
 | [], _ => by simp [setT]
 | (y, u) :: r, hs => by
   rw [List.pairwise_cons] at hs
   have hr : ∀ z ∈ r, ¬ z.1 = y := fun z hz e => by have := hs.1 z hz; exact less_ne this e.symm
   rw [setT]
   by_cases h1 : Op.bytesLess k y = true
   · rw [if_pos h1]
     have hk : ∀ z ∈ (y, u) :: r, z.1 ≠ k := fun z hz e => by
       rcases List.mem_cons.1 hz with rfl | hz
       · exact less_ne h1 e.symm
       · have := less_trans h1 (hs.1 z hz)
         exact less_ne this e.symm
     rw [List.mem_cons]
     constructor
     · rintro (rfl | hx)
       · exact .inl rfl
       · exact .inr ⟨hx, hk x hx⟩
     · rintro (rfl | ⟨hx, _⟩)
       · exact .inl rfl
       · exact .inr hx
   · rw [if_neg h1]
     by_cases h2 : k = y
     · rw [if_pos h2]
       subst h2
       rw [List.mem_cons, List.mem_cons]
       constructor
       · rintro (rfl | hx)
         · exact .inl rfl
         · exact .inr ⟨.inr hx, hr x hx⟩
       · rintro (rfl | ⟨rfl | hx, hne⟩)
         · exact .inl rfl
         · exact absurd rfl hne
         · exact .inr hx
     · rw [if_neg h2, List.mem_cons, List.mem_cons, Xw hs.2]
       constructor
       · rintro (rfl | rfl | ⟨hx, hne⟩)
         · exact .inr ⟨.inl rfl, fun e => h2 e.symm⟩
         · exact .inl rfl
         · exact .inr ⟨.inr hx, hne⟩
       · rintro (rfl | ⟨rfl | hx, hne⟩)
         · exact .inr (.inl rfl)
         · exact .inl rfl
         · exact .inr (.inr ⟨hx, hne⟩)
theorem setT_sorted {k : List UInt8} {h : Int} : ∀ {T : List KH}, T.Pairwise ltK → (setT k h T).Pairwise ltK
 | [], _ => List.pairwise_singleton ..
 | (y, u) :: r, hs => by
   have hs' := List.pairwise_cons.1 hs
   rw [setT]
   by_cases h1 : Op.bytesLess k y = true
   · rw [if_pos h1]
     refine List.Pairwise.cons (fun z hz => ?_) hs
     rcases List.mem_cons.1 hz with rfl | hz
     · exact h1
     · exact less_trans h1 (hs'.1 z hz)
   · rw [if_neg h1]
     by_cases h2 : k = y
     · rw [if_pos h2]
       subst h2
       exact List.Pairwise.cons (fun z hz => hs'.1 z hz) hs'.2
     · rw [if_neg h2]
       refine List.Pairwise.cons (fun z hz => ?_) (setT_sorted hs'.2)
       rcases (Xw hs'.2).1 hz with rfl | ⟨hz, _⟩
       · exact (less_total h2).resolve_left h1
       · exact hs'.1 z hz
theorem setT_ok {k : List UInt8} {h : Int} {T : List KH} (hT : KhOk T) (hk : nameB k = true) (hh : 0 ≤ h ∧ h ≤ 18446744073709551615) : KhOk (setT k h T) := by
 refine ⟨setT_sorted hT.sorted, fun x hx => ?_, fun x hx => ?_⟩
 · rcases (Xw hT.sorted).1 hx with rfl | ⟨hx, _⟩
   · exact hk
   · exact hT.name x hx
 · rcases (Xw hT.sorted).1 hx with rfl | ⟨hx, _⟩
   · exact hh
   · exact hT.hash x hx
theorem setT_len (k : List UInt8) (h : Int) : ∀ T : List KH, (setT k h T).length ≤ T.length + 1
 | [] => by simp [setT]
 | (y, u) :: r => by
   have ih := setT_len k h r
   rw [setT]
   split
   · simp
   · split
     · simp
     · simp only [List.length_cons]; omega
theorem kh_ext {T U : List KH} (hT : T.Pairwise ltK) (hU : U.Pairwise ltK) (h : ∀ x, x ∈ T ↔ x ∈ U) : T = U :=
 mem_ext_sorted ltK_irr ltK_asymm hT hU h
def partT (T : List KH) (i : Nat) : List KH := T.filter fun x => decide (placeK x.1 = i)
theorem Yz {T : List KH} {i : Nat} {x : KH} : x ∈ partT T i ↔ x ∈ T ∧ placeK x.1 = i := by
 unfold partT
 rw [List.mem_filter, decide_eq_true_eq]
theorem partT_sorted {T : List KH} (hT : T.Pairwise ltK) (i : Nat) : (partT T i).Pairwise ltK := hT.filter _
theorem partT_len (T : List KH) (i : Nat) : (partT T i).length ≤ T.length := List.length_filter_le _ _
theorem part_set {k : List UInt8} {h : Int} {T : List KH} (hT : T.Pairwise ltK) {i : Nat} (hi : i ≠ placeK k) : partT (setT k h T) i = partT T i :=
 kh_ext (partT_sorted (setT_sorted hT) i) (partT_sorted hT i) fun x => by
   rw [Yz, Yz, Xw hT]
   constructor
   · rintro ⟨rfl | ⟨h1, _⟩, h2⟩
     · exact absurd h2.symm hi
     · exact ⟨h1, h2⟩
   · rintro ⟨h1, h2⟩
     exact ⟨.inr ⟨h1, fun e => hi (by rw [← h2, e])⟩, h2⟩
def leafF (h : Int) (x : KH) : Int := mixL h (mixL (hashL x.1) x.2)
def leafH (l : List KH) : Int := l.foldl leafF 0
theorem leaf_range (l : List KH) : 0 ≤ leafH l ∧ leafH l ≤ 18446744073709551615 := by
 have key : ∀ (l : List KH) (h : Int), 0 ≤ h ∧ h ≤ 18446744073709551615 → 0 ≤ l.foldl leafF h ∧ l.foldl leafF h ≤ 18446744073709551615 := by
   intro l
   induction l with
   | nil => exact fun h hh => hh
   | cons x r ih => exact fun h hh => ih _ (mix_range _ _)
 exact key l 0 (by omega)
def hashT (T : List KH) : Nat → Nat → Int
 | 0, p => leafH (partT T p)
 | d + 1, p => if hashT T d (2 * p) = 0 ∧ hashT T d (2 * p + 1) = 0 then 0 else mixL (hashT T d (2 * p)) (hashT T d (2 * p + 1))
theorem hashT_range (T : List KH) : ∀ d p, 0 ≤ hashT T d p ∧ hashT T d p ≤ 18446744073709551615
 | 0, p => leaf_range _
 | d + 1, p => by
   rw [hashT]
   split
   · omega
   · exact mix_range _ _
structure Sm where
 place : Int
 key : List UInt8
 hash : Int
deriving DecidableEq
abbrev Sm.enc (x : Sm) : List Value := [.int .i64 x.place, .string (bs x.key), .int .u64 x.hash]
theorem Sm.enc_len (x : Sm) : (Sm.enc x).length = 3 := rfl
theorem Sm.enc_one (x : Sm) : ∀ u ∈ Sm.enc x, u.oneCell' = true := fun u hu => by simp [Sm.enc] at hu; rcases hu with rfl | rfl | rfl <;> rfl
theorem Sm.mkEnc {p h : Int} {s : List UInt8} : [Value.int .i64 p, .string (bs s), .int .u64 h] = Sm.enc ⟨p, s, h⟩ := rfl
def smP (p : Int) (x : KH) : Sm := ⟨p, x.1, x.2⟩
def hashOk (l : List Sm) : Prop := ∀ x ∈ l, 0 ≤ x.hash ∧ x.hash ≤ 18446744073709551615
def setsT (T : List KH) (l : List Sm) : List KH := l.foldl (fun T x => if nameB x.key = true then setT x.key x.hash T else T) T
theorem sets_ok : ∀ (l : List Sm) {T : List KH}, hashOk l → KhOk T → KhOk (setsT T l)
 | [], _, _, h => h
 | x :: r, T, hl, h => by
   show KhOk (setsT (if nameB x.key = true then setT x.key x.hash T else T) r)
   refine sets_ok r (fun y hy => hl y (by simp [hy])) ?_
   split
   · rename_i hk
     exact setT_ok h hk (hl x (by simp))
   · exact h
theorem sets_len : ∀ (l : List Sm) (T : List KH), (setsT T l).length ≤ T.length + l.length
 | [], T => by simp [setsT]
 | x :: r, T => by
   have h1 := sets_len r (if nameB x.key = true then setT x.key x.hash T else T)
   have h2 : (if nameB x.key = true then setT x.key x.hash T else T).length ≤ T.length + 1 := by
     split
     · exact setT_len _ _ _
     · omega
   show (setsT (if nameB x.key = true then setT x.key x.hash T else T) r).length ≤ _
   rw [List.length_cons]
   omega
theorem sets_snoc {T : List KH} {l : List Sm} {i : Nat} {x : Sm} (h : l[i]? = some x) : setsT T (l.take (i + 1)) = if nameB x.key = true then setT x.key x.hash (setsT T (l.take i)) else setsT T (l.take i) := by
 unfold setsT
 rw [List.take_add_one, h, Option.toList_some, List.foldl_append]
 rfl
def okP (level deep : Int) (l : List Int) : Bool := decide (0 ≤ level) && decide (level ≤ deep) && l.all fun p => decide (0 ≤ p ∧ p < 2 ^ level.toNat)
def sumsT (T : List KH) (level : Int) (l : List Int) : List Sm := l.map fun p => ⟨p, [], hashT T (4 - level).toNat p.toNat⟩
def keysT (T : List KH) (l : List Int) : List Sm := l.flatMap fun p => (partT T p.toNat).map (smP p)
def unlikeT (T : List KH) (level : Int) (l : List Sm) : List Int := (l.filter fun s => decide (hashT T (4 - level).toNat s.place.toNat ≠ s.hash)).map (·.place)
def belowT (l : List Int) : List Int := l.flatMap fun p => [2 * p, 2 * p + 1]
end Go.Fw
namespace Go.Fw
open Go.RowKit Go.Maps Go.Sort Go.Proofs Go.Shelf Go.ChangeMaps Go.Proofs.YtbijdmfilmecbaaGreat
def smE (vv : Int → Value) (l : List (KH × Nat)) : List MapEntry := l.map fun p => ⟨.string (bs p.1.1), vv p.1.2, p.2⟩
abbrev smO (vv : Int → Value) (l : List (KH × Nat)) (c : Nat) : Obj := .map (smE vv l).toArray c
structure SmOk (l : List (KH × Nat)) (c : Nat) : Prop where
 keys : (l.map (·.1.1)).Nodup
 born : (l.map (·.2)).Nodup
 lt : ∀ p ∈ l, p.2 < c
def MapV (vv : Int → Value) (o : Obj) (f : List KH) : Prop := ∃ l c, o = smO vv l c ∧ SmOk l c ∧ ∀ x, x ∈ l.map (·.1) ↔ x ∈ f
abbrev MapC := MapV fun x => .int .u64 x
theorem mapV_nil {vv : Int → Value} : MapV vv (.map #[] 0) [] := ⟨[], 0, rfl, ⟨List.nodup_nil, List.nodup_nil, by simp⟩, by simp⟩
theorem mapC_nil : MapC (.map #[] 0) [] := ⟨[], 0, rfl, ⟨List.nodup_nil, List.nodup_nil, by simp⟩, by simp⟩
theorem mapC_congr {vv : Int → Value} {o : Obj} {f g : List KH} (h : MapV vv o f) (e : ∀ x, x ∈ f ↔ x ∈ g) : MapV vv o g := by
 obtain ⟨l, c, h1, h2, h3⟩ := h
 exact ⟨l, c, h1, h2, fun x => (h3 x).trans (e x)⟩
def sfind (k : List UInt8) : Nat → List (KH × Nat) → Option (Nat × Int)
 | _, [] => none
 | i, (x, _) :: r => if k = x.1 then some (i, x.2) else sfind k (i + 1) r
theorem sfind_some : ∀ {l : List (KH × Nat)} {k : List UInt8} {i j : Nat} {h : Int}, sfind k i l = some (j, h) → i ≤ j ∧ ∃ b, l[j - i]? = some ((k, h), b)
 | [], _, _, _, _, e => by simp [sfind] at e
 | ((x, u), b) :: r, k, i, j, h, e => by
   unfold sfind at e
   split at e
   · rename_i hk
     simp only [Option.some.injEq, Prod.mk.injEq] at e
     obtain ⟨rfl, rfl⟩ := e
     dsimp only at hk
     subst hk
     exact ⟨Nat.le_refl _, b, by simp⟩
   · obtain ⟨h1, b', h2⟩ := sfind_some e
     refine ⟨by omega, b', ?_⟩
     rw [show j - i = (j - (i + 1)) + 1 by omega]
     simpa using h2
theorem sfind_none : ∀ {l : List (KH × Nat)} {k : List UInt8} {i : Nat}, sfind k i l = none → ∀ p ∈ l, p.1.1 ≠ k
 | [], _, _, _ => by simp
 | ((x, u), b) :: r, k, i, e => by
   unfold sfind at e
   split at e
   · cases e
   · rename_i hk
     intro p hp
     rcases List.mem_cons.1 hp with rfl | hp
     · exact fun h => hk h.symm
     · exact sfind_none e p hp
theorem bs_beq (k x : List UInt8) : (bs k == bs x) = decide (k = x) := by
 have : (bs k == bs x) = (k.toArray == x.toArray) := rfl
 rw [this, Bool.eq_iff_iff, decide_eq_true_eq]
 simp
theorem find_now (vv : Int → Value) (k : List UInt8) : ∀ (l : List (KH × Nat)) (i : Nat), Instr.findNow .string (.string (bs k)) (smE vv l) i = some ((sfind k i l).map fun p => (p.1, vv p.2))
 | [], i => rfl
 | ((x, u), b) :: r, i => by
   have ih := find_now vv k r (i + 1)
   unfold smE at ih ⊢
   rw [List.map_cons, Instr.findNow, Instr.sameNow, bs_beq]
   unfold sfind
   by_cases e : k = x
   · rw [decide_eq_true e, if_pos e]; rfl
   · rw [decide_eq_false e, if_neg e]; exact ih
section
variable {P : Program} {kt et t : TypeId} {vv : Int → Value}
theorem find_S (h : P.underlying kt = some .string) (k : List UInt8) (l : List (KH × Nat)) (w : World) : (Instr.findKey kt (.string (bs k)) (smE vv l)).run P w = .ok ((sfind k 0 l).map fun p => (p.1, vv p.2)) w := by
 simp [Instr.findKey, run_underlying h, find_now vv k l 0]
theorem check_S (h : P.underlying kt = some .string) (b : Bool) (k : List UInt8) (w : World) : (Instr.checkKey b 10000 kt (.string (bs k))).run P w = .ok () w := by
 have hc : ∀ m, (Instr.checkKey b (m + 1) kt (.string (bs k))).run P w = .ok () w := fun m => by
   simp only [Instr.checkKey, Sem.run_bind, run_underlying h, Result.andThen_ok]
   rfl
 exact hc 9999
theorem same_S (k : List UInt8) : Instr.sameBits 10000 (.string (bs k)) (.string (bs k)) = true := by
 show (bs k == bs k) = true
 rw [bs_beq, decide_eq_true rfl]
structure SmV (vv : Int → Value) (P : Program) (t : TypeId) : Prop where
 ty : ∃ kt et, P.underlying t = some (.map kt et) ∧ P.underlying kt = some .string ∧ ∀ w, (zeroValue et).run P w = .ok (vv 0) w
theorem smE_get (vv : Int → Value) (l : List (KH × Nat)) (j : Nat) : (smE vv l)[j]? = (l[j]?).map fun p => ⟨.string (bs p.1.1), vv p.1.2, p.2⟩ := by unfold smE; rw [List.getElem?_map]
abbrev SmT := SmV fun x => .int .u64 x
theorem run_updS {g : Nat} {o : Obj} {f f' : List KH} {k : List UInt8} {h : Int} {w : World} (T : SmV vv P t) (hb : w.heap[g]? = some o) (hC : MapV vv o f) (hf : ∀ x, x ∈ f' ↔ x = (k, h) ∨ (x ∈ f ∧ x.1 ≠ k)) :
   ∃ o', MapV vv o' f' ∧ (Instr.mapUpdate t (.map (some g)) (.string (bs k)) (vv h)).run P w = .ok () (setBlock w g o') := by
 obtain ⟨kt, et, ht, hk, hz⟩ := T.ty
 obtain ⟨l, c, rfl, ok, hm⟩ := hC
 have hset : ∀ o, (setObj g o).run P w = .ok () (setBlock w g o) := fun o => MapKept.run_setObj_map o hb
 cases hs : sfind k 0 l with
 | none =>
   have hne := sfind_none hs
   refine ⟨smO vv (l ++ [((k, h), c)]) (c + 1), ⟨_, _, rfl, ⟨?_, ?_, ?_⟩, fun x => ?_⟩, ?_⟩
   · rw [List.map_append, List.nodup_append]
     refine ⟨ok.keys, by simp, fun a ha b hb' => ?_⟩
     obtain ⟨p, hp, rfl⟩ := List.mem_map.1 ha
     simp at hb'
     subst hb'
     exact hne p hp
   · rw [List.map_append, List.nodup_append]
     refine ⟨ok.born, by simp, fun a ha b hb' => ?_⟩
     obtain ⟨p, hp, rfl⟩ := List.mem_map.1 ha
     simp at hb'
     subst hb'
     have := ok.lt p hp
     omega
   · intro p hp
     rcases List.mem_append.1 hp with hp | hp
     · have := ok.lt p hp; omega
     · simp at hp; subst hp; simp
   · rw [hf, List.map_append, List.mem_append, hm]
     constructor
     · rintro (hx | hx)
       · refine .inr ⟨hx, fun e => ?_⟩
         obtain ⟨p, hp, rfl⟩ := List.mem_map.1 ((hm x).2 hx)
         exact hne p hp e
       · simp at hx; exact .inl hx
     · rintro (rfl | ⟨hx, _⟩)
       · exact .inr (by simp)
       · exact .inl hx
   · simp only [Instr.mapUpdate, Sem.run_bind, run_underlying ht, Result.andThen_ok, MapKept.run_getObj_map hb, check_S hk, find_S hk, hs, Option.map_none, hset]
     congr 2
     simp [smO, smE]
 | some q =>
   obtain ⟨j, u⟩ := q
   obtain ⟨_, b, hj⟩ := sfind_some hs
   simp only [Nat.sub_zero] at hj
   have hjl : j < l.length := (List.getElem?_eq_some_iff.1 hj).1
   have he : (smE vv l)[j]? = some ⟨.string (bs k), vv u, b⟩ := by rw [smE_get, hj]; rfl
   have hk1 : (l.set j ((k, h), b)).map (·.1.1) = l.map (·.1.1) := by
     apply List.ext_getElem?
     intro i
     rw [List.getElem?_map, List.getElem?_map, List.getElem?_set]
     by_cases e : j = i
     · subst e; rw [if_pos rfl, if_pos hjl, hj]; rfl
     · rw [if_neg e]
   have hk2 : (l.set j ((k, h), b)).map (·.2) = l.map (·.2) := by
     apply List.ext_getElem?
     intro i
     rw [List.getElem?_map, List.getElem?_map, List.getElem?_set]
     by_cases e : j = i
     · subst e; rw [if_pos rfl, if_pos hjl, hj]; rfl
     · rw [if_neg e]
   have huniq : ∀ i p, l[i]? = some p → p.1.1 = k → i = j := fun i p hi hp => by
     have h1 : (l.map (·.1.1))[i]? = some k := by rw [List.getElem?_map, hi]; simp [hp]
     have h2 : (l.map (·.1.1))[j]? = some k := by rw [List.getElem?_map, hj]; rfl
     have hil : i < (l.map (·.1.1)).length := (List.getElem?_eq_some_iff.1 h1).1
     exact (List.getElem?_inj hil ok.keys).1 (h1.trans h2.symm)
   refine ⟨smO vv (l.set j ((k, h), b)) c, ⟨_, _, rfl, ⟨by rw [hk1]; exact ok.keys, by rw [hk2]; exact ok.born, fun p hp => ?_⟩, fun x => ?_⟩, ?_⟩
   · obtain ⟨i, hi⟩ := List.mem_iff_getElem?.1 hp
     rw [List.getElem?_set] at hi
     split at hi
     · simp [hjl] at hi
       subst hi
       show b < c
       exact ok.lt ((k, u), b) (List.mem_of_getElem? hj)
     · exact ok.lt p (List.mem_of_getElem? hi)
   · rw [hf]
     constructor
     · intro hx
       obtain ⟨p, hp, rfl⟩ := List.mem_map.1 hx
       obtain ⟨i, hi⟩ := List.mem_iff_getElem?.1 hp
       rw [List.getElem?_set] at hi
       split at hi
       · simp [hjl] at hi
         subst hi
         exact .inl rfl
       · rename_i hne
         exact .inr ⟨(hm _).1 (List.mem_map.2 ⟨p, List.mem_of_getElem? hi, rfl⟩), fun e => hne (huniq i p hi e).symm⟩
     · rintro (rfl | ⟨hx, hne⟩)
       · exact List.mem_map.2 ⟨((k, h), b), List.mem_of_getElem? (i := j) (by rw [List.getElem?_set, if_pos rfl, if_pos hjl]), rfl⟩
       · obtain ⟨p, hp, rfl⟩ := List.mem_map.1 ((hm x).2 hx)
         obtain ⟨i, hi⟩ := List.mem_iff_getElem?.1 hp
         refine List.mem_map.2 ⟨p, List.mem_of_getElem? (i := i) ?_, rfl⟩
         rw [List.getElem?_set, if_neg (fun e => ?_)]
         · exact hi
         · subst e
           rw [hj] at hi
           simp at hi
           subst hi
           exact hne rfl
   · simp only [Instr.mapUpdate, Sem.run_bind, run_underlying ht, Result.andThen_ok, MapKept.run_getObj_map hb, check_S hk, find_S hk, hs, Option.map_some, Instr.keyThatStays, List.getElem?_toArray, he, Option.getD_some, same_S, if_true, Sem.run_pure, hset]
     congr 2
     simp only [smO]
     congr 1
     apply Array.toList_inj.1
     rw [Array.toList_modify]
     apply List.ext_getElem?
     intro i
     rw [List.getElem?_modify, smE_get vv l, smE_get vv (l.set _ _), List.getElem?_set]
     by_cases e : j = i
     · subst e
       rw [if_pos rfl, if_pos hjl, hj]
       simp
     · rw [if_neg e]
       simp [e]
theorem run_lookS {g : Nat} {o : Obj} {f : List KH} {k : List UInt8} {ok : Bool} {w : World} {r : Option Int} (T : SmV vv P t) (hb : w.heap[g]? = some o) (hC : MapV vv o f) (hr : match r with | some h => (k, h) ∈ f | none => ∀ x ∈ f, x.1 ≠ k) :
   (Instr.lookup t (.map (some g)) (.string (bs k)) ok).run P w = .ok (if ok then .tuple #[vv (r.getD 0), .bool r.isSome] else vv (r.getD 0)) w := by
 obtain ⟨kt, et, ht, hk, hz⟩ := T.ty
 obtain ⟨l, c, rfl, okl, hm⟩ := hC
 have hs : (sfind k 0 l).map (·.2) = r := by
   cases hs : sfind k 0 l with
   | none =>
     have hne := sfind_none hs
     cases r with
     | none => rfl
     | some h =>
       obtain ⟨p, hp, e⟩ := List.mem_map.1 ((hm _).2 hr)
       exact absurd (by rw [e]) (hne p hp)
   | some q =>
     obtain ⟨j, u⟩ := q
     obtain ⟨_, b, hj⟩ := sfind_some hs
     simp only [Nat.sub_zero] at hj
     cases r with
     | none => exact absurd rfl (hr (k, u) ((hm _).1 (List.mem_map.2 ⟨_, List.mem_of_getElem? hj, rfl⟩)))
     | some h =>
       obtain ⟨p, hp, e⟩ := List.mem_map.1 ((hm _).2 hr)
       obtain ⟨i, hi⟩ := List.mem_iff_getElem?.1 hp
       have h1 : (l.map (·.1.1))[i]? = some k := by rw [List.getElem?_map, hi]; simp [e]
       have h2 : (l.map (·.1.1))[j]? = some k := by rw [List.getElem?_map, hj]; rfl
       have hil : i < (l.map (·.1.1)).length := (List.getElem?_eq_some_iff.1 h1).1
       have hij := (List.getElem?_inj hil okl.keys).1 (h1.trans h2.symm)
       subst hij
       rw [hj] at hi
       simp at hi
       subst hi
       simp at e
       simp [e]
 simp only [Instr.lookup, Sem.run_bind, run_underlying ht, Result.andThen_ok, MapKept.run_getObj_map hb, check_S hk, find_S hk, Sem.run_pure]
 cases h : sfind k 0 l with
 | none =>
   rw [h] at hs
   subst hs
   cases ok <;> simp [hz]
 | some q =>
   rw [h] at hs
   subst hs
   cases ok <;> simp
end
section
variable {vv : Int → Value} {P : Program} {n : Nat} {w0 : World} {K : KL} {L : List Chunk} {ty : TypeId} {pos : String} {aft : Array Edge} {gd : Option (Nat × Bool)} {a : Act} {w : World} {Z : Act → World → Prop} {Q : Exit → Act → World → Prop} {d : Nat} {dst : Option Tmp} {b : Bool} {t : TypeId}
theorem op_updS {j g : Nat} {o : Obj} {f : List KH} {k : List UInt8} {h : Int} {x y u : Operand} (f' : List KH) (S : St n w0 K L a w) (T : SmV vv P t) (hx : Ev n true K x (.map (some g))) (hy : Ev n true K y (.string (bs k))) (hu : Ev n true K u (vv h)) (hk : L[j]? = some (.blk g o)) (hC : MapV vv o f) (hf : ∀ x, x ∈ f' ↔ x = (k, h) ∨ (x ∈ f ∧ x.1 ≠ k))
   (next : ∀ o', MapV vv o' f' → ∀ a w, St n w0 K (L.set j (.blk g o')) a w → Z a w) : Oper.wp P ⟨none, .mapUpdate t x y u, ty, pos, aft, gd⟩ a w Z Q := by
 obtain ⟨o', hC', h⟩ := run_updS (h := h) T (S.wd.get hk).2 hC hf
 refine run_wp0 (w' := setBlock w g o') ?_ (next o' hC' _ _ ⟨S.kn, S.wd.setBlk hk⟩)
 simp only [execOp, hx a rfl S.kn, hy a rfl S.kn, hu a rfl S.kn]
 simp [h]
theorem ys_lookS {j g : Nat} {o : Obj} {f : List KH} {k : List UInt8} {r : Option Int} {x y : Operand} (T : SmV vv P t) (hx : Ev n b K x (.map (some g))) (hy : Ev n b K y (.string (bs k))) (hk : L[j]? = some (.blk g o)) (hC : MapV vv o f) (hr : match r with | some h => (k, h) ∈ f | none => ∀ x ∈ f, x.1 ≠ k) :
   Yr P ⟨dst, .lookup t x y true, ty, pos, aft, gd⟩ n K w0 L b (.tuple #[vv (r.getD 0), .bool r.isSome]) := fun a w hb hkn hw => by
 have h := run_lookS (ok := true) T (hw.get hk).2 hC hr
 simp only [execOp, hx a hb hkn, hy a hb hkn]
 simp [h]
theorem ys_lookSO {g : Nat} {o : Obj} {f : List KH} {k : List UInt8} {h : Int} {x y : Operand} (T : SmV vv P t) (hx : Ev n b K x (.map (some g))) (hy : Ev n b K y (.string (bs k))) (hk : w0.heap[g]? = some o) (hC : MapV vv o f) (hr : (k, h) ∈ f) :
   Yr P ⟨dst, .lookup t x y false, ty, pos, aft, gd⟩ n K w0 L b (vv h) := fun a w hb hkn hw => by
 have hlt := (Array.getElem?_eq_some_iff.1 hk).1
 have h := run_lookS (ok := false) (r := some h) T ((hw.below.block g hlt).trans hk) hC hr
 simp only [execOp, hx a hb hkn, hy a hb hkn]
 simp [h]
end
end Go.Fw
namespace Go.Fw
open Go.RowKit Go.Maps Go.Sort Go.Proofs Go.Shelf Go.ChangeMaps Go.Proofs.YtbijdmfilmecbaaGreat
def encS' (x : List UInt8) : List Value := [.string (bs x)]
theorem le_less (a b : List UInt8) : a ≤ b ↔ Op.bytesLess b a = false := by
 have key : ∀ a b : List UInt8, Op.bytesLess a b = true ↔ a < b := by
   intro a
   induction a with
   | nil => intro b; cases b <;> simp [Op.bytesLess]
   | cons x r ih =>
     intro b
     cases b with
     | nil => simp [less_nil]
     | cons y s => rw [less_cons, ih s, List.cons_lt_cons_iff]
 rw [← List.not_lt, ← key b a, Bool.not_eq_true]
theorem nodup_mapS {l : List (List UInt8)} (h : l.Nodup) : (l.map fun x => Value.string (bs x)).Nodup := by
 refine (List.pairwise_map.2 (h.imp fun hne e => ?_))
 simp only [Value.string.injEq] at e
 exact hne (bs_inj.1 e)
theorem nodup_of {α β : Type} (f : α → β) {l : List α} (h : (l.map f).Nodup) : l.Nodup := by
 unfold List.Nodup at h ⊢
 rw [List.pairwise_map] at h
 exact h.imp fun hne e => hne (congrArg f e)
theorem sm_clock {l : List (KH × Nat)} {c : Nat} (ok : SmOk l c) : l.length ≤ c := by
 have h := ok.born.length_le_of_subset (l₂ := List.range c) fun x hx => by
   obtain ⟨p, hp, rfl⟩ := List.mem_map.1 hx
   exact List.mem_range.2 (ok.lt p hp)
 rwa [List.length_map, List.length_range] at h
theorem owns_smO {vv : Int → Value} {P : Program} {kt : TypeId} (hk : P.underlying kt = some .string) {l : List (KH × Nat)} {c : Nat} {w : World} {b : Nat} (ok : SmOk l c) (hs : ∀ p ∈ l, p.1.1.length ≤ maxLen) (hl : l.length ≤ maxLen) (hb : w.heap[b]? = some (smO vv l c)) :
   ∃ D : DataW Unit, w.ownsMap P kt (fun _ => some (.lit (.bool true), [])) b c D ∧ Maps.size D = l.length ∧ (strKeys D).Perm (l.map (·.1.1)) := by
 have hrd : ∀ (l : List (KH × Nat)), (∀ p ∈ l, p.1.1.length ≤ maxLen) → (smE vv l).map (Go.WideElems.rg (H := Unit) P kt fun _ => some (.lit (.bool true), [])) = l.map fun p => (Lit.string p.1.1, DataW.lit (.bool true)) := by
   intro l
   induction l with
   | nil => intro _; rfl
   | cons p r ih =>
     intro h
     have hx := h p (by simp)
     unfold smE at ih ⊢
     simp only [List.map_cons]
     rw [ih fun q hq => h q (by simp [hq])]
     congr 1
     have := Go.WideMaps.keyOf_string_mk (P := P) hk (s := bs p.1.1) (by rw [bs_size]; exact hx)
     simp [Go.WideElems.rg, Go.WideElems.rd, this]
 have hD := Go.WideShapes.sorted_perm ((smE vv l).map (Go.WideElems.rg (H := Unit) P kt fun _ => some (.lit (.bool true), [])))
 refine ⟨.map (((smE vv l).map (Go.WideElems.rg (H := Unit) P kt fun _ => some (.lit (.bool true), []))).foldr DataW.insert []), ⟨_, _, hb, ⟨by simp [smE]; exact hl, ⟨?_, ?_, ?_⟩, ?_⟩, by simp [smE]; exact sm_clock ok, rfl⟩, ?_, ?_⟩
 · intro x hx
   have hx' : x ∈ smE vv l := hx
   unfold smE at hx'
   obtain ⟨p, hp, rfl⟩ := List.mem_map.1 hx'
   exact ok.lt p hp
 · show ((smE vv l).map (·.born)).Nodup
   unfold smE
   rw [List.map_map]
   exact ok.born
 · show ((smE vv l).map (·.key)).Nodup
   unfold smE
   rw [List.map_map]
   have := nodup_mapS ok.keys
   rw [List.map_map] at this
   exact this
 · intro x hx
   have hx' : x ∈ smE vv l := hx
   unfold smE at hx'
   obtain ⟨p, hp, rfl⟩ := List.mem_map.1 hx'
   exact ⟨_, by simp only [Go.WideElems.rd, Go.WideMaps.keyOf_string_mk (P := P) hk (s := bs p.1.1) (by rw [bs_size]; exact hs p hp)]; rfl⟩
 · show List.length _ = _
   rw [hD.length_eq, List.length_map]
   unfold smE
   rw [List.length_map]
 · show (List.map _ _).Perm _
   refine (hD.map _).trans ?_
   rw [hrd l hs, List.map_map]
   exact List.Perm.of_eq rfl
theorem sorted_keysS {vv : Int → Value} {P : Program} {ρk ρs : Ren} (LK : SlLaysZ.n10 P ρk) (LS : SlLaysZ.n6 P ρs) (hsort : AnyZ.SortsIn P ρs Fence.wide 5) (e9 : ∀ args w, (callFunc (ρs.f 9) args).run P w = .ok (.enter (ρs.f 9) args) w) (eK : ∀ args w, (callFunc (ρk.f 10) args).run P w = .ok (.enter (ρk.f 10) args) w)
   {f : List KH} {o : Obj} {w0 w : World} {L : List Chunk} {g b : Nat} {te : TypeId} {fr : Nat × Nat} (W : Wd w0 (.blk g (.cells #[.map (some b)] te fr) :: L) w) (hk : P.underlying (ρk.t 26) = some .string)
   (hb : w.heap[b]? = some o) (hC : MapV vv o f) (hf : f.Pairwise ltK) (hs : ∀ x ∈ f, x.1.length ≤ 1048576) (hl : f.length ≤ 4194304) :
   RetsO P (ρs.f 6) #[.func (.func (ρk.f 10)) #[] #[.pointer (some ⟨g, 0, none⟩)]] w0 w fun v L' => ∃ A cap, v = .slice A f.length cap ∧ L' = rowOf (ρs.t 26) 1 encS' A cap (f.map (·.1)) :: .blk g (.cells #[.map (some b)] te fr) :: L := by
 obtain ⟨l, c, rfl, ok, hm⟩ := hC
 have hfn : (f.map (·.1)).Nodup := by
   refine List.pairwise_map.2 (hf.imp fun h => less_ne h)
 have hpf : (l.map (·.1)).Perm f := (List.perm_ext_iff_of_nodup (nodup_of (fun x : KH => x.1) (by rw [List.map_map]; exact ok.keys)) (nodup_of (fun x : KH => x.1) hfn)).2 hm
 have hlen : l.length = f.length := by have := hpf.length_eq; rwa [List.length_map] at this
 have hg := (W.get (k := 0) rfl).2
 have hgl := (Array.getElem?_eq_some_iff.1 hg).1
 obtain ⟨D, hown, hsz, hperm⟩ := owns_smO (P := P) (kt := ρk.t 26) hk ok (fun p hp => by
   have := hs p.1 ((hm _).1 (List.mem_map.2 ⟨p, hp, rfl⟩))
   simp only [maxLen]; omega) (by simp only [maxLen]; omega) hb
 have hseq : SeqGives Fence.wide 3 P (ρk.f 10) #[.pointer (some ⟨g, 0, none⟩)] encStr (fun ss => ss.Perm (strKeys D)) (Maps.size D) w :=
   AnyZ.keys_gives LK Fence.wide _ trivial rfl (by omega) g b _ D w hgl (by rw [cell_of_row w g 0 _ te fr hg]; rfl) hown
 have cS := AnyZ.sorted_in LS Fence.wide 6 trivial trivial trivial trivial rfl (by omega) hsort e9 (ρk.f 10) #[.pointer (some ⟨g, 0, none⟩)] trivial eK _ _ (by rw [hsz]; simp only [maxLen]; omega) (by rw [hsz]; omega) w hseq
 refine (callsIn_wide.1 cS).mono fun e w' ⟨v, ss, he, hS, hrow, hnil, hbel⟩ => ?_
 have hp : (ss.mergeSort fun x y => decide (x ≤ y)).Perm (f.map (·.1)) := (List.mergeSort_perm _ _).trans (hS.trans (hperm.trans (by
   have := hpf.map (fun x : KH => x.1)
   rwa [List.map_map] at this)))
 have hss : (ss.mergeSort fun x y => decide (x ≤ y)) = f.map (·.1) := by
   have h1 : (ss.mergeSort fun x y => decide (x ≤ y)).Pairwise (fun a b => decide (a ≤ b) = true) := List.pairwise_mergeSort (fun a b c h1 h2 => by
     rw [decide_eq_true_eq] at *
     exact List.le_trans h1 h2) (fun a b => by
     rw [Bool.or_eq_true, decide_eq_true_eq, decide_eq_true_eq]
     exact List.le_total a b) ss
   have h2 : (ss.mergeSort fun x y => decide (x ≤ y)).Nodup := hp.nodup_iff.2 hfn
   have h3 : (ss.mergeSort fun x y => decide (x ≤ y)).Pairwise (fun a b => Op.bytesLess a b = true) := (h1.and h2).imp fun {a b} ⟨h4, h5⟩ => by
     rw [decide_eq_true_eq, le_less] at h4
     exact (less_total h5).resolve_right (by rw [h4]; simp)
   refine mem_ext_sorted (R := fun a b => Op.bytesLess a b = true) (fun a => by rw [Wa]; simp) (fun a b h => by rw [Xv h]; simp) h3 (List.pairwise_map.2 hf) fun x => hp.mem_iff
 have hsl : ss.length = f.length := by
   have := hp.length_eq
   rwa [(List.mergeSort_perm _ _).length_eq, List.length_map] at this
 have hfl : (f.map (·.1)).flatMap encS' = (f.map (·.1)).map encStr := by
   generalize f.map (·.1) = q
   induction q with
   | nil => rfl
   | cons a r ih => rw [List.flatMap_cons, ih]; rfl
 obtain ⟨h1, h2⟩ := hrow
 rw [hss] at h1 h2
 rcases h2 with ⟨rfl, h0⟩ | ⟨gr, cap, cur, rfl, h3, h4, h5, h6, h7, h8⟩
 · have hf0 : f = [] := List.eq_nil_of_length_eq_zero (by omega)
   subst hf0
   exact ⟨_, _, he, W.more (Bel.of hbel) (c := rowOf (ρs.t 26) 1 encS' none 0 []) ⟨rfl, .inl ⟨rfl, rfl⟩⟩, none, 0, rfl, rfl⟩
 · refine ⟨_, _, he, W.more (Bel.of hbel) (c := rowOf (ρs.t 26) 1 encS' (some ⟨gr, 0, none⟩) cap (f.map (·.1))) ⟨by rw [hfl, List.length_map, List.length_map]; simp, .inr ⟨gr, cur, rfl, ?_, h3, h4, by rw [List.length_map]; omega, h6, h7, by rw [hfl, List.length_map, ← hsl, h8]⟩⟩, _, _, by rw [hsl], rfl⟩
   have hne : ss ≠ [] := fun e => by have := hnil.2 e; cases this
   have := List.length_pos_iff.2 hne
   omega
end Go.Fw
namespace Go.Proofs
open Go.Shelf
def Tryz.keysS_ren : Go.Shelf.Ren := ⟨fun | 7 => 118 | 10 => 136 | n => n, fun | 23 => 146 | 26 => 9 | 3 => 60 | 28 => 159 | 0 => 0 | 27 => 158 | 33 => 133 | 4 => 4 | n => n, fun | n => n⟩
theorem Tryz.keysS : Go.Proofs.SlLaysZ.n7 Tryz.prog Tryz.keysS_ren := {
 mixed := by kernel_rfl
 f7 := ⟨Tryz.f118.name, by decide, Tryz.func118.trans (congrArg some (by kernel_rfl))⟩
 f10 := ⟨Tryz.f136.name, by decide, Tryz.func136.trans (congrArg some (by kernel_rfl))⟩
 t0 := Tryz.underlying0
 a0 := Tryz.isAgg0
 z0 := Tryz.sizeOf0
 v0 := Tryz.zeroValue0
 t4 := Tryz.underlying4
 a4 := Tryz.isAgg4
 z4 := Tryz.sizeOf4
 v4 := Tryz.zeroValue4
 t23 := Tryz.underlying146
 a23 := Tryz.isAgg146
 z23 := Tryz.sizeOf146
 v23 := Tryz.zeroValue146
 t26 := Tryz.underlying9
 a26 := Tryz.isAgg9
 z26 := Tryz.sizeOf9
 v26 := Tryz.zeroValue9
 t27 := Tryz.underlying158
 a27 := Tryz.isAgg158
 z27 := Tryz.sizeOf158
 v27 := Tryz.zeroValue158
 t28 := Tryz.underlying159
 a28 := Tryz.isAgg159
 z28 := Tryz.sizeOf159
 v28 := Tryz.zeroValue159
 t33 := Tryz.underlying133
 a33 := Tryz.isAgg133
 z33 := Tryz.sizeOf133
 v33 := Tryz.zeroValue133 }
def Tryz.sortedS_ren : Go.Shelf.Ren := ⟨fun | 6 => 99 | 8 => 120 | 9 => 121 | 11 => 137 | 13 => 139 | 12 => 138 | 23 => 159 | 24 => 160 | 14 => 150 | 15 => 151 | 16 => 152 | 17 => 153 | 18 => 154 | 19 => 155 | 20 => 156 | 21 => 157 | 22 => 158 | 25 => 165 | 26 => 166 | 27 => 167 | 28 => 168 | 29 => 169 | 30 => 170 | 31 => 176 | n => n, fun | 26 => 9 | 28 => 159 | 24 => 58 | 0 => 0 | 3 => 3 | 37 => 143 | 48 => 213 | 50 => 60 | 4 => 4 | 40 => 205 | 39 => 204 | 45 => 210 | 5 => 5 | 9 => 9 | 51 => 218 | 55 => 221 | 57 => 225 | 58 => 226 | 33 => 133 | n => n, fun | n => n⟩
theorem Tryz.sortedS : Go.Proofs.SlLaysZ.n6 Tryz.prog Tryz.sortedS_ren := {
 mixed := by kernel_rfl
 f6 := ⟨Tryz.f99.name, by decide, Tryz.func99.trans (congrArg some (by kernel_rfl))⟩
 f8 := ⟨Tryz.f120.name, by decide, Tryz.func120.trans (congrArg some (by kernel_rfl))⟩
 f11 := ⟨Tryz.f137.name, by decide, Tryz.func137.trans (congrArg some (by kernel_rfl))⟩
 t0 := Tryz.underlying0
 a0 := Tryz.isAgg0
 z0 := Tryz.sizeOf0
 v0 := Tryz.zeroValue0
 t24 := Tryz.underlying58
 a24 := Tryz.isAgg58
 z24 := Tryz.sizeOf58
 v24 := Tryz.zeroValue58
 t26 := Tryz.underlying9
 a26 := Tryz.isAgg9
 z26 := Tryz.sizeOf9
 v26 := Tryz.zeroValue9
 t28 := Tryz.underlying159
 a28 := Tryz.isAgg159
 z28 := Tryz.sizeOf159
 v28 := Tryz.zeroValue159
 i26 := by kernel_rfl }
def Tryz.sortS_ren : Go.Shelf.Ren := ⟨fun | 6 => 121 | 8 => 139 | 9 => 138 | 19 => 159 | 20 => 160 | 21 => 150 | 22 => 151 | 23 => 152 | 24 => 153 | 25 => 154 | 26 => 155 | 27 => 156 | 28 => 157 | 29 => 158 | 36 => 165 | 31 => 166 | 32 => 167 | 37 => 168 | 38 => 169 | 39 => 170 | 41 => 176 | n => n, fun | 27 => 58 | 29 => 9 | 3 => 3 | 32 => 143 | 26 => 58 | 0 => 0 | 44 => 213 | 46 => 60 | 4 => 4 | 36 => 205 | 35 => 204 | 41 => 210 | 5 => 5 | 9 => 9 | 53 => 218 | 57 => 221 | 63 => 225 | 64 => 226 | n => n, fun | n => n⟩
theorem Tryz.sortS : Go.Proofs.SlLaysM.n6 Tryz.prog Tryz.sortS_ren := {
 mixed := by kernel_rfl
 f6 := ⟨Tryz.f121.name, by decide, Tryz.func121.trans (congrArg some (by kernel_rfl))⟩
 f8 := Tryz.func139.trans (congrArg some (by kernel_rfl))
 f9 := ⟨Tryz.f138.name, by decide, Tryz.func138.trans (congrArg some (by kernel_rfl))⟩
 f19 := Tryz.func159.trans (congrArg some (by kernel_rfl))
 f20 := Tryz.func160.trans (congrArg some (by kernel_rfl))
 f21 := ⟨Tryz.f150.name, by decide, Tryz.func150.trans (congrArg some (by kernel_rfl))⟩
 f22 := ⟨Tryz.f151.name, by decide, Tryz.func151.trans (congrArg some (by kernel_rfl))⟩
 f23 := ⟨Tryz.f152.name, by decide, Tryz.func152.trans (congrArg some (by kernel_rfl))⟩
 f24 := ⟨Tryz.f153.name, by decide, Tryz.func153.trans (congrArg some (by kernel_rfl))⟩
 f25 := ⟨Tryz.f154.name, by decide, Tryz.func154.trans (congrArg some (by kernel_rfl))⟩
 f26 := ⟨Tryz.f155.name, by decide, Tryz.func155.trans (congrArg some (by kernel_rfl))⟩
 f27 := ⟨Tryz.f156.name, by decide, Tryz.func156.trans (congrArg some (by kernel_rfl))⟩
 f28 := ⟨Tryz.f157.name, by decide, Tryz.func157.trans (congrArg some (by kernel_rfl))⟩
 f29 := ⟨Tryz.f158.name, by decide, Tryz.func158.trans (congrArg some (by kernel_rfl))⟩
 f31 := Tryz.func166.trans (congrArg some (by kernel_rfl))
 f32 := Tryz.func167.trans (congrArg some (by kernel_rfl))
 f36 := ⟨Tryz.f165.name, by decide, Tryz.func165.trans (congrArg some (by kernel_rfl))⟩
 f37 := ⟨Tryz.f168.name, by decide, Tryz.func168.trans (congrArg some (by kernel_rfl))⟩
 f38 := ⟨Tryz.f169.name, by decide, Tryz.func169.trans (congrArg some (by kernel_rfl))⟩
 f39 := ⟨Tryz.f170.name, by decide, Tryz.func170.trans (congrArg some (by kernel_rfl))⟩
 f41 := ⟨Tryz.f176.name, by decide, Tryz.func176.trans (congrArg some (by kernel_rfl))⟩
 t0 := Tryz.underlying0
 a0 := Tryz.isAgg0
 z0 := Tryz.sizeOf0
 v0 := Tryz.zeroValue0
 t3 := Tryz.underlying3
 a3 := Tryz.isAgg3
 z3 := Tryz.sizeOf3
 v3 := Tryz.zeroValue3
 t4 := Tryz.underlying4
 a4 := Tryz.isAgg4
 z4 := Tryz.sizeOf4
 v4 := Tryz.zeroValue4
 t5 := Tryz.underlying5
 a5 := Tryz.isAgg5
 z5 := Tryz.sizeOf5
 v5 := Tryz.zeroValue5
 t9 := Tryz.underlying9
 a9 := Tryz.isAgg9
 z9 := Tryz.sizeOf9
 v9 := Tryz.zeroValue9
 t26 := Tryz.underlying58
 a26 := Tryz.isAgg58
 z26 := Tryz.sizeOf58
 v26 := Tryz.zeroValue58
 t27 := Tryz.underlying58
 a27 := Tryz.isAgg58
 z27 := Tryz.sizeOf58
 v27 := Tryz.zeroValue58
 t29 := Tryz.underlying9
 a29 := Tryz.isAgg9
 z29 := Tryz.sizeOf9
 v29 := Tryz.zeroValue9
 t32 := Tryz.underlying143
 a32 := Tryz.isAgg143
 z32 := Tryz.sizeOf143
 v32 := Tryz.zeroValue143
 t35 := Tryz.underlying204
 a35 := Tryz.isAgg204
 z35 := Tryz.sizeOf204
 v35 := Tryz.zeroValue204
 t36 := Tryz.underlying205
 a36 := Tryz.isAgg205
 z36 := Tryz.sizeOf205
 v36 := Tryz.zeroValue205
 t41 := Tryz.underlying210
 a41 := Tryz.isAgg210
 z41 := Tryz.sizeOf210
 v41 := Tryz.zeroValue210
 t44 := Tryz.underlying213
 a44 := Tryz.isAgg213
 z44 := Tryz.sizeOf213
 v44 := Tryz.zeroValue213
 t46 := Tryz.underlying60
 a46 := Tryz.isAgg60
 z46 := Tryz.sizeOf60
 v46 := Tryz.zeroValue60
 t53 := Tryz.underlying218
 a53 := Tryz.isAgg218
 z53 := Tryz.sizeOf218
 v53 := Tryz.zeroValue218
 t57 := Tryz.underlying221
 a57 := Tryz.isAgg221
 z57 := Tryz.sizeOf221
 v57 := Tryz.zeroValue221
 t63 := Tryz.underlying225
 a63 := Tryz.isAgg225
 z63 := Tryz.sizeOf225
 v63 := Tryz.zeroValue225
 t64 := Tryz.underlying226
 a64 := Tryz.isAgg226
 z64 := Tryz.sizeOf226
 v64 := Tryz.zeroValue226 }
end Go.Proofs
set_option maxRecDepth 100000
set_option maxHeartbeats 4000000
namespace Go.Proofs.YtbijdmfilmecbaaGreat
open Go.Fw Go.Proofs Go.RowKit Go.Proofs.Tryz
theorem u8_u64 (x : UInt8) : IntKind.u64.wrap (x.toNat : Int) = (x.toNat : Int) := by
 have := u8lt x
 rw [IntKind.wrap_u64]
 omega
theorem fnv_step {l : List UInt8} {k : Nat} {x : UInt8} (h : l[k]? = some x) (c : Int) : IntKind.u64.wrap (xorK .u64 ((l.take k).foldl fnvF c) (x.toNat : Int) * 1099511628211) = (l.take (k + 1)).foldl fnvF c := by
 obtain ⟨hk, rfl⟩ := List.getElem?_eq_some_iff.1 h
 rw [List.take_succ_eq_append_getElem hk, List.foldl_append]; rfl
theorem c50 (w0 : World) (v1 : Value) (l : List UInt8) (h : Sl encB 1 w0 w0.heap.size v1 l) (hn : l.length ≤ 4194304) :
   Calls Tryz.prog 50 #[v1] w0 fun e w' => e = .returned (.int .u64 (hashL l)) ∧ Bel w0.heap.size w0 w' := by
 obtain ⟨A, cap, rfl, hl, hcap, hA⟩ := id h
 refine enter1 func50 rfl ntmps50 rfl fun a S => sg S (.ac rfl <| .z) fun a w S => sg S (.ac rfl <| .z) fun a w S => wp_seq_k fun _ hK1 => sg S (.mv rfl <| .ln underlying107 rfl <| .mc rfl <| .z) fun a w S => wp_block ?_
 refine Yg S [3, 10] (X := Nat) (fun k => [(3, true, .int .u64 ((l.take k).foldl fnvF 14695981039346656037)), (10, true, .int .i64 (k : Int))]) (fun _ => []) (fun k => k ≤ l.length) (fun k => l.length - k) 0 (Nat.zero_le _) ?_
 clear S
 intro k a w hk S
 by_cases hlt : k < l.length
 · obtain ⟨gq, oq, x, rfl, hx, hdq, hc⟩ := Zv hA hlt
   have rw_x := u8_u64 x
   have rw_h := fnv_step hx 14695981039346656037
   refine sg S (.lt (by omega) rfl rfl <| .z) fun a w S => wp_seq_k fun _ hK2 => Zd S (.t rfl) (wp_skip (Za (hK2 _ _ (wp_seq_k fun _ hK2 => wp_block (sg S (.ix underlying107 sizeOf5 (by omega) rfl rfl <| .yy (Zw ⟨isAgg5, sizeOf5⟩ (.t rfl) (fun _ => hc 0 _ rfl)) rfl <| .as rfl <| .z) fun a w S => wp_region_lit (run S (.mv rfl <| .mv rfl <| .yy (ys_cv underlying5 underlying60 (.t rfl)) rfl <| .z) fun a w S => ?_))))))
   rw [rw_x] at S
   refine run S (.yy (ys_bxor (.t rfl) (.t rfl)) rfl <| .yy (ys_mul (.t rfl) Ev.c) rfl <| .z) fun a w S => ?_
   rw [rw_h] at S
   refine run S (.as rfl <| .z) fun a w S => Zb (Zj (Za (hK2 _ _ (wp_region_lit (run S (.ad (by unfold I64; omega) rfl <| .mv rfl <| .z) fun a w S => Zb (Za ?_))))))
   exact ⟨k + 1, by omega, by omega, S.pk⟩
 obtain rfl : k = l.length := by omega
 rw [List.take_length] at S
 refine sg S (.ge (by omega) rfl rfl <| .z) fun a w S => wp_seq_k fun _ hK2 => Zf S (.t rfl) (wp_exit (Zc (Zc (Zs (Za (hK1 _ _ (wp_seq_k fun _ hK1 => sg S (.yy (ys_bldA (ps := [(0, _), (1, _)]) (us := [_, _]) ⟨⟨_, zeroValue142, rfl⟩, _, _, underlying142, sizeOf60⟩ (.cons Ev.c (.cons Ev.c .nil)) rfl) rfl <| .mc rfl <| .z) fun a w S => wp_block (Xf 3 (Yb (sg S (.yy (Yk (by omega) (Yh (.t rfl) Ev.c)) rfl <| .z) fun a w S => wp_seq_k fun _ hK3 => Zd S (.t rfl) (wp_skip (Za (hK3 _ _ (wp_seq_k fun _ hK3 => wp_block (sg S (.yy (ys_ixAgg (j := 0) underlying142 ⟨isAgg60, sizeOf60⟩ (.t rfl) (.t rfl) rfl rfl) rfl <| .as rfl <| .z) fun a w S => wp_region_lit (run S (.mv rfl <| .mv rfl <| .yy (Xa (m := 33) (c := 8589934592) (.t rfl) Ev.c rfl rfl) rfl <| .yy (ys_bxor (.t rfl) (.t rfl)) rfl <| .mv rfl <| .yy (ys_mul (.t rfl) (.t rfl)) rfl <| .as rfl <| .z) fun a w S => Zb (Zj (Za (hK3 _ _ (wp_region_lit (run S (.ad (by unfold I64; omega) rfl <| .mv rfl <| .z) fun a w S => Zb (Za (Yb (wp_seq_k fun _ hK3 => wp_region_lit ?_))))))))))))))))))))))))
 refine run S (.yy (Yk (by omega) (Yh (.t rfl) Ev.c)) rfl <| .z) fun a w S => Zb (Za (hK3 _ _ (wp_seq_k fun _ hK3 => Zd S (.t rfl) (wp_skip (Za (hK3 _ _ (wp_seq_k fun _ hK3 => wp_block (sg S (.yy (ys_ixAgg (j := 1) underlying142 ⟨isAgg60, sizeOf60⟩ (.t rfl) (.t rfl) rfl rfl) rfl <| .as rfl <| .z) fun a w S => wp_region_lit (run S (.mv rfl <| .mv rfl <| .yy (Xa (m := 33) (c := 8589934592) (.t rfl) Ev.c rfl rfl) rfl <| .yy (ys_bxor (.t rfl) (.t rfl)) rfl <| .mv rfl <| .yy (ys_mul (.t rfl) (.t rfl)) rfl <| .as rfl <| .z) fun a w S => Zb (Zj (Za (hK3 _ _ (wp_region_lit (run S (.ad (by unfold I64; omega) rfl <| .mv rfl <| .z) fun a w S => Zb (Za (Yb (sg S (.yy (Yf (by omega) (Yh (.t rfl) Ev.c)) rfl <| .z) fun a w S => wp_seq_k fun _ hK3 => Zf S (.t rfl) (wp_exit (Zc (Zc (Zs (Za (hK1 _ _ (sg S (.mv rfl <| .mv rfl <| .yy (Xa (m := 33) (c := 8589934592) (.t rfl) Ev.c rfl rfl) rfl <| .yy (ys_bxor (.t rfl) (.t rfl)) rfl <| .as rfl <| .z) fun a w S => wp_ret (Zk S (results1 S results50 (Rv.tmp rfl)) ?_)))))))))))))))))))))))))
 exact ⟨rfl, S.wd.below⟩
theorem c54 (w0 : World) (v1 : Value) (l : List UInt8) (h : Sl encB 1 w0 w0.heap.size v1 l) (hn : l.length ≤ 4194304) :
   Calls Tryz.prog 54 #[v1] w0 fun e w' => e = .returned (.int .u64 (hashL l)) ∧ Bel w0.heap.size w0 w' := by
 obtain ⟨A, cap, rfl, hl, hcap, hA⟩ := id h
 refine enter1 func54 rfl ntmps54 rfl fun a S => sg S (.ac rfl <| .z) fun a w S => sg S (.ac rfl <| .z) fun a w S => wp_seq_k fun _ hK1 => sg S (.ac rfl <| .z) fun a w S => wp_block ?_
 refine Yg S [3, 4] (X := Nat) (fun k => [(3, true, .int .u64 ((l.take k).foldl fnvF 14695981039346656037)), (4, true, .int .i64 (k : Int))]) (fun _ => []) (fun k => k ≤ l.length) (fun k => l.length - k) 0 (Nat.zero_le _) ?_
 clear S
 intro k a w hk S
 by_cases hlt : k < l.length
 · obtain ⟨gq, oq, x, rfl, hx, hdq, hc⟩ := Zv hA hlt
   have rw_x := u8_u64 x
   have rw_h := fnv_step hx 14695981039346656037
   refine wp_seq_k fun _ hK2 => sg S (.mv rfl <| .mv rfl <| .ln underlying107 rfl <| .lt (by omega) rfl rfl <| .z) fun a w S => Zd S (.t rfl) (wp_skip (Za (hK2 _ _ (wp_seq_k fun _ hK2 => wp_block (wp_region_lit (run S (.mv rfl <| .mv rfl <| .mv rfl <| .ix underlying107 sizeOf5 (by omega) rfl rfl <| .yy (Zw ⟨isAgg5, sizeOf5⟩ (.t rfl) (fun _ => hc 0 _ rfl)) rfl <| .yy (ys_cv underlying5 underlying60 (.t rfl)) rfl <| .z) fun a w S => ?_))))))
   rw [rw_x] at S
   refine run S (.yy (ys_bxor (.t rfl) (.t rfl)) rfl <| .yy (ys_mul (.t rfl) Ev.c) rfl <| .z) fun a w S => ?_
   rw [rw_h] at S
   refine run S (.as rfl <| .z) fun a w S => Zb (Zj (Za (hK2 _ _ (wp_region_lit (run S (.mv rfl <| .ad (by unfold I64; omega) rfl <| .as rfl <| .z) fun a w S => Zb (Za ?_))))))
   exact ⟨k + 1, by omega, by omega, S.pk⟩
 obtain rfl : k = l.length := by omega
 rw [List.take_length] at S
 refine wp_seq_k fun _ hK2 => sg S (.mv rfl <| .mv rfl <| .ln underlying107 rfl <| .ge (by omega) rfl rfl <| .z) fun a w S => Zf S (.t rfl) (wp_exit (Zc (Zc (Zs (Za (hK1 _ _ (sg S (.mv rfl <| .mv rfl <| .yy (Xa (m := 33) (c := 8589934592) (.t rfl) Ev.c rfl rfl) rfl <| .yy (ys_bxor (.t rfl) (.t rfl)) rfl <| .yy (ys_mul (.t rfl) Ev.c) rfl <| .as rfl <| .z) fun a w S => sg S (.mv rfl <| .mv rfl <| .yy (Xa (m := 33) (c := 8589934592) (.t rfl) Ev.c rfl rfl) rfl <| .yy (ys_bxor (.t rfl) (.t rfl)) rfl <| .yy (ys_mul (.t rfl) Ev.c) rfl <| .as rfl <| .z) fun a w S => sg S (.mv rfl <| .mv rfl <| .yy (Xa (m := 33) (c := 8589934592) (.t rfl) Ev.c rfl rfl) rfl <| .yy (ys_bxor (.t rfl) (.t rfl)) rfl <| .as rfl <| .z) fun a w S => wp_ret (Zk S (results1 S results54 (Rv.tmp rfl)) ?_))))))))
 exact ⟨rfl, S.wd.below⟩
theorem c115 (w0 : World) (n : Int) (h0 : 0 ≤ n) (h1 : n < 18446744073709551616) :
   Calls Tryz.prog 115 #[.int .u64 n] w0 fun e w' => e = .returned (.agg ((eightL n).map fun u => Value.int .u8 (u.toNat : Int)).toArray) ∧ Bel w0.heap.size w0 w' := by
 refine enter1 func115 rfl ntmps115 rfl fun a S => wp_seq_k fun _ hK1 => wp_region_lit (Zi (Zt S zeroValue172 (cs := _) rfl rfl fun g1 a w S => Zb (Za (hK1 _ _ (wp_seq_k fun _ hK1 => wp_region_lit (Zi (Zt S zeroValue172 (cs := _) rfl rfl fun g2 a w S => Zb (Za (hK1 _ _ (wp_seq_k fun _ hK1 => sg S (.mc rfl <| .z) fun a w S => wp_block (Xf 9 (Yb (sg S (.yy (Yk (by omega) (Yh (.t rfl) Ev.c)) rfl <| .z) fun a w S => wp_seq_k fun _ hK2 => Zd S (.t rfl) (wp_skip (Za (hK2 _ _ (wp_seq_k fun _ hK2 => wp_block (sg S (.mv rfl <| .as rfl <| .z) fun a w S => wp_region_lit (run S (.mv rfl <| .mv rfl <| .mv rfl <| .yy (Yy Ev.c (.t rfl) (fun _ => by unfold I64; omega)) rfl <| .yy (ys_subI Ev.c (.t rfl) (fun _ => by unfold I64; omega)) rfl <| .yy (Xa (m := 56) (c := 72057594037927936) (.t rfl) (.t rfl) rfl rfl) rfl <| .yy (Xz underlying60 underlying5 (.t rfl)) rfl <| .yy (ys_ixA (j := 0) underlying172 sizeOf5 (.t rfl) (.t rfl) (fun _ => by decide)) rfl <| .z) fun a w S => Zi (Xr S sizeOf5 (.t rfl) (.t rfl) (k := 0) rfl rfl (by simp) fun a w S => Zb (Zj (Za (hK2 _ _ (wp_region_lit ?_))))))))))))))))))))))))
 refine run S (.ad (by unfold I64; omega) rfl <| .mv rfl <| .z) fun a w S => Zb (Za (Yb (sg S (.yy (Yk (by omega) (Yh (.t rfl) Ev.c)) rfl <| .z) fun a w S => wp_seq_k fun _ hK2 => Zd S (.t rfl) (wp_skip (Za (hK2 _ _ (wp_seq_k fun _ hK2 => wp_block (sg S (.mv rfl <| .as rfl <| .z) fun a w S => wp_region_lit (run S (.mv rfl <| .mv rfl <| .mv rfl <| .yy (Yy Ev.c (.t rfl) (fun _ => by unfold I64; omega)) rfl <| .yy (ys_subI Ev.c (.t rfl) (fun _ => by unfold I64; omega)) rfl <| .yy (Xa (m := 48) (c := 281474976710656) (.t rfl) (.t rfl) rfl rfl) rfl <| .yy (Xz underlying60 underlying5 (.t rfl)) rfl <| .yy (ys_ixAI underlying172 sizeOf5 (.t rfl) (.t rfl) (fun _ => by omega)) rfl <| .z) fun a w S => Zi (Xr S sizeOf5 (.t rfl) (.t rfl) (k := 0) rfl rfl (by simp) fun a w S => Zb (Zj (Za (hK2 _ _ (wp_region_lit (run S (.ad (by unfold I64; omega) rfl <| .mv rfl <| .z) fun a w S => Zb (Za (Yb (sg S (.yy (Yk (by omega) (Yh (.t rfl) Ev.c)) rfl <| .z) fun a w S => wp_seq_k fun _ hK2 => Zd S (.t rfl) (wp_skip (Za (hK2 _ _ (wp_seq_k fun _ hK2 => wp_block (wp_seq_k fun _ hK3 => wp_region_lit ?_)))))))))))))))))))))))
 refine run S (.mv rfl <| .as rfl <| .z) fun a w S => Zb (Za (hK3 _ _ (wp_region_lit (run S (.mv rfl <| .mv rfl <| .mv rfl <| .yy (Yy Ev.c (.t rfl) (fun _ => by unfold I64; omega)) rfl <| .yy (ys_subI Ev.c (.t rfl) (fun _ => by unfold I64; omega)) rfl <| .yy (Xa (m := 40) (c := 1099511627776) (.t rfl) (.t rfl) rfl rfl) rfl <| .yy (Xz underlying60 underlying5 (.t rfl)) rfl <| .yy (ys_ixAI underlying172 sizeOf5 (.t rfl) (.t rfl) (fun _ => by omega)) rfl <| .z) fun a w S => Zi (Xr S sizeOf5 (.t rfl) (.t rfl) (k := 0) rfl rfl (by simp) fun a w S => Zb (Zj (Za (hK2 _ _ (wp_region_lit (run S (.ad (by unfold I64; omega) rfl <| .mv rfl <| .z) fun a w S => Zb (Za (Yb (sg S (.yy (Yk (by omega) (Yh (.t rfl) Ev.c)) rfl <| .z) fun a w S => wp_seq_k fun _ hK2 => Zd S (.t rfl) (wp_skip (Za (hK2 _ _ (wp_seq_k fun _ hK2 => wp_block (sg S (.mv rfl <| .as rfl <| .z) fun a w S => wp_region_lit ?_))))))))))))))))))
 refine run S (.mv rfl <| .mv rfl <| .mv rfl <| .yy (Yy Ev.c (.t rfl) (fun _ => by unfold I64; omega)) rfl <| .yy (ys_subI Ev.c (.t rfl) (fun _ => by unfold I64; omega)) rfl <| .yy (Xa (m := 32) (c := 4294967296) (.t rfl) (.t rfl) rfl rfl) rfl <| .yy (Xz underlying60 underlying5 (.t rfl)) rfl <| .yy (ys_ixAI underlying172 sizeOf5 (.t rfl) (.t rfl) (fun _ => by omega)) rfl <| .z) fun a w S => Zi (Xr S sizeOf5 (.t rfl) (.t rfl) (k := 0) rfl rfl (by simp) fun a w S => Zb (Zj (Za (hK2 _ _ (wp_region_lit (run S (.ad (by unfold I64; omega) rfl <| .mv rfl <| .z) fun a w S => Zb (Za (Yb (sg S (.yy (Yk (by omega) (Yh (.t rfl) Ev.c)) rfl <| .z) fun a w S => wp_seq_k fun _ hK2 => Zd S (.t rfl) (wp_skip (Za (hK2 _ _ (wp_seq_k fun _ hK2 => wp_block (sg S (.mv rfl <| .as rfl <| .z) fun a w S => wp_region_lit ?_))))))))))))))
 refine run S (.mv rfl <| .mv rfl <| .mv rfl <| .yy (Yy Ev.c (.t rfl) (fun _ => by unfold I64; omega)) rfl <| .yy (ys_subI Ev.c (.t rfl) (fun _ => by unfold I64; omega)) rfl <| .yy (Xa (m := 24) (c := 16777216) (.t rfl) (.t rfl) rfl rfl) rfl <| .yy (Xz underlying60 underlying5 (.t rfl)) rfl <| .yy (ys_ixAI underlying172 sizeOf5 (.t rfl) (.t rfl) (fun _ => by omega)) rfl <| .z) fun a w S => Zi (Xr S sizeOf5 (.t rfl) (.t rfl) (k := 0) rfl rfl (by simp) fun a w S => Zb (Zj (Za (hK2 _ _ (wp_region_lit (run S (.ad (by unfold I64; omega) rfl <| .mv rfl <| .z) fun a w S => Zb (Za (Yb (sg S (.yy (Yk (by omega) (Yh (.t rfl) Ev.c)) rfl <| .z) fun a w S => wp_seq_k fun _ hK2 => Zd S (.t rfl) (wp_skip (Za (hK2 _ _ (wp_seq_k fun _ hK2 => wp_block (sg S (.mv rfl <| .as rfl <| .z) fun a w S => wp_region_lit ?_))))))))))))))
 refine run S (.mv rfl <| .mv rfl <| .mv rfl <| .yy (Yy Ev.c (.t rfl) (fun _ => by unfold I64; omega)) rfl <| .yy (ys_subI Ev.c (.t rfl) (fun _ => by unfold I64; omega)) rfl <| .yy (Xa (m := 16) (c := 65536) (.t rfl) (.t rfl) rfl rfl) rfl <| .yy (Xz underlying60 underlying5 (.t rfl)) rfl <| .yy (ys_ixAI underlying172 sizeOf5 (.t rfl) (.t rfl) (fun _ => by omega)) rfl <| .z) fun a w S => Zi (Xr S sizeOf5 (.t rfl) (.t rfl) (k := 0) rfl rfl (by simp) fun a w S => Zb (Zj (Za (hK2 _ _ (wp_region_lit (run S (.ad (by unfold I64; omega) rfl <| .mv rfl <| .z) fun a w S => Zb (Za (Yb (sg S (.yy (Yk (by omega) (Yh (.t rfl) Ev.c)) rfl <| .z) fun a w S => wp_seq_k fun _ hK2 => Zd S (.t rfl) (wp_skip (Za (hK2 _ _ (wp_seq_k fun _ hK2 => wp_block (sg S (.mv rfl <| .as rfl <| .z) fun a w S => wp_region_lit ?_))))))))))))))
 refine run S (.mv rfl <| .mv rfl <| .mv rfl <| .yy (Yy Ev.c (.t rfl) (fun _ => by unfold I64; omega)) rfl <| .yy (ys_subI Ev.c (.t rfl) (fun _ => by unfold I64; omega)) rfl <| .yy (Xa (m := 8) (c := 256) (.t rfl) (.t rfl) rfl rfl) rfl <| .yy (Xz underlying60 underlying5 (.t rfl)) rfl <| .yy (ys_ixAI underlying172 sizeOf5 (.t rfl) (.t rfl) (fun _ => by omega)) rfl <| .z) fun a w S => Zi (Xr S sizeOf5 (.t rfl) (.t rfl) (k := 0) rfl rfl (by simp) fun a w S => Zb (Zj (Za (hK2 _ _ (wp_region_lit (run S (.ad (by unfold I64; omega) rfl <| .mv rfl <| .z) fun a w S => Zb (Za (Yb (sg S (.yy (Yk (by omega) (Yh (.t rfl) Ev.c)) rfl <| .z) fun a w S => wp_seq_k fun _ hK2 => Zd S (.t rfl) (wp_skip (Za (hK2 _ _ (wp_seq_k fun _ hK2 => wp_block (sg S (.mv rfl <| .as rfl <| .z) fun a w S => wp_region_lit ?_))))))))))))))
 refine run S (.mv rfl <| .mv rfl <| .mv rfl <| .yy (Yy Ev.c (.t rfl) (fun _ => by unfold I64; omega)) rfl <| .yy (ys_subI Ev.c (.t rfl) (fun _ => by unfold I64; omega)) rfl <| .yy (Xa (m := 0) (c := 1) (.t rfl) (.t rfl) rfl rfl) rfl <| .yy (Xz underlying60 underlying5 (.t rfl)) rfl <| .yy (ys_ixAI underlying172 sizeOf5 (.t rfl) (.t rfl) (fun _ => by omega)) rfl <| .z) fun a w S => Zi (Xr S sizeOf5 (.t rfl) (.t rfl) (k := 0) rfl rfl (by simp) fun a w S => Zb (Zj (Za (hK2 _ _ (wp_region_lit (run S (.ad (by unfold I64; omega) rfl <| .mv rfl <| .z) fun a w S => Zb (Za (Yb (sg S (.yy (Yf (by omega) (Yh (.t rfl) Ev.c)) rfl <| .z) fun a w S => wp_seq_k fun _ hK2 => Zf S (.t rfl) (wp_exit (Zc (Zc (Zs (Za (hK1 _ _ (wp_seq_k fun _ hK1 => wp_region_lit (run S (.la gt172 0 rfl rfl rfl <| .z) fun a w S => Zi (Ya S sizeOf172 (.t rfl) (.t rfl) (k := 1) rfl rfl rfl (by simp [Value.oneCell']) fun a w S => Zb (Za (hK1 _ _ (wp_ret (Zk S (results1 S results115 (Rv.cell (k := 1) ⟨isAgg172, sizeOf172⟩ rfl rfl rfl)) ?_))))))))))))))))))))))
 exact ⟨rfl, S.wd.below⟩
theorem c116 (w0 : World) (n : Int) (h0 : 0 ≤ n) (h1 : n < 18446744073709551616) :
   Rets Tryz.prog 116 #[.int .u64 n] w0 fun v L => ∃ A c, v = .slice A (eightL n).length c ∧ L = [rowOf 5 1 encB A c (eightL n)] := by
 unfold Go.Fw.Rets
 refine enter1 func116 rfl ntmps116 rfl fun a S => sg S (.ac rfl <| .z) fun a w S => sg S (.ac rfl <| .z) fun a w S => wp_seq_k fun _ hK1 => sg S (.ac rfl <| .z) fun a w S => wp_block ?_
 replace S := S.nil_ 5 1 encB none
 refine Xf 9 (Yb (wp_seq_k fun _ hK2 => sg S (.mv rfl <| .yy (Yk (by omega) (Yp (.t rfl) Ev.c)) rfl <| .z) fun a w S => Zd S (.t rfl) (wp_skip (Za (hK2 _ _ (wp_seq_k fun _ hK2 => wp_block (wp_region_lit (run S (.mv rfl <| .mv rfl <| .mv rfl <| .yy (Yy Ev.c (.t rfl) (fun _ => by unfold I64; omega)) rfl <| .yy (Xa (m := 56) (c := 72057594037927936) (.t rfl) (.t rfl) rfl rfl) rfl <| .yy (Xz underlying60 underlying5 (.t rfl)) rfl <| .z) fun a w S => Zi (Zp S underlying107 inf5 rfl rfl rfl (.t rfl) rfl rfl rfl fun g1 a w S => Zi (Yc S underlying107 inf5 rfl (k := 1) (j := 0) rfl (.t rfl) (.t rfl) rfl rfl rfl rfl (by first | omega | (simp only [List.length_append, List.length_cons, List.length_nil]; omega)) rfl rfl rfl fun A1 cap1 a w S => run S (.as rfl <| .z) fun a w S => Zb (Zj (Za (hK2 _ _ (wp_region_lit (run S (.mv rfl <| .yy (ys_pred (.t rfl) Ev.c (by omega)) rfl <| .as rfl <| .z) fun a w S => Zb (Za (Yb (wp_seq_k fun _ hK2 => sg S (.mv rfl <| .yy (Yk (by omega) (Yp (.t rfl) Ev.c)) rfl <| .z) fun a w S => Zd S (.t rfl) (wp_skip (Za (hK2 _ _ (wp_seq_k fun _ hK2 => wp_block (wp_region_lit ?_)))))))))))))))))))))))
 refine run S (.mv rfl <| .mv rfl <| .mv rfl <| .yy (Yy Ev.c (.t rfl) (fun _ => by unfold I64; omega)) rfl <| .yy (Xa (m := 48) (c := 281474976710656) (.t rfl) (.t rfl) rfl rfl) rfl <| .yy (Xz underlying60 underlying5 (.t rfl)) rfl <| .z) fun a w S => Zi (Zp S underlying107 inf5 rfl rfl rfl (.t rfl) rfl rfl rfl fun g2 a w S => Zi (Yc S underlying107 inf5 rfl (k := 2) (j := 0) rfl (.t rfl) (.t rfl) rfl rfl rfl rfl (by first | omega | (simp only [List.length_append, List.length_cons, List.length_nil]; omega)) rfl rfl rfl fun A2 cap2 a w S => run S (.as rfl <| .z) fun a w S => Zb (Zj (Za (hK2 _ _ (wp_region_lit (run S (.mv rfl <| .yy (ys_pred (.t rfl) Ev.c (by omega)) rfl <| .as rfl <| .z) fun a w S => Zb (Za (Yb (wp_seq_k fun _ hK2 => sg S (.mv rfl <| .yy (Yk (by omega) (Yp (.t rfl) Ev.c)) rfl <| .z) fun a w S => Zd S (.t rfl) (wp_skip (Za (hK2 _ _ (wp_seq_k fun _ hK2 => wp_block (wp_region_lit (run S (.mv rfl <| .mv rfl <| .mv rfl <| .yy (Yy Ev.c (.t rfl) (fun _ => by unfold I64; omega)) rfl <| .yy (Xa (m := 40) (c := 1099511627776) (.t rfl) (.t rfl) rfl rfl) rfl <| .yy (Xz underlying60 underlying5 (.t rfl)) rfl <| .z) fun a w S => Zi (Zp S underlying107 inf5 rfl rfl rfl (.t rfl) rfl rfl rfl fun g3 a w S => ?_)))))))))))))))))
 refine Zi (Yc S underlying107 inf5 rfl (k := 3) (j := 0) rfl (.t rfl) (.t rfl) rfl rfl rfl rfl (by first | omega | (simp only [List.length_append, List.length_cons, List.length_nil]; omega)) rfl rfl rfl fun A3 cap3 a w S => run S (.as rfl <| .z) fun a w S => Zb (Zj (Za (hK2 _ _ (wp_region_lit (run S (.mv rfl <| .yy (ys_pred (.t rfl) Ev.c (by omega)) rfl <| .as rfl <| .z) fun a w S => Zb (Za (Yb (wp_seq_k fun _ hK2 => sg S (.mv rfl <| .yy (Yk (by omega) (Yp (.t rfl) Ev.c)) rfl <| .z) fun a w S => Zd S (.t rfl) (wp_skip (Za (hK2 _ _ (wp_seq_k fun _ hK2 => wp_block (wp_region_lit (run S (.mv rfl <| .mv rfl <| .mv rfl <| .yy (Yy Ev.c (.t rfl) (fun _ => by unfold I64; omega)) rfl <| .yy (Xa (m := 32) (c := 4294967296) (.t rfl) (.t rfl) rfl rfl) rfl <| .yy (Xz underlying60 underlying5 (.t rfl)) rfl <| .z) fun a w S => Zi (Zp S underlying107 inf5 rfl rfl rfl (.t rfl) rfl rfl rfl fun g4 a w S => Zi (Yc S underlying107 inf5 rfl (k := 4) (j := 0) rfl (.t rfl) (.t rfl) rfl rfl rfl rfl (by first | omega | (simp only [List.length_append, List.length_cons, List.length_nil]; omega)) rfl rfl rfl fun A4 cap4 a w S => run S (.as rfl <| .z) fun a w S => Zb (Zj (Za (hK2 _ _ (wp_region_lit ?_)))))))))))))))))))))
 refine run S (.mv rfl <| .yy (ys_pred (.t rfl) Ev.c (by omega)) rfl <| .as rfl <| .z) fun a w S => Zb (Za (Yb (wp_seq_k fun _ hK2 => sg S (.mv rfl <| .yy (Yk (by omega) (Yp (.t rfl) Ev.c)) rfl <| .z) fun a w S => Zd S (.t rfl) (wp_skip (Za (hK2 _ _ (wp_seq_k fun _ hK2 => wp_block (wp_region_lit (run S (.mv rfl <| .mv rfl <| .mv rfl <| .yy (Yy Ev.c (.t rfl) (fun _ => by unfold I64; omega)) rfl <| .yy (Xa (m := 24) (c := 16777216) (.t rfl) (.t rfl) rfl rfl) rfl <| .yy (Xz underlying60 underlying5 (.t rfl)) rfl <| .z) fun a w S => Zi (Zp S underlying107 inf5 rfl rfl rfl (.t rfl) rfl rfl rfl fun g5 a w S => Zi (Yc S underlying107 inf5 rfl (k := 5) (j := 0) rfl (.t rfl) (.t rfl) rfl rfl rfl rfl (by first | omega | (simp only [List.length_append, List.length_cons, List.length_nil]; omega)) rfl rfl rfl fun A5 cap5 a w S => run S (.as rfl <| .z) fun a w S => Zb (Zj (Za (hK2 _ _ (wp_region_lit (run S (.mv rfl <| .yy (ys_pred (.t rfl) Ev.c (by omega)) rfl <| .as rfl <| .z) fun a w S => Zb (Za (Yb (wp_seq_k fun _ hK2 => sg S (.mv rfl <| .yy (Yk (by omega) (Yp (.t rfl) Ev.c)) rfl <| .z) fun a w S => Zd S (.t rfl) (wp_skip (Za (hK2 _ _ ?_))))))))))))))))))))))
 refine wp_seq_k fun _ hK2 => wp_block (wp_region_lit (run S (.mv rfl <| .mv rfl <| .mv rfl <| .yy (Yy Ev.c (.t rfl) (fun _ => by unfold I64; omega)) rfl <| .yy (Xa (m := 16) (c := 65536) (.t rfl) (.t rfl) rfl rfl) rfl <| .yy (Xz underlying60 underlying5 (.t rfl)) rfl <| .z) fun a w S => Zi (Zp S underlying107 inf5 rfl rfl rfl (.t rfl) rfl rfl rfl fun g6 a w S => Zi (Yc S underlying107 inf5 rfl (k := 6) (j := 0) rfl (.t rfl) (.t rfl) rfl rfl rfl rfl (by first | omega | (simp only [List.length_append, List.length_cons, List.length_nil]; omega)) rfl rfl rfl fun A6 cap6 a w S => run S (.as rfl <| .z) fun a w S => Zb (Zj (Za (hK2 _ _ (wp_region_lit (run S (.mv rfl <| .yy (ys_pred (.t rfl) Ev.c (by omega)) rfl <| .as rfl <| .z) fun a w S => Zb (Za (Yb (wp_seq_k fun _ hK2 => sg S (.mv rfl <| .yy (Yk (by omega) (Yp (.t rfl) Ev.c)) rfl <| .z) fun a w S => Zd S (.t rfl) (wp_skip (Za (hK2 _ _ (wp_seq_k fun _ hK2 => wp_block (wp_region_lit (run S (.mv rfl <| .mv rfl <| .mv rfl <| .yy (Yy Ev.c (.t rfl) (fun _ => by unfold I64; omega)) rfl <| .yy (Xa (m := 8) (c := 256) (.t rfl) (.t rfl) rfl rfl) rfl <| .yy (Xz underlying60 underlying5 (.t rfl)) rfl <| .z) fun a w S => ?_))))))))))))))))))
 refine Zi (Zp S underlying107 inf5 rfl rfl rfl (.t rfl) rfl rfl rfl fun g7 a w S => Zi (Yc S underlying107 inf5 rfl (k := 7) (j := 0) rfl (.t rfl) (.t rfl) rfl rfl rfl rfl (by first | omega | (simp only [List.length_append, List.length_cons, List.length_nil]; omega)) rfl rfl rfl fun A7 cap7 a w S => run S (.as rfl <| .z) fun a w S => Zb (Zj (Za (hK2 _ _ (wp_region_lit (run S (.mv rfl <| .yy (ys_pred (.t rfl) Ev.c (by omega)) rfl <| .as rfl <| .z) fun a w S => Zb (Za (Yb (wp_seq_k fun _ hK2 => sg S (.mv rfl <| .yy (Yk (by omega) (Yp (.t rfl) Ev.c)) rfl <| .z) fun a w S => Zd S (.t rfl) (wp_skip (Za (hK2 _ _ (wp_seq_k fun _ hK2 => wp_block (wp_region_lit (run S (.mv rfl <| .mv rfl <| .mv rfl <| .yy (Yy Ev.c (.t rfl) (fun _ => by unfold I64; omega)) rfl <| .yy (Xa (m := 0) (c := 1) (.t rfl) (.t rfl) rfl rfl) rfl <| .yy (Xz underlying60 underlying5 (.t rfl)) rfl <| .z) fun a w S => Zi (Zp S underlying107 inf5 rfl rfl rfl (.t rfl) rfl rfl rfl fun g8 a w S => Zi (Yc S underlying107 inf5 rfl (k := 8) (j := 0) rfl (.t rfl) (.t rfl) rfl rfl rfl rfl (by first | omega | (simp only [List.length_append, List.length_cons, List.length_nil]; omega)) rfl rfl rfl fun A8 cap8 a w S => run S (.as rfl <| .z) fun a w S => Zb ?_))))))))))))))))))
 refine Zj (Za (hK2 _ _ (wp_region_lit (run S (.mv rfl <| .yy (ys_subI (.t rfl) Ev.c (fun _ => by unfold I64; omega)) rfl <| .as rfl <| .z) fun a w S => Zb (Za (Yb (wp_seq_k fun _ hK2 => sg S (.mv rfl <| .yy (Yf (by omega) (Yp (.t rfl) Ev.c)) rfl <| .z) fun a w S => Zf S (.t rfl) (wp_exit (Zc (Zc (Zs (Za (hK1 _ _ (sg S (.mv rfl <| .as rfl <| .z) fun a w S => wp_ret (Zk S (results1 S results116 (Rv.tmp rfl)) ?_)))))))))))))))
 exact ⟨_, _, rfl, S.wd.pk, _, _, rfl, rfl⟩
end Go.Proofs.YtbijdmfilmecbaaGreat
namespace Go.Proofs.YtbijdmfilmecbaaGreat
open Go.Fw Go.Proofs Go.RowKit Go.Proofs.Tryz
theorem c92 (w0 : World) (p q : Int) (hp : 0 ≤ p ∧ p ≤ 18446744073709551615) (hq : 0 ≤ q ∧ q ≤ 18446744073709551615) :
   Calls Tryz.prog 92 #[.int .u64 p, .int .u64 q] w0 fun e w' => e = .returned (.int .u64 (mixL p q)) ∧ Bel w0.heap.size w0 w' := by
 have h8p : (eightL p).length = 8 := rfl
 have h8q : (eightL q).length = 8 := rfl
 have h16 : (eightL p ++ eightL q).length ≤ 4194304 := by simp [h8p, h8q]
 refine enter2 func92 rfl ntmps92 rfl fun a S => sg S (.ac rfl <| .z) fun a w S => wp_seq_k fun _ hK1 => wp_region_lit (run S (.mv rfl <| .xx (Zg call115 (.cons (.t rfl) .nil) (fun hp w W => c115 _ _ (by omega) (by omega))) rfl <| .mv rfl <| .xx (Zg call115 (.cons (.t rfl) .nil) (fun hp w W => c115 _ _ (by omega) (by omega))) rfl <| .z) fun a w S => Zi (Zt S zeroValue172 (cs := _) rfl rfl fun g1 a w S => Zi (Zt S zeroValue172 (cs := _) rfl rfl fun g2 a w S => Zi (Ya S sizeOf172 (.t rfl) (.t rfl) (k := 1) rfl rfl rfl (by simp [Value.oneCell']) fun a w S => Zi (Ya S sizeOf172 (.t rfl) (.t rfl) (k := 0) rfl rfl rfl (by simp [Value.oneCell']) fun a w S => Zb (Za (hK1 _ _ (wp_seq_k fun _ hK1 => h_begin0 S (by kernel_rfl) fun a w S => hy 0 S rfl (ys_arr (t1 := 0) underlying172 sizeOf5 (.t rfl)) rfl fun a w S => ?_))))))))
 refine hy 1 S rfl (ys_arr (t1 := 0) underlying172 sizeOf5 (.t rfl)) rfl fun a w S => ?_
 (refine h_m (i := 2) rfl (by kernel_rfl) (op_appFull (enc := encB) S underlying107 underlying107 (.inr ⟨_, rfl⟩) inf5 rfl (.t rfl) (.t rfl) (Src.blk S.wd (k := 1) rfl rfl (txt_one _)) (Src.blk S.wd (k := 0) rfl rfl (txt_one _)) (by decide) rfl (appB _ _) (by decide) rfl rfl rfl ?_); clear S a w; intro A1 cap1 a w S; refine h_n2 S ?_)
 refine h_q (i := 3) S (by repeat (first | exact List.Sublist.refl _ | exact List.nil_sublist _ | refine .cons_cons _ ?_ | refine .cons _ ?_)) rfl (by kernel_rfl) (Zg call50 (.cons (.t rfl) .nil) (fun hp w W => c50 _ _ _ (by exact Sl.of_own W (k := 0) rfl (fun _ => rfl)) (by assumption))) rfl fun a w S => hy 4 S rfl (Yu (.t rfl)) rfl fun a w S => Xg (by kernel_rfl) (Za (hK1 _ _ (wp_ret (Zk S (results1 S results92 (Rv.tmp rfl)) ?_))))
 exact ⟨rfl, S.wd.below⟩
theorem c94 (w0 : World) (p q : Int) (hp : 0 ≤ p ∧ p ≤ 18446744073709551615) (hq : 0 ≤ q ∧ q ≤ 18446744073709551615) :
   Calls Tryz.prog 94 #[.int .u64 p, .int .u64 q] w0 fun e w' => e = .returned (.int .u64 (mixL p q)) ∧ Bel w0.heap.size w0 w' := by
 have h8p : (eightL p).length = 8 := rfl
 have h8q : (eightL q).length = 8 := rfl
 have h16 : (eightL p ++ eightL q).length ≤ 4194304 := by simp [h8p, h8q]
 refine enter2 func94 rfl ntmps94 rfl fun a S => sg S (.ac rfl <| .z) fun a w S => wp_seq_k fun _ hK1 => wp_region_lit (run S (.mv rfl <| .z) fun a w S => ?_)
 (refine Zi (Zq S call116 (.cons (.t rfl) .nil) (c116 _ _ (by omega) (by omega)) rfl ?_); clear S a w; rintro _ _ ⟨A1, c1, rfl, rfl⟩ a w S)
 refine run S (.mv rfl <| .z) fun a w S => ?_
 (refine Zi (Zq S call116 (.cons (.t rfl) .nil) (c116 _ _ (by omega) (by omega)) rfl ?_); clear S a w; rintro _ _ ⟨A2, c2, rfl, rfl⟩ a w S)
 refine Zi (Xi _ S underlying107 underlying107 (.inr ⟨_, rfl⟩) inf5 rfl (k := 1) rfl (.t rfl) (.t rfl) (Src.row S.wd (k := 0) rfl (Go.Fw.flat_one Go.Fw.encB_one _)) (by first | omega | (simp only [List.length_append, List.length_cons, List.length_nil]; omega) | (simp; omega)) rfl rfl rfl fun A3 cap1 a w S => run S (.xx (Zg call54 (.cons (.t rfl) .nil) (fun hp w W => c54 _ _ _ (by exact Sl.of_own W (k := 1) rfl (fun _ => rfl)) (by assumption))) rfl <| .as rfl <| .z) fun a w S => Zb (Za (hK1 _ _ (wp_ret (Zk S (results1 S results94 (Rv.tmp rfl)) ?_)))))
 exact ⟨rfl, S.wd.below⟩
theorem c114 (w0 : World) (l : List UInt8) (hn : l.length ≤ 4194304) :
   Calls Tryz.prog 114 #[.string (bs l)] w0 fun e w' => e = .returned (.int .u64 (hashL l)) ∧ Bel w0.heap.size w0 w' := by
 refine enter1 func114 rfl ntmps114 rfl fun a S => sg S (.ac rfl <| .z) fun a w S => wp_seq_k fun _ hK1 => wp_region_lit (run S (.mv rfl <| .z) fun a w S => Zi (op_bytes S underlying9 underlying107 underlying5 (.t rfl) (by first | omega | (simp; omega)) rfl fun g1 m1 fr1 hm1 a w S => run S (.xx (Zg call50 (.cons (.t rfl) .nil) (fun hp w W => c50 _ _ _ (by exact Sl.of_txt W (k := 0) rfl (by assumption)) (by assumption))) rfl <| .as rfl <| .z) fun a w S => Zb (Za (hK1 _ _ (wp_ret (Zk S (results1 S results114 (Rv.tmp rfl)) ?_))))))
 exact ⟨rfl, S.wd.below⟩
theorem c101 (w0 : World) (l : List UInt8) (hn : l.length ≤ 4194304) :
   Calls Tryz.prog 101 #[.string (bs l)] w0 fun e w' => e = .returned (.int .u64 (hashL l)) ∧ Bel w0.heap.size w0 w' := by
 refine enter1 func101 rfl ntmps101 rfl fun a S => sg S (.ac rfl <| .z) fun a w S => wp_seq_k fun _ hK1 => wp_region_lit (run S (.mv rfl <| .z) fun a w S => Zi (op_bytes S underlying9 underlying107 underlying5 (.t rfl) (by first | omega | (simp; omega)) rfl fun g1 m1 fr1 hm1 a w S => run S (.xx (Zg call54 (.cons (.t rfl) .nil) (fun hp w W => c54 _ _ _ (by exact Sl.of_txt W (k := 0) rfl (by assumption)) (by assumption))) rfl <| .as rfl <| .z) fun a w S => Zb (Za (hK1 _ _ (wp_ret (Zk S (results1 S results101 (Rv.tmp rfl)) ?_))))))
 exact ⟨rfl, S.wd.below⟩
end Go.Proofs.YtbijdmfilmecbaaGreat
namespace Go.Fw
theorem txt_get {s : List UInt8} {k m : Nat} {x : UInt8} (h : s[k]? = some x) : (txtC s m)[0 + k * 1]? = some (.int .u8 (x.toNat : Int)) := by
 obtain ⟨hlt, rfl⟩ := List.getElem?_eq_some_iff.1 h
 rw [Nat.zero_add, Nat.mul_one]
 simp [txtC, List.getElem?_append, hlt]
theorem char_more {s : List UInt8} {k : Nat} {x : UInt8} (h : s[k]? = some x) (hn : (s.take k).all charB = true) (hp : charB x = true) : (s.take (k + 1)).all charB = true := by
 rw [List.take_add_one, h, Option.toList_some, List.all_append, hn]
 simp [hp]
theorem char_not {s : List UInt8} {k : Nat} {x : UInt8} (h : s[k]? = some x) (hp : charB x = false) : s.all charB = false := by
 rw [← Bool.not_eq_true, List.all_eq_true]
 intro hn
 rw [hn x (List.mem_of_getElem? h)] at hp
 cases hp
theorem name_not {s : List UInt8} (h : s.all charB = false) : nameB s = false := by
 unfold nameB
 rw [h, Bool.and_false]
theorem key_char1 (x : UInt8) : ((decide ((x.toNat : Int) ≠ 46) && decide ((x.toNat : Int) ≠ 45) && decide ((x.toNat : Int) ≠ 95) && (decide ((x.toNat : Int) < 48) || decide (57 < (x.toNat : Int))) && (decide ((x.toNat : Int) < 97) || decide (122 < (x.toNat : Int))) && (decide ((x.toNat : Int) < 65) || decide (90 < (x.toNat : Int)))) = true → charB x = false) ∧ ((decide ((x.toNat : Int) ≠ 46) && decide ((x.toNat : Int) ≠ 45) && decide ((x.toNat : Int) ≠ 95) && (decide ((x.toNat : Int) < 48) || decide (57 < (x.toNat : Int))) && (decide ((x.toNat : Int) < 97) || decide (122 < (x.toNat : Int))) && (decide ((x.toNat : Int) < 65) || decide (90 < (x.toNat : Int)))) = false → charB x = true) := by
 have e : (decide ((x.toNat : Int) ≠ 46) && decide ((x.toNat : Int) ≠ 45) && decide ((x.toNat : Int) ≠ 95) && (decide ((x.toNat : Int) < 48) || decide (57 < (x.toNat : Int))) && (decide ((x.toNat : Int) < 97) || decide (122 < (x.toNat : Int))) && (decide ((x.toNat : Int) < 65) || decide (90 < (x.toNat : Int)))) = !charB x := by
   rw [Bool.eq_iff_iff]
   unfold charB
   simp
   omega
 rw [e]
 cases charB x <;> simp
theorem key_char2 (x : UInt8) : ((!(decide (97 ≤ (x.toNat : Int)) && decide ((x.toNat : Int) ≤ 122) || decide (65 ≤ (x.toNat : Int)) && decide ((x.toNat : Int) ≤ 90) || decide (48 ≤ (x.toNat : Int)) && decide ((x.toNat : Int) ≤ 57)) && decide ((x.toNat : Int) ≠ 46) && decide ((x.toNat : Int) ≠ 45) && decide ((x.toNat : Int) ≠ 95)) = true → charB x = false) ∧ ((!(decide (97 ≤ (x.toNat : Int)) && decide ((x.toNat : Int) ≤ 122) || decide (65 ≤ (x.toNat : Int)) && decide ((x.toNat : Int) ≤ 90) || decide (48 ≤ (x.toNat : Int)) && decide ((x.toNat : Int) ≤ 57)) && decide ((x.toNat : Int) ≠ 46) && decide ((x.toNat : Int) ≠ 45) && decide ((x.toNat : Int) ≠ 95)) = false → charB x = true) := by
 have e : (!(decide (97 ≤ (x.toNat : Int)) && decide ((x.toNat : Int) ≤ 122) || decide (65 ≤ (x.toNat : Int)) && decide ((x.toNat : Int) ≤ 90) || decide (48 ≤ (x.toNat : Int)) && decide ((x.toNat : Int) ≤ 57)) && decide ((x.toNat : Int) ≠ 46) && decide ((x.toNat : Int) ≠ 45) && decide ((x.toNat : Int) ≠ 95)) = !charB x := by
   rw [Bool.eq_iff_iff]
   unfold charB
   simp
   omega
 rw [e]
 cases charB x <;> simp
theorem name_len1 {s : List UInt8} (h : s.all charB = true) : (decide (s ≠ []) && decide ((s.length : Int) ≤ 32)) = nameB s := by
 unfold nameB
 rw [h, Bool.and_true]
 congr 1
 exact decide_eq_decide.2 (by omega)
theorem name_len2 {s : List UInt8} (h : s.all charB = true) : (decide (1 ≤ (s.length : Int)) && decide ((s.length : Int) ≤ 32)) = nameB s := by
 rw [← name_len1 h]
 congr 1
 refine decide_eq_decide.2 ?_
 cases s with
 | nil => simp
 | cons x r => simp; omega
end Go.Fw
namespace Go.Proofs.YtbijdmfilmecbaaGreat
open Go.Fw Go.Proofs Go.RowKit Go.Proofs.Tryz
theorem c87 (w0 : World) (s : List UInt8) (hs : s.length ≤ 1048576) : Calls Tryz.prog 87 #[.string (bs s)] w0 fun e w' => e = .returned (.bool (nameB s)) ∧ Bel w0.heap.size w0 w' := by
 refine enter1 func87 rfl ntmps87 rfl fun a S => sg S (.ac rfl <| .z) fun a w S => wp_seq_k fun _ hK1 => wp_seq_k fun _ hK2 => wp_region_lit (run S (.mv rfl <| .z) fun a w S => Zi (op_bytes S underlying9 underlying107 underlying5 (.t rfl) (by first | omega | (simp; omega)) rfl fun g1 m1 fr1 hm1 a w S => run S (.ln underlying107 rfl <| .mc rfl <| .z) fun a w S => Zb (Za (hK2 _ _ (wp_block ?_)))))
 refine Yg S [2, 8] (X := Nat) (fun k => [(2, true, .bool false), (8, true, .int .i64 (k : Int))]) (fun _ => [.blk g1 (.cells (txtC s m1).toArray 5 fr1)]) (fun k => k ≤ s.length ∧ (s.take k).all charB = true) (fun k => s.length - k) 0 ⟨Nat.zero_le _, by simp⟩ ?_
 clear S
 rintro k a w ⟨hk, hall⟩ S
 by_cases hlt : k < s.length
 · obtain ⟨x, hx⟩ : ∃ x, s[k]? = some x := ⟨s[k], List.getElem?_eq_getElem hlt⟩
   have hcx := txt_get (m := m1) hx
   have hch := key_char1 x
   refine sg S (.lt (by omega) rfl rfl <| .z) fun a w S => wp_seq_k fun _ hK2 => Zd S (.t rfl) (wp_skip (Za (hK2 _ _ (wp_seq_k fun _ hK2 => wp_block (sg S (.ix underlying107 sizeOf5 (by omega) rfl rfl <| .yy (ys_ldN ⟨isAgg5, sizeOf5⟩ (.t rfl) (k := 0) rfl (fun _ => by assumption)) rfl <| .as rfl <| .z) fun a w S => wp_seq_k fun _ hK3 => wp_region_lit (run S (.mv rfl <| .yy (Zu (.t rfl) Ev.c) rfl <| .mv rfl <| .z) fun a w S => Yt S rfl rfl (Yr.ys (Ze (.t rfl))) rfl fun a w S => Yt S rfl rfl (Yr.ys (Zu (Ev.g rfl) Ev.c)) rfl fun a w S => run S (.yy (Xs (.t rfl) (Ev.g rfl) Ev.c) rfl <| .mv rfl <| .z) fun a w S => Yt S rfl rfl (Yr.ys (Ze (.t rfl))) rfl fun a w S => Yt S rfl rfl (Yr.ys (Zu (Ev.g rfl) Ev.c)) rfl fun a w S => run S (.yy (Xs (.t rfl) (Ev.g rfl) Ev.c) rfl <| .mv rfl <| .z) fun a w S => Yt S rfl rfl (Yr.ys (Ze (.t rfl))) rfl fun a w S => Yt S rfl rfl (Yr.ys (Yh (Ev.g rfl) Ev.c)) rfl fun a w S => Yt S rfl rfl (Yr.ys (Ze (Ev.g rfl))) rfl fun a w S => st_yf2 S rfl rfl (Yr.ys (Ze (.t rfl))) rfl fun a w S => st_yf2 S rfl rfl (Yr.ys (Xt (Ev.g rfl) Ev.c)) rfl fun a w S => Yt S rfl rfl (Yr.ys (ys_or2 (Ev.g rfl) Ev.c (Ev.g rfl))) rfl fun a w S => ?_))))))
   refine run S (.yy (Xs (.t rfl) (Ev.g rfl) Ev.c) rfl <| .mv rfl <| .z) fun a w S => Yt S rfl rfl (Yr.ys (Ze (.t rfl))) rfl fun a w S => Yt S rfl rfl (Yr.ys (Yh (Ev.g rfl) Ev.c)) rfl fun a w S => Yt S rfl rfl (Yr.ys (Ze (Ev.g rfl))) rfl fun a w S => st_yf2 S rfl rfl (Yr.ys (Ze (.t rfl))) rfl fun a w S => st_yf2 S rfl rfl (Yr.ys (Xt (Ev.g rfl) Ev.c)) rfl fun a w S => Yt S rfl rfl (Yr.ys (ys_or2 (Ev.g rfl) Ev.c (Ev.g rfl))) rfl fun a w S => run S (.yy (Xs (.t rfl) (Ev.g rfl) Ev.c) rfl <| .mv rfl <| .z) fun a w S => Yt S rfl rfl (Yr.ys (Ze (.t rfl))) rfl fun a w S => Yt S rfl rfl (Yr.ys (Yh (Ev.g rfl) Ev.c)) rfl fun a w S => Yt S rfl rfl (Yr.ys (Ze (Ev.g rfl))) rfl fun a w S => st_yf2 S rfl rfl (Yr.ys (Ze (.t rfl))) rfl fun a w S => st_yf2 S rfl rfl (Yr.ys (Xt (Ev.g rfl) Ev.c)) rfl fun a w S => Yt S rfl rfl (Yr.ys (ys_or2 (Ev.g rfl) Ev.c (Ev.g rfl))) rfl fun a w S => run S (.yy (Xs (.t rfl) (Ev.g rfl) Ev.c) rfl <| .z) fun a w S => Zb (Za (hK3 _ _ ?_))
   refine Xj S (.t rfl) (fun h1 => ?_) (fun h1 => ?_)
   refine sg S (.ac rfl <| .z) fun a w S => wp_ret (Yq (Zh (Zh (Yq (Zh (Zk S (results1 S results87 (Rv.tmp rfl)) ?_))))))
   rotate_left
   refine wp_skip (Zj (Za (hK2 _ _ (wp_region_lit (run S (.ad (by unfold I64; omega) rfl <| .mv rfl <| .z) fun a w S => Zb (Za ?_))))))
   rotate_left
   · refine ⟨?_, S.wd.below⟩
     rw [name_not (char_not hx (hch.1 h1))]
   · exact ⟨k + 1, ⟨by omega, char_more hx hall (hch.2 h1)⟩, by omega, S.pk⟩
 obtain rfl : k = s.length := by omega
 rw [List.take_length] at hall
 refine sg S (.ge (by omega) rfl rfl <| .z) fun a w S => wp_seq_k fun _ hK2 => Zf S (.t rfl) (wp_exit (Zc (Zc (Zs (Za (hK1 _ _ (wp_seq_k fun _ hK1 => wp_region_lit (run S (.mv rfl <| .yy (ys_neqStr (.t rfl) Ev.c) rfl <| .mv rfl <| .z) fun a w S => Yt S rfl rfl (Yr.ys (Ze (.t rfl))) rfl fun a w S => Yt S rfl rfl (Yr.ys (ys_lenStr underlying9 (Ev.g rfl))) rfl fun a w S => Yt S rfl rfl (Yr.ys (Xh (Ev.g rfl) Ev.c)) rfl fun a w S => run S (.yy (Xs (.t rfl) (Ev.g rfl) Ev.c) rfl <| .as rfl <| .z) fun a w S => Zb (Za (hK1 _ _ (wp_ret (Zk S (results1 S results87 (Rv.tmp rfl)) ?_))))))))))))
 exact ⟨by rw [name_len1 hall], S.wd.below⟩
theorem c74 (w0 : World) (s : List UInt8) (hs : s.length ≤ 1048576) : Calls Tryz.prog 74 #[.string (bs s)] w0 fun e w' => e = .returned (.bool (nameB s)) ∧ Bel w0.heap.size w0 w' := by
 refine enter1 func74 rfl ntmps74 rfl fun a S => sg S (.ac rfl <| .z) fun a w S => wp_seq_k fun _ hK1 => sg S (.ac rfl <| .z) fun a w S => wp_block ?_
 refine Yg S [2, 3] (X := Nat) (fun k => [(2, true, .bool false), (3, true, .int .i64 (k : Int))]) (fun _ => []) (fun k => k ≤ s.length ∧ (s.take k).all charB = true) (fun k => s.length - k) 0 ⟨Nat.zero_le _, by simp⟩ ?_
 clear S
 rintro k a w ⟨hk, hall⟩ S
 by_cases hlt : k < s.length
 · obtain ⟨x, hx⟩ : ∃ x, s[k]? = some x := ⟨s[k], List.getElem?_eq_getElem hlt⟩
   have rw_k : IntKind.i64.wrap ((k : Int) + 1) = ((k + 1 : Nat) : Int) := by rw [IntKind.wrap_i64]; omega
   have hch := key_char2 x
   refine wp_seq_k fun _ hK2 => sg S (.mv rfl <| .mv rfl <| .yy (ys_lenStr underlying9 (.t rfl)) rfl <| .lt (by omega) rfl rfl <| .z) fun a w S => Zd S (.t rfl) (wp_skip (Za (hK2 _ _ (wp_seq_k fun _ hK2 => wp_block (sg S (.mv rfl <| .mv rfl <| .yy (ys_ixStr underlying9 (.t rfl) (.t rfl) (fun _ => by assumption)) rfl <| .as rfl <| .z) fun a w S => wp_seq_k fun _ hK3 => wp_region_lit (run S (.mv rfl <| .yy (Yp (.t rfl) Ev.c) rfl <| .mv rfl <| .z) fun a w S => Yt S rfl rfl (Yr.ys (Ze (.t rfl))) rfl fun a w S => Yt S rfl rfl (Yr.ys (Xh (Ev.g rfl) Ev.c)) rfl fun a w S => run S (.yy (Xs (.t rfl) (Ev.g rfl) Ev.c) rfl <| .mv rfl <| .z) fun a w S => st_yf S rfl rfl (Yr.ys (Ze (.t rfl))) rfl fun a w S => st_yf S rfl rfl (Yr.ys (Yp (Ev.g rfl) Ev.c)) rfl fun a w S => st_yf S rfl rfl (Yr.ys (Ze (Ev.g rfl))) rfl fun a w S => st_yg2 S rfl rfl (Yr.ys (Ze (.t rfl))) rfl fun a w S => st_yg2 S rfl rfl (Yr.ys (Xh (Ev.g rfl) Ev.c)) rfl fun a w S => st_yf S rfl rfl (Yr.ys (ys_and2 (Ev.g rfl) (Ev.g rfl) Ev.c)) rfl fun a w S => run S (.yy (ys_or (.t rfl) Ev.c (Ev.g rfl)) rfl <| .mv rfl <| .z) fun a w S => st_yf S rfl rfl (Yr.ys (Ze (.t rfl))) rfl fun a w S => st_yf S rfl rfl (Yr.ys (Yp (Ev.g rfl) Ev.c)) rfl fun a w S => ?_))))))
   refine st_yf S rfl rfl (Yr.ys (Ze (Ev.g rfl))) rfl fun a w S => st_yg2 S rfl rfl (Yr.ys (Ze (.t rfl))) rfl fun a w S => st_yg2 S rfl rfl (Yr.ys (Xh (Ev.g rfl) Ev.c)) rfl fun a w S => st_yf S rfl rfl (Yr.ys (ys_and2 (Ev.g rfl) (Ev.g rfl) Ev.c)) rfl fun a w S => run S (.yy (ys_or (.t rfl) Ev.c (Ev.g rfl)) rfl <| .as rfl <| .z) fun a w S => Zb (Za (hK3 _ _ (wp_seq_k fun _ hK3 => wp_region_lit (run S (.mv rfl <| .nt rfl <| .mv rfl <| .z) fun a w S => Yt S rfl rfl (Yr.ys (Ze (.t rfl))) rfl fun a w S => Yt S rfl rfl (Yr.ys (Zu (Ev.g rfl) Ev.c)) rfl fun a w S => run S (.yy (Xs (.t rfl) (Ev.g rfl) Ev.c) rfl <| .mv rfl <| .z) fun a w S => Yt S rfl rfl (Yr.ys (Ze (.t rfl))) rfl fun a w S => Yt S rfl rfl (Yr.ys (Zu (Ev.g rfl) Ev.c)) rfl fun a w S => run S (.yy (Xs (.t rfl) (Ev.g rfl) Ev.c) rfl <| .mv rfl <| .z) fun a w S => Yt S rfl rfl (Yr.ys (Ze (.t rfl))) rfl fun a w S => Yt S rfl rfl (Yr.ys (Zu (Ev.g rfl) Ev.c)) rfl fun a w S => run S (.yy (Xs (.t rfl) (Ev.g rfl) Ev.c) rfl <| .z) fun a w S => Zb (Za (hK3 _ _ ?_))))))
   refine Xj S (.t rfl) (fun h1 => ?_) (fun h1 => ?_)
   refine sg S (.ac rfl <| .z) fun a w S => wp_ret (Yq (Zh (Zh (Yq (Zh (Zk S (results1 S results74 (Rv.tmp rfl)) ?_))))))
   rotate_left
   refine wp_skip (Zj (Za (hK2 _ _ (wp_region_lit (run S (.mv rfl <| .ad (by unfold I64; omega) rfl <| .as rfl <| .z) fun a w S => Zb (Za ?_))))))
   rotate_left
   · exact ⟨by rw [name_not (char_not hx (hch.1 h1))], S.wd.below⟩
   · exact ⟨k + 1, ⟨by omega, char_more hx hall (hch.2 h1)⟩, by omega, S.pk⟩
 obtain rfl : k = s.length := by omega
 rw [List.take_length] at hall
 refine wp_seq_k fun _ hK2 => sg S (.mv rfl <| .mv rfl <| .yy (ys_lenStr underlying9 (.t rfl)) rfl <| .ge (by omega) rfl rfl <| .z) fun a w S => Zf S (.t rfl) (wp_exit (Zc (Zc (Zs (Za (hK1 _ _ (wp_seq_k fun _ hK1 => wp_region_lit (run S (.mv rfl <| .yy (ys_lenStr underlying9 (.t rfl)) rfl <| .yy (Yp (.t rfl) Ev.c) rfl <| .mv rfl <| .z) fun a w S => Yt S rfl rfl (Yr.ys (Ze (.t rfl))) rfl fun a w S => Yt S rfl rfl (Yr.ys (ys_lenStr underlying9 (Ev.g rfl))) rfl fun a w S => Yt S rfl rfl (Yr.ys (Xh (Ev.g rfl) Ev.c)) rfl fun a w S => run S (.yy (Xs (.t rfl) (Ev.g rfl) Ev.c) rfl <| .as rfl <| .z) fun a w S => Zb (Za (hK1 _ _ (wp_ret (Zk S (results1 S results74 (Rv.tmp rfl)) ?_))))))))))))
 exact ⟨by rw [name_len2 hall], S.wd.below⟩
end Go.Proofs.YtbijdmfilmecbaaGreat
namespace Go.Fw
open Go.RowKit
def SlIn {α : Type} (enc : α → List Value) (size : Nat) (w1 : World) (bs : List Nat) (v : Value) (l : List α) : Prop :=
 ∃ A cap, v = .slice A l.length cap ∧ l.length ≤ cap ∧ cap ≤ 9223372036854775807 ∧ (0 < l.length → ∃ g o, A = some ⟨g, o, none⟩ ∧ g ∈ bs ∧ ∀ k x, l[k]? = some x → ∀ j u, (enc x)[j]? = some u → w1.cell? ⟨g, o + k * size + j, none⟩ = some u)
def Chunk.blocks : Chunk → List Nat
 | .blk b _ => [b]
 | .row _ _ A _ cap _ => if cap = 0 then [] else (A.map (·.block)).toList
 | .ice _ bs => bs
theorem Chunk.mem_blocks {c : Chunk} {b : Nat} : b ∈ c.blocks ↔ c.own b := by
 cases c with
 | blk b' o => simp [Chunk.blocks, Chunk.own]
 | row e size A n cap xs =>
   unfold Chunk.blocks Chunk.own
   by_cases h : cap = 0
   · simp [h]
   · simp [h]
 | ice w1 bs => rfl
section
variable {w0 w w1 : World} {L cs : List Chunk} {k e size : Nat} {bs bs' : List Nat}
theorem Wd.freeze (h : Wd w0 (cs ++ L) w) : Wd w0 (.ice w (cs.flatMap Chunk.blocks) :: L) w := by
 obtain ⟨h1, h2, h3⟩ := h
 rw [List.pairwise_append] at h3
 have key : ∀ b ∈ cs.flatMap Chunk.blocks, ∃ c ∈ cs, c.own b := fun b hb => by
   obtain ⟨c, hc, hb⟩ := List.mem_flatMap.1 hb
   exact ⟨c, hc, Chunk.mem_blocks.1 hb⟩
 refine ⟨h1, fun x hx => ?_, List.Pairwise.cons (fun x hx b hb hxb => ?_) h3.2.1⟩
 · rcases List.mem_cons.1 hx with rfl | hx
   · intro b hb
     obtain ⟨c, hc, hb⟩ := key b hb
     have := (h2 c (List.mem_append_left _ hc)).lt hb
     exact ⟨this.1, this.2, rfl⟩
   · exact h2 x (List.mem_append_right _ hx)
 · obtain ⟨c, hc, hb⟩ := key b hb
   exact h3.2.2 c hc x hx b hb hxb
variable {α : Type} {enc : α → List Value} {v : Value} {l : List α}
theorem ice_cell (W : Wd w0 L w) (hk : L[k]? = some (.ice w1 bs)) {g o : Nat} (hg : g ∈ bs) : w.cell? ⟨g, o, none⟩ = w1.cell? ⟨g, o, none⟩ := by
 have h := (W.get hk g hg).2.2
 simp only [World.cell?, h]
theorem SlIn.sl (h : SlIn enc size w1 bs v l) (W : Wd w0 L w) (hk : L[k]? = some (.ice w1 bs)) : Sl enc size w w.heap.size v l := by
 obtain ⟨A, cap, rfl, h1, h2, h3⟩ := h
 refine ⟨A, cap, rfl, h1, h2, fun hp => ?_⟩
 obtain ⟨g, o, rfl, hg, hc⟩ := h3 hp
 exact ⟨g, o, rfl, (W.get hk g hg).2.1, fun k x hx j u hu => (ice_cell W hk hg).trans (hc k x hx j u hu)⟩
theorem SlIn.row {A : Option Addr} {cap : Nat} (W : Wd w0 L w) (hk : L[k]? = some (rowOf e size enc A cap l)) (he : ∀ x, (enc x).length = size) (hb : ∀ b ∈ Chunk.blocks (rowOf e size enc A cap l), b ∈ bs') : SlIn enc size w bs' (.slice A l.length cap) l := by
 obtain ⟨A', cap', hv, h1, h2, h3⟩ := Sl.of_own W hk he
 cases hv
 refine ⟨A, cap, rfl, h1, h2, fun hp => ?_⟩
 obtain ⟨g, o, rfl, hg, hc⟩ := h3 hp
 exact ⟨g, o, rfl, hb g (by simp [Chunk.blocks, rowOf, show cap ≠ 0 by omega]), hc⟩
theorem SlIn.nil_ {c : Nat} : SlIn enc size w1 bs (.slice none 0 0) [] := ⟨none, 0, rfl, by simp, by simp, fun h => by simp at h⟩
end
end Go.Fw
namespace Go.Fw
open Go.RowKit
theorem place_cast (k : List UInt8) : hashL k % 16 = ((placeK k : Nat) : Int) := by
 unfold placeK
 have := (hash_range k).1
 omega
def encMp (b : Nat) : List Value := [.map (some b)]
theorem encMp_len (b : Nat) : (encMp b).length = 1 := rfl
theorem name_len {s : List UInt8} (h : nameB s = true) : s.length ≤ 32 := by
 unfold nameB at h
 simp only [Bool.and_eq_true, decide_eq_true_eq] at h
 exact h.1.2
structure TreeAt (w : World) (g : Nat) (A : Option Addr) (cap : Nat) (gs : List Nat) (T : List KH) : Prop where
 keys : w.cell? ⟨g, 0, none⟩ = some (.slice A 16 cap)
 row : Sl encMp 1 w w.heap.size (.slice A gs.length cap) gs
 len : gs.length = 16
 maps : ∀ (i b : Nat), gs[i]? = some b → ∃ o, w.heap[b]? = some o ∧ MapC o (partT T i)
theorem TreeAt.old {w0 w : World} {L : List Chunk} {g cap : Nat} {A : Option Addr} {gs : List Nat} {T : List KH} (W : Wd w0 L w) (h : TreeAt w0 g A cap gs T) : TreeAt w g A cap gs T :=
 ⟨Wd.cellOld W h.keys, .old W h.row, h.len, fun i b hb => by
   obtain ⟨o, h1, h2⟩ := h.maps i b hb
   exact ⟨o, (W.below.block b (Array.getElem?_eq_some_iff.1 h1).1).trans h1, h2⟩⟩
structure MapsIn (w1 : World) (bs : List Nat) (gs : List Nat) (T : List KH) : Prop where
 len : gs.length = 16
 nodup : gs.Nodup
 maps : ∀ (i b : Nat), gs[i]? = some b → b ∈ bs ∧ ∃ o, w1.heap[b]? = some o ∧ MapC o (partT T i)
end Go.Fw
namespace Go.Proofs.YtbijdmfilmecbaaGreat
open Go.Fw Go.Proofs Go.RowKit Go.Proofs.Tryz
theorem smT146 : SmT Tryz.prog 146 := ⟨⟨_, _, underlying146, underlying9, zeroValue60⟩⟩
abbrev treeP (g : Nat) (A : Option Addr) (cap : Nat) (gs : List Nat) (w1 : World) (bs : List Nat) (L : List Chunk) : List Chunk := .blk g (.cells #[.slice A 16 cap] 55) :: rowOf 146 1 encMp A cap gs :: .ice w1 bs :: L
theorem sl_m1 {w0 w w1 : World} {L : List Chunk} {k g cap : Nat} {A : Option Addr} {gs bs : List Nat} {T : List KH} (W : Wd w0 L w) (hk : L[k]? = some (.blk g (.cells #[.slice A 16 cap] 55)))
   (h2 : L[k + 1]? = some (rowOf 146 1 encMp A cap gs) := by rfl) (h3 : L[k + 2]? = some (.ice w1 bs) := by rfl) (M : MapsIn w1 bs gs T := by assumption) : TreeAt w g A cap gs T :=
 ⟨Wd.cell W hk rfl, Sl.of_own W h2 encMp_len, M.len, fun i b hb => by
   obtain ⟨h4, o, h5, h6⟩ := M.maps i b hb
   exact ⟨o, ((W.get h3 b h4).2.2).trans h5, h6⟩⟩
theorem c88 (w0 : World) (k : List UInt8) (hn : k.length ≤ 4194304) : Calls Tryz.prog 88 #[.string (bs k)] w0 fun e w' => e = .returned (.int .i64 (placeK k : Int)) ∧ Bel w0.heap.size w0 w' := by
 have rw_p := place_cast k
 have hh := hash_range k
 have hp := placeK_lt k
 refine enter1 func88 rfl ntmps88 rfl fun a S => sg S (.ac rfl <| .z) fun a w S => wp_seq_k fun _ hK1 => wp_region_lit (run S (.mv rfl <| .xx (Zg call114 (.cons (.t rfl) .nil) (fun hp w W => c114 _ _ (by assumption))) rfl <| .yy (ys_remE (.t rfl) Ev.c (fun _ => by omega)) rfl <| .z) fun a w S => ?_)
 rw [rw_p] at S
 refine run S (.yy (ys_cvI underlying60 underlying3 (.t rfl) (fun _ => by unfold I64; omega)) rfl <| .as rfl <| .z) fun a w S => Zb (Za (hK1 _ _ (wp_ret (Zk S (results1 S results88 (Rv.tmp rfl)) ?_))))
 exact ⟨rfl, S.wd.below⟩
theorem c75 (w0 : World) (k : List UInt8) (hn : k.length ≤ 4194304) : Calls Tryz.prog 75 #[.string (bs k)] w0 fun e w' => e = .returned (.int .i64 (placeK k : Int)) ∧ Bel w0.heap.size w0 w' := by
 have rw_p := place_cast k
 have hh := hash_range k
 have hp := placeK_lt k
 refine enter1 func75 rfl ntmps75 rfl fun a S => sg S (.ac rfl <| .z) fun a w S => wp_seq_k fun _ hK1 => wp_region_lit (run S (.mv rfl <| .xx (Zg call101 (.cons (.t rfl) .nil) (fun hp w W => c101 _ _ (by assumption))) rfl <| .yy (ys_remE (.t rfl) Ev.c (fun _ => by omega)) rfl <| .z) fun a w S => ?_)
 rw [rw_p] at S
 refine run S (.yy (ys_cvI underlying60 underlying3 (.t rfl) (fun _ => by unfold I64; omega)) rfl <| .as rfl <| .z) fun a w S => Zb (Za (hK1 _ _ (wp_ret (Zk S (results1 S results75 (Rv.tmp rfl)) ?_))))
 exact ⟨rfl, S.wd.below⟩
theorem c60 (w0 : World) (g n cap : Nat) (A : Option Addr) (h : w0.cell? ⟨g, 0, none⟩ = some (.slice A n cap)) : Calls Tryz.prog 60 #[.pointer (some ⟨g, 0, none⟩)] w0 fun e w' => e = .returned (.bool (decide (0 < n))) ∧ Bel w0.heap.size w0 w' := by
 refine enter1 func60 rfl ntmps60 rfl fun a S => sg S (.ac rfl <| .z) fun a w S => sg S (.mv rfl <| .yy (ys_pNotS underlying36 (.t rfl) Ev.c) rfl <| .mv rfl <| .gy rfl rfl (Ze (.t rfl)) <| .gy rfl rfl (Zy (.t rfl)) <| .gy rfl rfl (Zm (FieldT.mk underlying55 rfl sizeOf53 rfl) (.t rfl) (i' := 0) rfl) <| .gy rfl rfl (Zm (FieldT.mk underlying53 rfl sizeOf51 rfl) (.t rfl) (i' := 0) rfl) <| .gy rfl rfl (Zw ⟨isAgg51, sizeOf51⟩ (.t rfl) (fun _ => h)) <| .gy rfl rfl (Xc underlying51 (.t rfl)) <| .gy rfl rfl (Xt (.t rfl) Ev.c) <| .yy (Zr (.t rfl) (.t rfl)) rfl <| .as rfl <| .z) fun a w S => wp_ret (Zk S (results1 S results60 (Rv.tmp rfl)) ?_)
 exact ⟨by simp, S.wd.below⟩
theorem d60 (w0 : World) : Calls Tryz.prog 60 #[.pointer none] w0 fun e w' => e = .returned (.bool false) ∧ Bel w0.heap.size w0 w' := by
 refine enter1 func60 rfl ntmps60 rfl fun a S => sg S (.ac rfl <| .z) fun a w S => sg S (.mv rfl <| .yy (ys_pNotN underlying36 (.t rfl) Ev.c) rfl <| .mv rfl <| .sk rfl rfl rfl <| .sk rfl rfl rfl <| .sk rfl rfl rfl <| .sk rfl rfl rfl <| .sk rfl rfl rfl <| .sk rfl rfl rfl <| .sk rfl rfl rfl <| .yy (Zn (.t rfl) Ev.c) rfl <| .as rfl <| .z) fun a w S => wp_ret (Zk S (results1 S results60 (Rv.tmp rfl)) ?_)
 exact ⟨rfl, S.wd.below⟩
theorem c118 (w0 : World) (b : Option Nat) :
   Rets Tryz.prog 118 #[.map b] w0 fun u L => ∃ g, u = .func (.func 136) #[] #[.pointer (some ⟨g, 0, none⟩)] ∧ L = [.blk g (.cells #[.map b] 146)] := by
 unfold Go.Fw.Rets
 refine enter1 func118 rfl ntmps118 rfl fun a S => wp_seq_k fun _ hK1 => wp_region_lit (Zi (op_box1 S (.t rfl) rfl rfl fun g1 a w S => run S (.ac rfl <| .z) fun a w S => Zb (Za (hK1 _ _ (sg S (.yy (ys_mkFunc (.cons (.t rfl) .nil)) rfl <| .as rfl <| .z) fun a w S => wp_ret (Zk S (results1 S results118 (Rv.tmp rfl)) ?_))))))
 exact ⟨_, _, rfl, S.wd.pk, _, rfl, rfl⟩
theorem sortsS (m : Nat) : AnyZ.SortsIn Tryz.prog Tryz.sortedS_ren Fence.wide m :=
 ⟨fun blk off cap ss W hH hblk hsz => callsIn_wide.2 (AnyM.slices_Sort_string Tryz.sortS blk off cap ss W hH hblk hsz),
  fun p cap W => callsIn_wide.2 (AnyM.slices_Sort_string_none Tryz.sortS p cap W)⟩
theorem o99 {f : List KH} {o : Obj} {w0 w : World} {L : List Chunk} {g b : Nat} (W : Wd w0 (.blk g (.cells #[.map (some b)] 146) :: L) w) (hb : w.heap[b]? = some o) (hC : MapC o f) (hf : f.Pairwise ltK) (hs : ∀ x ∈ f, x.1.length ≤ 1048576) (hl : f.length ≤ 4194304) :
   RetsO Tryz.prog 99 #[.func (.func 136) #[] #[.pointer (some ⟨g, 0, none⟩)]] w0 w fun v L' => ∃ A cap, v = .slice A f.length cap ∧ L' = rowOf 9 1 encS' A cap (f.map (·.1)) :: .blk g (.cells #[.map (some b)] 146) :: L :=
 sorted_keysS (ρk := Tryz.keysS_ren) (ρs := Tryz.sortedS_ren) { Tryz.keysS with } Tryz.sortedS (sortsS _) (enters_of func121 (by kernel_rfl) rfl) (enters_of func136 (by kernel_rfl) rfl) W underlying9 hb hC hf hs hl
theorem c97 (w0 : World) (g cap : Nat) (A : Option Addr) (gs : List Nat) (T : List KH) (i : Nat) (h : TreeAt w0 g A cap gs T) (hi : i < 16) (hT : KhOk T) (hl : T.length ≤ 4194304) :
   Rets Tryz.prog 97 #[.pointer (some ⟨g, 0, none⟩), .int .i64 (i : Int)] w0 fun v L => ∃ B c, v = .slice B (partT T i).length c ∧ L = [rowOf 9 1 encS' B c ((partT T i).map (·.1))] := by
 have hk := h.keys
 have hgl := h.len
 obtain ⟨A', cap', e, hl1, hcap, hA⟩ := h.row
 cases e
 obtain ⟨gr, o_, b, rfl, hb, hd, hcx⟩ := Zv hA (show i < gs.length by omega)
 obtain ⟨o, ho, hC⟩ := h.maps i b hb
 have hpl := partT_len T i
 unfold Go.Fw.Rets
 refine enter2 func97 rfl ntmps97 rfl fun a S => sg S (.ac rfl <| .z) fun a w S => wp_seq_k fun _ hK1 => wp_region_lit (run S (.mv rfl <| .yy (Zy (.t rfl)) rfl <| .fa underlying53 sizeOf51 0 rfl rfl rfl <| .yy (Zw ⟨isAgg51, sizeOf51⟩ (.t rfl) (fun _ => hk)) rfl <| .mv rfl <| .ix underlying51 sizeOf146 (by omega) rfl rfl <| .yy (Zw ⟨isAgg146, sizeOf146⟩ (.t rfl) (fun _ => hcx 0 _ rfl)) rfl <| .z) fun a w S => ?_)
 (refine Zi (Zq S call118 (.cons (.t rfl) .nil) (c118 _ _) rfl ?_); clear S a w; rintro _ _ ⟨g1, rfl, rfl⟩ a w S)
 refine Zi (op_callO S call99 (.cons (.t rfl) .nil) (o99 S.wd ((S.wd.below.block b (Array.getElem?_eq_some_iff.1 ho).1).trans ho) hC (partT_sorted hT.sorted i) (fun x hx => by have := name_len (hT.name x (Yz.1 hx).1); omega) (by omega)) rfl ?_)
 clear S
 rintro _ _ ⟨B, c, rfl, rfl⟩ a w S
 refine run S (.as rfl <| .z) fun a w S => Zb (Za (hK1 _ _ (wp_ret (Zk S (results1 S results97 (Rv.tmp rfl)) ?_))))
 exact ⟨_, _, rfl, S.wd.pk, _, _, rfl, rfl⟩
theorem c91 (w0 : World) (g cap : Nat) (A : Option Addr) (gs : List Nat) (T : List KH) (i : Nat) (h : TreeAt w0 g A cap gs T) (hi : i < 16) (hT : KhOk T) (hl : T.length ≤ 4194304) :
   Calls Tryz.prog 91 #[.pointer (some ⟨g, 0, none⟩), .int .i64 (i : Int)] w0 fun e w' => e = .returned (.int .u64 (hashT T 0 i)) ∧ Bel w0.heap.size w0 w' := by
 have hk := h.keys
 have hgl := h.len
 obtain ⟨A', cap', e, hl1, hcap, hA⟩ := h.row
 cases e
 obtain ⟨gr, o_, b, rfl, hb, hd, hcx⟩ := Zv hA (show i < gs.length by omega)
 obtain ⟨o, ho, hC⟩ := h.maps i b hb
 have hpl := partT_len T i
 refine enter2 func91 rfl ntmps91 rfl fun a S => sg S (.ac rfl <| .z) fun a w S => sg S (.ac rfl <| .z) fun a w S => wp_seq_k fun _ hK1 => wp_seq_k fun _ hK2 => wp_region_lit (run S (.mv rfl <| .mv rfl <| .z) fun a w S => ?_)
 (refine Zi (Zq S call97 (.cons (.t rfl) (.cons (.t rfl) .nil)) (c97 _ _ _ _ _ _ _ (by exact .old S.wd (by assumption)) (by assumption) (by assumption) (by assumption)) rfl ?_); clear S a w; rintro _ _ ⟨B1, c1, rfl, rfl⟩ a w S)
 refine run S (.ln underlying58 rfl <| .mc rfl <| .z) fun a w S => Zb (Za (hK2 _ _ (wp_block ?_)))
 refine Yg S [5, 12] (X := Nat) (fun q => [(5, true, .int .u64 (leafH ((partT T i).take q))), (12, true, .int .i64 (q : Int))]) (fun _ => [rowOf 9 1 encS' B1 c1 ((partT T i).map (·.1))]) (fun q => q ≤ (partT T i).length) (fun q => (partT T i).length - q) 0 (Nat.zero_le _) ?_
 clear S
 rintro q a w hq S
 have hml : ((partT T i).map (·.1)).length = (partT T i).length := List.length_map ..
 by_cases hlt : q < (partT T i).length
 · obtain ⟨x, hx⟩ : ∃ x, (partT T i)[q]? = some x := ⟨_, List.getElem?_eq_getElem hlt⟩
   obtain ⟨ga, rfl⟩ := S.wd.row_at (k := 0) rfl (by have := (S.wd.room (k := 0) rfl).1; omega)
   have hx1 : ((partT T i).map (·.1))[q]? = some x.1 := by rw [List.getElem?_map, hx]; rfl
   have hmx : (x.1, x.2) ∈ partT T i := List.mem_of_getElem? hx
   have hxl := name_len (hT.name x (Yz.1 hmx).1)
   have hxr := hT.hash x (Yz.1 hmx).1
   have hst : leafH ((partT T i).take (q + 1)) = mixL (leafH ((partT T i).take q)) (mixL (hashL x.1) x.2) := by
     unfold leafH
     rw [List.take_add_one, hx, Option.toList_some, List.foldl_append]
     rfl
   have hrg := leaf_range ((partT T i).take q)
   have hrm := mix_range (hashL x.1) x.2
   have hrh := hash_range x.1
   obtain ⟨q0, hq0⟩ : ∃ y, leafH ((partT T i).take q) = y := ⟨_, rfl⟩
   obtain ⟨hh, rw_h⟩ : ∃ y, hashL x.1 = y := ⟨_, rfl⟩
   rw [rw_h] at hrm hrh hst
   obtain ⟨hm, rw_m⟩ : ∃ y, mixL hh x.2 = y := ⟨_, rfl⟩
   rw [rw_m] at hrm hst
   rw [hq0] at hrg hst S
   obtain ⟨hn, rw_n⟩ : ∃ y, mixL q0 hm = y := ⟨_, rfl⟩
   rw [rw_n] at hst
   refine sg S (.lt (by omega) rfl rfl <| .z) fun a w S => wp_seq_k fun _ hK2 => Zd S (.t rfl) (wp_skip (Za (hK2 _ _ (wp_seq_k fun _ hK2 => wp_block (sg S (.ix underlying58 sizeOf9 (by omega) rfl rfl <| .yy (ys_ldW0 ⟨isAgg9, sizeOf9⟩ (.t rfl) (k := 0) rfl hx1 (fun _ => rfl) rfl) rfl <| .as rfl <| .z) fun a w S => h_begin0 S (by kernel_rfl) fun a w S => hy 0 S rfl (Ze (.t rfl)) rfl fun a w S => hy 1 S rfl (Ze (.t rfl)) rfl fun a w S => hy 4 S rfl (Ze (.t rfl)) rfl fun a w S => ?_)))))
   refine hy 5 S rfl (Zy (.t rfl)) rfl fun a w S => hy 6 S rfl (Zm (FieldT.mk underlying53 rfl sizeOf51 rfl) (.t rfl) (i' := 0) rfl) rfl fun a w S => hy 7 S rfl (Zw ⟨isAgg51, sizeOf51⟩ (.t rfl) (fun _ => hk)) rfl fun a w S => hy 8 S rfl (Ze (.t rfl)) rfl fun a w S => hy 9 S rfl (Yv underlying51 sizeOf146 (.t rfl) (.t rfl) (fun _ => by omega)) rfl fun a w S => ?_
   refine hy 10 S rfl (Zw ⟨isAgg146, sizeOf146⟩ (.t rfl) (fun _ => hcx 0 _ rfl)) rfl fun a w S => hy 11 S rfl (Ze (.t rfl)) rfl fun a w S => hy 12 S rfl (ys_lookSO smT146 (.t rfl) (.t rfl) (by assumption) (by assumption) (by assumption)) rfl fun a w S => ?_
   (refine h_m (i := 2) rfl (by kernel_rfl) (op_bytes S underlying9 underlying107 underlying5 (.t rfl) (by first | omega | (simp; omega)) rfl ?_); clear S a w; intro g1 m1 fr1 hm1 a w S; refine h_n2 S ?_)
   refine h_q (i := 3) S (by repeat (first | exact List.Sublist.refl _ | exact List.nil_sublist _ | refine .cons_cons _ ?_ | refine .cons _ ?_)) rfl (by kernel_rfl) (Zg call50 (.cons (.t rfl) .nil) (fun hp w W => c50 _ _ _ (by exact Sl.of_txt W (k := 0) rfl (by assumption)) (by omega))) rfl fun a w S => ?_
   rw [rw_h] at S
   refine h_q (i := 13) S (by repeat (first | exact List.Sublist.refl _ | exact List.nil_sublist _ | refine .cons_cons _ ?_ | refine .cons _ ?_)) rfl (by kernel_rfl) (Zg call92 (.cons (.t rfl) (.cons (.t rfl) .nil)) (fun hp w W => c92 _ _ _ (by assumption) (by assumption))) rfl fun a w S => ?_
   rw [rw_m] at S
   refine h_q (i := 14) S (by repeat (first | exact List.Sublist.refl _ | exact List.nil_sublist _ | refine .cons_cons _ ?_ | refine .cons _ ?_)) rfl (by kernel_rfl) (Zg call92 (.cons (.t rfl) (.cons (.t rfl) .nil)) (fun hp w W => c92 _ _ _ (by assumption) (by assumption))) rfl fun a w S => ?_
   rw [rw_n] at S
   refine hy 15 S rfl (Yu (.t rfl)) rfl fun a w S => Xg (by kernel_rfl) (Zj (Za (hK2 _ _ (wp_region_lit (run S (.ad (by unfold I64; omega) rfl <| .mv rfl <| .z) fun a w S => Zb (Za ?_))))))
   exact ⟨q + 1, by omega, by omega, by rw [hst]; exact S.pk⟩
 obtain rfl : q = (partT T i).length := by omega
 rw [List.take_length] at S
 refine sg S (.ge (by omega) rfl rfl <| .z) fun a w S => wp_seq_k fun _ hK2 => Zf S (.t rfl) (wp_exit (Zc (Zc (Zs (Za (hK1 _ _ (sg S (.mv rfl <| .as rfl <| .z) fun a w S => wp_ret (Zk S (results1 S results91 (Rv.tmp rfl)) ?_))))))))
 exact ⟨rfl, S.wd.below⟩
end Go.Proofs.YtbijdmfilmecbaaGreat
namespace Go.Fw
open Go.RowKit
abbrev Kh.enc (x : KH) : List Value := [.int .i64 0, .string (bs x.1), .int .u64 x.2]
theorem Kh.enc_len (x : KH) : (Kh.enc x).length = 3 := rfl
theorem Kh.enc_one (x : KH) : ∀ u ∈ Kh.enc x, u.oneCell' = true := fun u hu => by simp [Kh.enc] at hu; rcases hu with rfl | rfl | rfl <;> rfl
structure DocAt (w : World) (g : Nat) (A : Option Addr) (cap : Nat) (T : List KH) : Prop where
 keys : w.cell? ⟨g, 0, none⟩ = some (.slice A T.length cap)
 row : Sl Kh.enc 3 w w.heap.size (.slice A T.length cap) T
theorem DocAt.old {w0 w : World} {L : List Chunk} {g cap : Nat} {A : Option Addr} {T : List KH} (W : Wd w0 L w) (h : DocAt w0 g A cap T) : DocAt w g A cap T := ⟨Wd.cellOld W h.keys, .old W h.row⟩
theorem half_left {d p : Nat} (h : (p + 1) * 2 ^ (d + 1) ≤ 16) : (2 * p + 1) * 2 ^ d ≤ 16 ∧ (2 * p + 1 + 1) * 2 ^ d ≤ 16 := by
 have e : (p + 1) * 2 ^ (d + 1) = (2 * p + 1 + 1) * 2 ^ d := by rw [Nat.pow_succ, Nat.mul_comm (2 ^ d) 2, ← Nat.mul_assoc]; congr 1; omega
 rw [e] at h
 exact ⟨Nat.le_trans (Nat.mul_le_mul_right _ (by omega)) h, h⟩
theorem half_lt {d p : Nat} (h : (p + 1) * 2 ^ d ≤ 16) : p < 16 := by
 have := Nat.le_mul_of_pos_right (p + 1) (Nat.two_pow_pos d)
 omega
theorem place_of {lv p : Int} (h1 : 0 ≤ lv ∧ lv ≤ 4) (h2 : 0 ≤ p ∧ p < 2 ^ lv.toNat) : (p.toNat + 1) * 2 ^ (4 - lv).toNat ≤ 16 := by
 have h3 : p.toNat + 1 ≤ 2 ^ lv.toNat := by
   have : ((p.toNat : Int)) < ((2 ^ lv.toNat : Nat) : Int) := by rw [Int.toNat_of_nonneg h2.1]; simpa using h2.2
   omega
 refine Nat.le_trans (Nat.mul_le_mul_right _ h3) ?_
 rw [← Nat.pow_add, show lv.toNat + (4 - lv).toNat = 4 by omega]
 decide
theorem below_snoc_yes {T : List KH} {i q : Nat} {x : KH} {p : Int} (h : T[q]? = some x) (hx : placeK x.1 = i) : (partT (T.take (q + 1)) i).map (smP p) = (partT (T.take q) i).map (smP p) ++ [smP p x] := by
 unfold partT
 rw [List.take_add_one, h, Option.toList_some, List.filter_append, List.map_append]
 simp [hx]
theorem below_snoc_no {T : List KH} {i q : Nat} {x : KH} {p : Int} (h : T[q]? = some x) (hx : ¬ placeK x.1 = i) : (partT (T.take (q + 1)) i).map (smP p) = (partT (T.take q) i).map (smP p) := by
 unfold partT
 rw [List.take_add_one, h, Option.toList_some, List.filter_append, List.map_append]
 simp [hx]
end Go.Fw
namespace Go.Proofs.YtbijdmfilmecbaaGreat
open Go.Fw Go.Proofs Go.RowKit Go.Proofs.Tryz
theorem hash_ind (T : List KH) (hT : KhOk T) (hl : T.length ≤ 4194304) : ∀ (d p : Nat) (lv : Int) (w0 : World) (g cap : Nat) (A : Option Addr) (gs : List Nat), TreeAt w0 g A cap gs T → 0 ≤ lv → lv = 4 - (d : Int) → (p + 1) * 2 ^ d ≤ 16 →
   Calls Tryz.prog 61 #[.pointer (some ⟨g, 0, none⟩), .int .i64 lv, .int .i64 (p : Int)] w0 fun e w' => e = .returned (.int .u64 (hashT T d p)) ∧ Bel w0.heap.size w0 w'
 | 0, p, lv, w0, g, cap, A, gs, h, h0, h4, hp => by
   obtain rfl : lv = 4 := by omega
   have hp16 := half_lt hp
   refine enter3 func61 rfl ntmps61 rfl fun a S => sg S (.ac rfl <| .z) fun a w S => wp_seq_k fun _ hK1 => sg S (.mv rfl <| .yy (Yk (by omega) (Yi (.t rfl) Ev.c)) rfl <| .z) fun a w S => Zd S (.t rfl) (sg S (.mv rfl <| .yy (Zy (.t rfl)) rfl <| .fa underlying55 sizeOf53 0 rfl rfl rfl <| .mv rfl <| .xx (Zg call91 (.cons (.t rfl) (.cons (.t rfl) .nil)) (fun hp w W => c91 _ _ _ _ _ _ _ (by exact .old W (by assumption)) (by assumption) (by assumption) (by assumption))) rfl <| .as rfl <| .z) fun a w S => wp_ret (Zh (Zk S (results1 S results61 (Rv.tmp rfl)) ?_)))
   exact ⟨rfl, S.wd.below⟩
 | d + 1, p, lv, w0, g, cap, A, gs, h, h0, h4, hp => by
   have ih := hash_ind T hT hl d
   have hp16 := half_lt hp
   obtain ⟨hp1, hp2⟩ := half_left hp
   have rw_1 : (2 : Int) * (p : Int) = ((2 * p : Nat) : Int) := rfl
   have rw_2 : ((2 * p : Nat) : Int) + 1 = ((2 * p + 1 : Nat) : Int) := rfl
   have ha := hashT_range T d (2 * p)
   have hb := hashT_range T d (2 * p + 1)
   have e : hashT T (d + 1) p = if hashT T d (2 * p) = 0 ∧ hashT T d (2 * p + 1) = 0 then 0 else mixL (hashT T d (2 * p)) (hashT T d (2 * p + 1)) := by rw [hashT]
   generalize hx : hashT T d (2 * p) = x at *
   generalize hy : hashT T d (2 * p + 1) = y at *
   refine enter3 func61 rfl ntmps61 rfl fun a S => sg S (.ac rfl <| .z) fun a w S => wp_seq_k fun _ hK1 => sg S (.mv rfl <| .yy (Yf (by omega) (Yi (.t rfl) Ev.c)) rfl <| .z) fun a w S => Zf S (.t rfl) (wp_skip (Za (hK1 _ _ (wp_seq_k fun _ hK1 => wp_region_lit (run S (.mv rfl <| .mv rfl <| .ad (by unfold I64; omega) rfl <| .mv rfl <| .yy (Yy Ev.c (.t rfl) (fun _ => by unfold I64; omega)) rfl <| .z) fun a w S => ?_)))))
   rw [rw_1] at S
   refine Xy S (Zg call61 (.cons (.t rfl) (.cons (.t rfl) (.cons (.t rfl) .nil))) (fun _ w' W' => ih (2 * p) (lv + 1) w' g cap A gs (TreeAt.old W' h) (by omega) (by omega) hp1)) rfl ?_
   clear S a w
   intro a w S
   rw [hx] at S
   refine run S (.mv rfl <| .mv rfl <| .ad (by unfold I64; omega) rfl <| .mv rfl <| .yy (Yy Ev.c (.t rfl) (fun _ => by unfold I64; omega)) rfl <| .z) fun a w S => ?_
   rw [rw_1] at S
   refine run S (.ad (by unfold I64; omega) rfl <| .z) fun a w S => ?_
   rw [rw_2] at S
   refine Xy S (Zg call61 (.cons (.t rfl) (.cons (.t rfl) (.cons (.t rfl) .nil))) (fun _ w' W' => ih (2 * p + 1) (lv + 1) w' g cap A gs (TreeAt.old W' h) (by omega) (by omega) hp2)) rfl ?_
   clear S a w
   intro a w S
   rw [hy] at S
   refine run S (.as rfl <| .as rfl <| .z) fun a w S => Zb (Za (hK1 _ _ (wp_seq_k fun _ hK1 => wp_seq_k fun _ hK2 => wp_region_lit (run S (.mv rfl <| .yy (Yi (.t rfl) Ev.c) rfl <| .mv rfl <| .z) fun a w S => Yt S rfl rfl (Yr.ys (Ze (.t rfl))) rfl fun a w S => Yt S rfl rfl (Yr.ys (Yi (Ev.g rfl) Ev.c)) rfl fun a w S => run S (.yy (Xs (.t rfl) (Ev.g rfl) Ev.c) rfl <| .z) fun a w S => Zb (Za (hK2 _ _ ?_))))))
   refine Xj S (.t rfl) (fun h1 => ?_) (fun h1 => ?_)
   refine sg S (.ac rfl <| .z) fun a w S => wp_ret (Zh (Zk S (results1 S results61 (Rv.tmp rfl)) ?_))
   rotate_left
   refine wp_skip (Za (hK1 _ _ (sg S (.mv rfl <| .mv rfl <| .xx (Zg call92 (.cons (.t rfl) (.cons (.t rfl) .nil)) (fun hp w W => c92 _ _ _ (by assumption) (by assumption))) rfl <| .as rfl <| .z) fun a w S => wp_ret (Zk S (results1 S results61 (Rv.tmp rfl)) ?_))))
   rotate_left
   · exact ⟨by rw [e, if_pos (by simpa using h1)], S.wd.below⟩
   · exact ⟨by rw [e, if_neg (by simpa using h1)], S.wd.below⟩
theorem c93 (w0 : World) (g cap : Nat) (A : Option Addr) (T : List KH) (i : Nat) (h : DocAt w0 g A cap T) (hT : KhOk T) (hl : T.length ≤ 4194304) (hi : i < 16) :
   Rets Tryz.prog 93 #[.pointer (some ⟨g, 0, none⟩), .int .i64 (i : Int)] w0 fun v L => ∃ B c, v = .slice B ((partT T i).map (smP i)).length c ∧ L = [rowOf 77 3 Sm.enc B c ((partT T i).map (smP i))] := by
 have hk := h.keys
 obtain ⟨A', cap', e, hl1, hcap, hA⟩ := h.row
 cases e
 unfold Go.Fw.Rets
 refine enter2 func93 rfl ntmps93 rfl fun a S => sg S (.ac rfl <| .z) fun a w S => sg S (.ac rfl <| .z) fun a w S => wp_seq_k fun _ hK1 => sg S (.ac rfl <| .z) fun a w S => wp_block ?_
 refine Yg (S.nil_ 77 3 Sm.enc none) [5, 6] (X := Nat × Option Addr × Nat) (fun q => [(5, true, .slice q.2.1 ((partT (T.take q.1) i).map (smP i)).length q.2.2), (6, true, .int .i64 (q.1 : Int))]) (fun q => [rowOf 77 3 Sm.enc q.2.1 q.2.2 ((partT (T.take q.1) i).map (smP i))]) (fun q => q.1 ≤ T.length) (fun q => T.length - q.1) (0, none, 0) (Nat.zero_le _) ?_
 clear S
 rintro ⟨q, B, cB⟩ a w hq S
 dsimp only at hq S
 have hpl : ((partT (T.take q) i).map (smP i)).length ≤ T.length := by
   rw [List.length_map]
   exact Nat.le_trans (partT_len _ _) (by rw [List.length_take]; omega)
 by_cases hlt : q < T.length
 · obtain ⟨gr, o_, x, rfl, hx, hd, hcx⟩ := Zv hA hlt
   have hxl := name_len (hT.name x (List.mem_of_getElem? hx))
   have rw_i : IntKind.i64.wrap ((q : Int) + 1) = ((q + 1 : Nat) : Int) := by rw [IntKind.wrap_i64]; omega
   by_cases hpx : placeK x.1 = i
   · have rw_p : decide (((placeK x.1 : Nat) : Int) = (i : Int)) = true := decide_eq_true (by omega)
     have hst := below_snoc_yes (p := i) hx hpx
     generalize (partT (T.take q) i).map (smP i) = M at *
     have hold_r := trivial
     have lr_nil := trivial
     refine wp_seq_k fun _ hK2 => sg S (.mv rfl <| .mv rfl <| .yy (Zy (.t rfl)) rfl <| .fa underlying124 sizeOf22 0 rfl rfl rfl <| .yy (Zw ⟨isAgg22, sizeOf22⟩ (.t rfl) (fun _ => hk)) rfl <| .ln underlying22 rfl <| .lt (by omega) rfl rfl <| .z) fun a w S => Zd S (.t rfl) (wp_skip (Za (hK2 _ _ (wp_seq_k fun _ hK2 => wp_block (sg S (.mv rfl <| .yy (Zy (.t rfl)) rfl <| .fa underlying124 sizeOf22 0 rfl rfl rfl <| .yy (Zw ⟨isAgg22, sizeOf22⟩ (.t rfl) (fun _ => hk)) rfl <| .mv rfl <| .ix underlying22 sizeOf77 (by omega) rfl rfl <| .yy (Zz (FieldT.mk underlying77 rfl sizeOf9 rfl) (.t rfl)) rfl <| .yy (Zw ⟨isAgg9, sizeOf9⟩ (.t rfl) (fun _ => hcx _ _ rfl)) rfl <| .xx (Zg call75 (.cons (.t rfl) .nil) (fun hp w W => c75 _ _ (by omega))) rfl <| .mv rfl <| .yy (Yk (by omega) (Yi (.t rfl) (.t rfl))) rfl <| .z) fun a w S => Zd S (.t rfl) (h_begin S (by kernel_rfl) [] fun a w S => hy 0 S rfl (Ze (.t rfl)) rfl fun a w S => ?_))))))
     refine hy 1 S rfl (Ze (.t rfl)) rfl fun a w S => hy 2 S rfl (Ze (.t rfl)) rfl fun a w S => hy 3 S rfl (Zy (.t rfl)) rfl fun a w S => hy 4 S rfl (Zm (FieldT.mk underlying124 rfl sizeOf22 rfl) (.t rfl) (i' := 0) rfl) rfl fun a w S => hy 5 S rfl (Zw ⟨isAgg22, sizeOf22⟩ (.t rfl) (fun _ => hk)) rfl fun a w S => ?_
     refine hy 6 S rfl (Ze (.t rfl)) rfl fun a w S => hy 7 S rfl (Yv underlying22 sizeOf77 (.t rfl) (.t rfl) (fun _ => by omega)) rfl fun a w S => hy 8 S rfl (Zz (FieldT.mk underlying77 rfl sizeOf9 rfl) (.t rfl)) rfl fun a w S => hy 9 S rfl (Zw ⟨isAgg9, sizeOf9⟩ (.t rfl) (fun _ => hcx _ _ rfl)) rfl fun a w S => hy 10 S rfl (Ze (.t rfl)) rfl fun a w S => ?_
     refine hy 11 S rfl (Zy (.t rfl)) rfl fun a w S => hy 12 S rfl (Zm (FieldT.mk underlying124 rfl sizeOf22 rfl) (.t rfl) (i' := 0) rfl) rfl fun a w S => hy 13 S rfl (Zw ⟨isAgg22, sizeOf22⟩ (.t rfl) (fun _ => hk)) rfl fun a w S => hy 14 S rfl (Ze (.t rfl)) rfl fun a w S => hy 15 S rfl (Yv underlying22 sizeOf77 (.t rfl) (.t rfl) (fun _ => by omega)) rfl fun a w S => ?_
     refine hy 16 S rfl (Zz (FieldT.mk underlying77 rfl sizeOf60 rfl) (.t rfl)) rfl fun a w S => hy 17 S rfl (Zw ⟨isAgg60, sizeOf60⟩ (.t rfl) (fun _ => hcx _ _ rfl)) rfl fun a w S => hy 18 S rfl (Yj (ps := [(0, Go.Operand.tmp 28), (1, Go.Operand.tmp 36), (2, Go.Operand.tmp 44)]) (us := [_, _, _]) bld77 (.cons (.t rfl) (.cons (.t rfl) (.cons (.t rfl) .nil))) rfl) rfl fun a w S => ?_
     (refine h_m (i := 19) rfl (by kernel_rfl) (Zp S underlying22 inf77 rfl rfl rfl (.t rfl) rfl rfl rfl ?_); clear S a w; intro g1 a w S; refine Yw S ?_)
     (refine h_m (i := 20) rfl (by kernel_rfl) (Yc S underlying22 inf77 rfl (k := 1) (j := 0) rfl (.t rfl) (.t rfl) rfl Go.Fw.Sm.mkEnc rfl rfl (by first | omega | (simp only [List.length_append, List.length_cons, List.length_nil]; omega)) rfl rfl rfl ?_); clear S a w; intro A1 cap1 a w S; refine Yw S ?_)
     refine hy 21 S rfl (Yu (.t rfl)) rfl fun a w S => Xg (by kernel_rfl) (Zj (Za (hK2 _ _ (wp_region_lit (run S (.mv rfl <| .ad (by unfold I64; omega) rfl <| .as rfl <| .z) fun a w S => Zb (Za ?_))))))
     exact ⟨(q + 1, A1, cap1), by dsimp only; omega, by dsimp only; omega, by dsimp only; rw [hst]; exact S.pk⟩
   · have rw_p : decide (((placeK x.1 : Nat) : Int) = (i : Int)) = false := decide_eq_false (by omega)
     have hst := below_snoc_no (p := i) hx hpx
     refine wp_seq_k fun _ hK2 => sg S (.mv rfl <| .mv rfl <| .yy (Zy (.t rfl)) rfl <| .fa underlying124 sizeOf22 0 rfl rfl rfl <| .yy (Zw ⟨isAgg22, sizeOf22⟩ (.t rfl) (fun _ => hk)) rfl <| .ln underlying22 rfl <| .lt (by omega) rfl rfl <| .z) fun a w S => Zd S (.t rfl) (wp_skip (Za (hK2 _ _ (wp_seq_k fun _ hK2 => wp_block (sg S (.mv rfl <| .yy (Zy (.t rfl)) rfl <| .fa underlying124 sizeOf22 0 rfl rfl rfl <| .yy (Zw ⟨isAgg22, sizeOf22⟩ (.t rfl) (fun _ => hk)) rfl <| .mv rfl <| .ix underlying22 sizeOf77 (by omega) rfl rfl <| .yy (Zz (FieldT.mk underlying77 rfl sizeOf9 rfl) (.t rfl)) rfl <| .yy (Zw ⟨isAgg9, sizeOf9⟩ (.t rfl) (fun _ => hcx _ _ rfl)) rfl <| .xx (Zg call75 (.cons (.t rfl) .nil) (fun hp w W => c75 _ _ (by omega))) rfl <| .mv rfl <| .yy (Yf (by omega) (Yi (.t rfl) (.t rfl))) rfl <| .z) fun a w S => Zf S (.t rfl) (wp_skip (Zj (Za (hK2 _ _ (wp_region_lit (run S (.mv rfl <| .ad (by unfold I64; omega) rfl <| .as rfl <| .z) fun a w S => Zb (Za ?_))))))))))))
     exact ⟨(q + 1, B, cB), by dsimp only; omega, by dsimp only; omega, by dsimp only; rw [hst]; exact S.pk⟩
 obtain rfl : q = T.length := by omega
 rw [List.take_length] at S
 refine wp_seq_k fun _ hK2 => sg S (.mv rfl <| .mv rfl <| .yy (Zy (.t rfl)) rfl <| .fa underlying124 sizeOf22 0 rfl rfl rfl <| .yy (Zw ⟨isAgg22, sizeOf22⟩ (.t rfl) (fun _ => hk)) rfl <| .ln underlying22 rfl <| .ge (by omega) rfl rfl <| .z) fun a w S => Zf S (.t rfl) (wp_exit (Zc (Zc (Zs (Za (hK1 _ _ (sg S (.mv rfl <| .as rfl <| .z) fun a w S => wp_ret (Zk S (results1 S results93 (Rv.tmp rfl)) ?_))))))))
 exact ⟨_, _, rfl, S.wd.pk, _, _, rfl, rfl⟩
theorem c61 (w0 : World) (g cap : Nat) (A : Option Addr) (gs : List Nat) (T : List KH) (lv p : Int) (h : TreeAt w0 g A cap gs T) (hT : KhOk T) (hl : T.length ≤ 4194304) (h1 : 0 ≤ lv ∧ lv ≤ 4) (h2 : 0 ≤ p ∧ p < 2 ^ lv.toNat) :
   Calls Tryz.prog 61 #[.pointer (some ⟨g, 0, none⟩), .int .i64 lv, .int .i64 p] w0 fun e w' => e = .returned (.int .u64 (hashT T (4 - lv).toNat p.toNat)) ∧ Bel w0.heap.size w0 w' := by
 have := hash_ind T hT hl (4 - lv).toNat p.toNat lv w0 g cap A gs h h1.1 (by omega) (place_of h1 h2)
 rwa [Int.toNat_of_nonneg h2.1] at this
theorem hash_indR (T : List KH) (hT : KhOk T) (hl : T.length ≤ 4194304) : ∀ (d p : Nat) (lv : Int) (w0 : World) (g cap : Nat) (A : Option Addr), DocAt w0 g A cap T → 0 ≤ lv → lv = 4 - (d : Int) → (p + 1) * 2 ^ d ≤ 16 →
   Calls Tryz.prog 62 #[.pointer (some ⟨g, 0, none⟩), .int .i64 lv, .int .i64 (p : Int)] w0 fun e w' => e = .returned (.int .u64 (hashT T d p)) ∧ Bel w0.heap.size w0 w'
 | 0, p, lv, w0, g, cap, A, h, h0, h4, hp => by
   obtain rfl : lv = 4 := by omega
   have hp16 := half_lt hp
   have hpl := partT_len T p
   have hml : ((partT T p).map (smP p)).length = (partT T p).length := List.length_map ..
   refine enter3 func62 rfl ntmps62 rfl fun a S => sg S (.ac rfl <| .z) fun a w S => wp_seq_k fun _ hK1 => sg S (.mv rfl <| .yy (Yk (by omega) (Yi (.t rfl) Ev.c)) rfl <| .z) fun a w S => Zd S (.t rfl) (sg S (.ac rfl <| .z) fun a w S => wp_seq_k fun _ hK2 => wp_region_lit (run S (.mv rfl <| .mv rfl <| .z) fun a w S => ?_))
   (refine Zi (Zq S call93 (.cons (.t rfl) (.cons (.t rfl) .nil)) (c93 _ _ _ _ _ _ (by exact .old S.wd (by assumption)) (by assumption) (by assumption) (by assumption)) rfl ?_); clear S a w; rintro _ _ ⟨B1, c1, rfl, rfl⟩ a w S)
   refine run S (.as rfl <| .z) fun a w S => Zb (Za (hK2 _ _ (wp_seq_k fun _ hK2 => sg S (.ac rfl <| .z) fun a w S => wp_block ?_)))
   refine Yg S [7, 9] (X := Nat) (fun q => [(7, true, .int .u64 (leafH ((partT T p).take q))), (9, true, .int .i64 (q : Int))]) (fun _ => [rowOf 77 3 Sm.enc B1 c1 ((partT T p).map (smP p))]) (fun q => q ≤ (partT T p).length) (fun q => (partT T p).length - q) 0 (Nat.zero_le _) ?_
   clear S
   rintro q a w hq S
   by_cases hlt : q < (partT T p).length
   · obtain ⟨x, hx⟩ : ∃ x, (partT T p)[q]? = some x := ⟨_, List.getElem?_eq_getElem hlt⟩
     obtain ⟨ga, rfl⟩ := S.wd.row_at (k := 0) rfl (by have := (S.wd.room (k := 0) rfl).1; omega)
     have hx1 : ((partT T p).map (smP p))[q]? = some (smP p x) := by rw [List.getElem?_map, hx]; rfl
     have hmx : x ∈ partT T p := List.mem_of_getElem? hx
     have rw_s1 : (smP p x).key = x.1 := rfl
     have rw_s2 : (smP p x).hash = x.2 := rfl
     have hxl := name_len (hT.name x (Yz.1 hmx).1)
     have hxr := hT.hash x (Yz.1 hmx).1
     have rw_i : IntKind.i64.wrap ((q : Int) + 1) = ((q + 1 : Nat) : Int) := by rw [IntKind.wrap_i64]; omega
     have hst : leafH ((partT T p).take (q + 1)) = mixL (leafH ((partT T p).take q)) (mixL (hashL x.1) x.2) := by
       unfold leafH
       rw [List.take_add_one, hx, Option.toList_some, List.foldl_append]
       rfl
     have hrg := leaf_range ((partT T p).take q)
     have hrm := mix_range (hashL x.1) x.2
     have hrh := hash_range x.1
     obtain ⟨q0, hq0⟩ : ∃ y, leafH ((partT T p).take q) = y := ⟨_, rfl⟩
     obtain ⟨hh, rw_h⟩ : ∃ y, hashL x.1 = y := ⟨_, rfl⟩
     rw [rw_h] at hrm hrh hst
     obtain ⟨hm, rw_m⟩ : ∃ y, mixL hh x.2 = y := ⟨_, rfl⟩
     rw [rw_m] at hrm hst
     rw [hq0] at hrg hst S
     obtain ⟨hn, rw_n⟩ : ∃ y, mixL q0 hm = y := ⟨_, rfl⟩
     rw [rw_n] at hst
     refine wp_seq_k fun _ hK3 => sg S (.mv rfl <| .mv rfl <| .ln underlying22 rfl <| .lt (by omega) rfl rfl <| .z) fun a w S => Zd S (.t rfl) (wp_skip (Za (hK3 _ _ (wp_seq_k fun _ hK3 => wp_block (h_begin0 S (by kernel_rfl) fun a w S => hy 0 S rfl (Ze (.t rfl)) rfl fun a w S => hy 1 S rfl (Ze (.t rfl)) rfl fun a w S => hy 2 S rfl (Ze (.t rfl)) rfl fun a w S => hy 3 S rfl (Yv underlying22 sizeOf77 (.t rfl) (.t rfl) (fun _ => by omega)) rfl fun a w S => ?_)))))
     refine hy 4 S rfl (Zz (FieldT.mk underlying77 rfl sizeOf9 rfl) (.t rfl)) rfl fun a w S => hy 5 S rfl (Xu ⟨isAgg9, sizeOf9⟩ (.t rfl) (k := 0) rfl hx1 (fun _ => rfl) rfl) rfl fun a w S => ?_
     rw [rw_s1] at S
     refine hy 8 S rfl (Ze (.t rfl)) rfl fun a w S => hy 9 S rfl (Ze (.t rfl)) rfl fun a w S => hy 10 S rfl (Yv underlying22 sizeOf77 (.t rfl) (.t rfl) (fun _ => by omega)) rfl fun a w S => hy 11 S rfl (Zz (FieldT.mk underlying77 rfl sizeOf60 rfl) (.t rfl)) rfl fun a w S => hy 12 S rfl (Xu ⟨isAgg60, sizeOf60⟩ (.t rfl) (k := 0) rfl hx1 (fun _ => rfl) rfl) rfl fun a w S => ?_
     rw [rw_s2] at S
     (refine h_m (i := 6) rfl (by kernel_rfl) (op_bytes S underlying9 underlying107 underlying5 (.t rfl) (by first | omega | (simp; omega)) rfl ?_); clear S a w; intro g1 m1 fr1 hm1 a w S; refine h_n2 S ?_)
     refine h_q (i := 7) S (by repeat (first | exact List.Sublist.refl _ | exact List.nil_sublist _ | refine .cons_cons _ ?_ | refine .cons _ ?_)) rfl (by kernel_rfl) (Zg call54 (.cons (.t rfl) .nil) (fun hp w W => c54 _ _ _ (by exact Sl.of_txt W (k := 0) rfl (by assumption)) (by omega))) rfl fun a w S => ?_
     rw [rw_h] at S
     refine h_q (i := 13) S (by repeat (first | exact List.Sublist.refl _ | exact List.nil_sublist _ | refine .cons_cons _ ?_ | refine .cons _ ?_)) rfl (by kernel_rfl) (Zg call94 (.cons (.t rfl) (.cons (.t rfl) .nil)) (fun hp w W => c94 _ _ _ (by assumption) (by assumption))) rfl fun a w S => ?_
     rw [rw_m] at S
     refine h_q (i := 14) S (by repeat (first | exact List.Sublist.refl _ | exact List.nil_sublist _ | refine .cons_cons _ ?_ | refine .cons _ ?_)) rfl (by kernel_rfl) (Zg call94 (.cons (.t rfl) (.cons (.t rfl) .nil)) (fun hp w W => c94 _ _ _ (by assumption) (by assumption))) rfl fun a w S => ?_
     rw [rw_n] at S
     refine hy 15 S rfl (Yu (.t rfl)) rfl fun a w S => Xg (by kernel_rfl) (Zj (Za (hK3 _ _ (wp_region_lit (run S (.mv rfl <| .ad (by unfold I64; omega) rfl <| .as rfl <| .z) fun a w S => Zb (Za ?_))))))
     exact ⟨q + 1, by omega, by omega, by rw [hst]; exact S.pk⟩
   obtain rfl : q = (partT T p).length := by omega
   rw [List.take_length] at S
   refine wp_seq_k fun _ hK3 => sg S (.mv rfl <| .mv rfl <| .ln underlying22 rfl <| .ge (by omega) rfl rfl <| .z) fun a w S => Zf S (.t rfl) (wp_exit (Zc (Zc (Zs (Za (hK2 _ _ (sg S (.mv rfl <| .as rfl <| .z) fun a w S => wp_ret (Zh (Zk S (results1 S results62 (Rv.tmp rfl)) ?_)))))))))
   exact ⟨rfl, S.wd.below⟩
 | d + 1, p, lv, w0, g, cap, A, h, h0, h4, hp => by
   have ih := hash_indR T hT hl d
   have hp16 := half_lt hp
   obtain ⟨hp1, hp2⟩ := half_left hp
   have rw_1 : (2 : Int) * (p : Int) = ((2 * p : Nat) : Int) := rfl
   have rw_2 : ((2 * p : Nat) : Int) + 1 = ((2 * p + 1 : Nat) : Int) := rfl
   have ha := hashT_range T d (2 * p)
   have hb := hashT_range T d (2 * p + 1)
   have e : hashT T (d + 1) p = if hashT T d (2 * p) = 0 ∧ hashT T d (2 * p + 1) = 0 then 0 else mixL (hashT T d (2 * p)) (hashT T d (2 * p + 1)) := by rw [hashT]
   generalize hx : hashT T d (2 * p) = x at *
   generalize hy : hashT T d (2 * p + 1) = y at *
   have rw_l : IntKind.i64.wrap (lv + 1) = lv + 1 := by rw [IntKind.wrap_i64]; omega
   have rw_3 : IntKind.i64.wrap (2 * (p : Int)) = ((2 * p : Nat) : Int) := by rw [IntKind.wrap_i64]; omega
   have rw_4 : IntKind.i64.wrap (((2 * p : Nat) : Int) + 1) = ((2 * p + 1 : Nat) : Int) := by rw [IntKind.wrap_i64]; omega
   refine enter3 func62 rfl ntmps62 rfl fun a S => sg S (.ac rfl <| .z) fun a w S => wp_seq_k fun _ hK1 => sg S (.mv rfl <| .yy (Yf (by omega) (Yi (.t rfl) Ev.c)) rfl <| .z) fun a w S => Zf S (.t rfl) (wp_skip (Za (hK1 _ _ (wp_seq_k fun _ hK1 => wp_region_lit (run S (.mv rfl <| .mv rfl <| .ad (by unfold I64; omega) rfl <| .mv rfl <| .yy (Yy Ev.c (.t rfl) (fun _ => by unfold I64; omega)) rfl <| .z) fun a w S => ?_)))))
   rw [rw_1] at S
   refine Xy S (Zg call62 (.cons (.t rfl) (.cons (.t rfl) (.cons (.t rfl) .nil))) (fun _ w' W' => ih (2 * p) (lv + 1) w' g cap A (DocAt.old W' h) (by omega) (by omega) hp1)) rfl ?_
   clear S a w
   intro a w S
   rw [hx] at S
   refine run S (.as rfl <| .z) fun a w S => Zb (Za (hK1 _ _ (wp_seq_k fun _ hK1 => wp_region_lit (run S (.mv rfl <| .mv rfl <| .ad (by unfold I64; omega) rfl <| .mv rfl <| .yy (Yy Ev.c (.t rfl) (fun _ => by unfold I64; omega)) rfl <| .z) fun a w S => ?_))))
   rw [rw_1] at S
   refine run S (.ad (by unfold I64; omega) rfl <| .z) fun a w S => ?_
   rw [rw_2] at S
   refine Xy S (Zg call62 (.cons (.t rfl) (.cons (.t rfl) (.cons (.t rfl) .nil))) (fun _ w' W' => ih (2 * p + 1) (lv + 1) w' g cap A (DocAt.old W' h) (by omega) (by omega) hp2)) rfl ?_
   clear S a w
   intro a w S
   rw [hy] at S
   refine run S (.as rfl <| .z) fun a w S => Zb (Za (hK1 _ _ (wp_seq_k fun _ hK1 => wp_seq_k fun _ hK2 => wp_region_lit (run S (.mv rfl <| .yy (Yi (.t rfl) Ev.c) rfl <| .mv rfl <| .z) fun a w S => Yt S rfl rfl (Yr.ys (Ze (.t rfl))) rfl fun a w S => Yt S rfl rfl (Yr.ys (Yi (Ev.g rfl) Ev.c)) rfl fun a w S => run S (.yy (Xs (.t rfl) (Ev.g rfl) Ev.c) rfl <| .z) fun a w S => Zb (Za (hK2 _ _ ?_))))))
   refine Xj S (.t rfl) (fun h1 => ?_) (fun h1 => ?_)
   refine sg S (.ac rfl <| .z) fun a w S => wp_ret (Zh (Zk S (results1 S results62 (Rv.tmp rfl)) ?_))
   rotate_left
   refine wp_skip (Za (hK1 _ _ (sg S (.mv rfl <| .mv rfl <| .xx (Zg call94 (.cons (.t rfl) (.cons (.t rfl) .nil)) (fun hp w W => c94 _ _ _ (by assumption) (by assumption))) rfl <| .as rfl <| .z) fun a w S => wp_ret (Zk S (results1 S results62 (Rv.tmp rfl)) ?_))))
   rotate_left
   · exact ⟨by rw [e, if_pos (by simpa using h1)], S.wd.below⟩
   · exact ⟨by rw [e, if_neg (by simpa using h1)], S.wd.below⟩
theorem c62 (w0 : World) (g cap : Nat) (A : Option Addr) (T : List KH) (lv p : Int) (h : DocAt w0 g A cap T) (hT : KhOk T) (hl : T.length ≤ 4194304) (h1 : 0 ≤ lv ∧ lv ≤ 4) (h2 : 0 ≤ p ∧ p < 2 ^ lv.toNat) :
   Calls Tryz.prog 62 #[.pointer (some ⟨g, 0, none⟩), .int .i64 lv, .int .i64 p] w0 fun e w' => e = .returned (.int .u64 (hashT T (4 - lv).toNat p.toNat)) ∧ Bel w0.heap.size w0 w' := by
 have := hash_indR T hT hl (4 - lv).toNat p.toNat lv w0 g cap A h h1.1 (by omega) (place_of h1 h2)
 rwa [Int.toNat_of_nonneg h2.1] at this
end Go.Proofs.YtbijdmfilmecbaaGreat
namespace Go.Fw
open Go.RowKit
section
variable {w0 w w1 : World} {L : List Chunk} {b : Nat} {o : Obj} {bs : List Nat}
theorem freeze_blk (W : Wd w0 (.blk b o :: .ice w1 bs :: L) w) : Wd w0 (.ice w (b :: bs) :: L) w ∧ b ∉ bs ∧ w.heap[b]? = some o ∧ ∀ x ∈ bs, w.heap[x]? = w1.heap[x]? := by
 have W1 := Wd.freeze (cs := [.blk b o, .ice w1 bs]) W
 have e : [Chunk.blk b o, .ice w1 bs].flatMap Chunk.blocks = b :: bs := by simp [Chunk.blocks]
 rw [e] at W1
 refine ⟨W1, fun hb => ?_, (W.get (k := 0) rfl).2, fun x hx => (W.get (k := 1) rfl x hx).2.2⟩
 have := W.apart
 rw [List.pairwise_cons] at this
 exact this.1 (.ice w1 bs) (by simp) b rfl hb
theorem thaw_blk (W : Wd w0 (.ice w1 bs :: L) w) (hb : b ∈ bs) (ho : w1.heap[b]? = some o) : Wd w0 (.blk b o :: .ice w1 (bs.filter fun x => decide (x ≠ b)) :: L) w := by
 obtain ⟨h1, h2, h3⟩ := W
 rw [List.pairwise_cons] at h3
 have hi := h2 (.ice w1 bs) (by simp)
 refine ⟨h1, fun c hc => ?_, List.Pairwise.cons (fun c hc x hx hxc => ?_) (List.Pairwise.cons (fun c hc x hx hxc => ?_) h3.2)⟩
 · rcases List.mem_cons.1 hc with rfl | hc
   · obtain ⟨k1, k2, k3⟩ := hi b hb
     exact ⟨k1, k3.trans ho⟩
   · rcases List.mem_cons.1 hc with rfl | hc
     · exact fun x hx => hi x (List.mem_filter.1 hx).1
     · exact h2 c (by simp [hc])
 · have hx' : x = b := hx
   subst hx'
   rcases List.mem_cons.1 hc with rfl | hc
   · have := (List.mem_filter.1 hxc).2
     simp at this
   · exact h3.1 c hc x hb hxc
 · exact h3.1 c hc x (List.mem_filter.1 hx).1 hxc
end
theorem maps_upd {w w1 : World} {bs bs2 gs : List Nat} {T T' : List KH} {i b : Nat} {o' : Obj} (M : MapsIn w1 bs gs T) (hi : gs[i]? = some b) (h1 : ∀ j, j ≠ i → partT T' j = partT T j) (hC : MapC o' (partT T' i)) (hw : w.heap[b]? = some o')
   (hold : ∀ x ∈ bs, x ≠ b → w.heap[x]? = w1.heap[x]?) (hbs : ∀ x ∈ bs, x ∈ bs2) : MapsIn w bs2 gs T' := by
 refine ⟨M.len, M.nodup, fun j c hc => ?_⟩
 obtain ⟨k1, o, k2, k3⟩ := M.maps j c hc
 refine ⟨hbs c k1, ?_⟩
 by_cases e : j = i
 · subst e
   rw [hi] at hc
   obtain rfl : b = c := by simpa using hc
   exact ⟨o', hw, hC⟩
 · have hne : c ≠ b := fun h => by
     subst h
     have hjl : j < gs.length := (List.getElem?_eq_some_iff.1 hc).1
     exact e ((List.getElem?_inj hjl M.nodup).1 (hc.trans hi.symm))
   exact ⟨o, (hold c k1 hne).trans k2, by rw [h1 j e]; exact k3⟩
def setE (k : List UInt8) : Int := if nameB k = true then 0 else 6
def setK (k : List UInt8) (h : Int) (T : List KH) : List KH := if nameB k = true then setT k h T else T
theorem part_set_mem {k : List UInt8} {h : Int} {T : List KH} (hT : T.Pairwise ltK) : ∀ x, x ∈ partT (setT k h T) (placeK k) ↔ x = (k, h) ∨ (x ∈ partT T (placeK k) ∧ x.1 ≠ k) := fun x => by
 rw [Yz, Yz, Xw hT]
 constructor
 · rintro ⟨rfl | ⟨h1, h2⟩, h3⟩
   · exact .inl rfl
   · exact .inr ⟨⟨h1, h3⟩, h2⟩
 · rintro (rfl | ⟨⟨h1, h3⟩, h2⟩)
   · exact ⟨.inl rfl, rfl⟩
   · exact ⟨.inr ⟨h1, h2⟩, h3⟩
end Go.Fw
namespace Go.Proofs.YtbijdmfilmecbaaGreat
open Go.Fw Go.Proofs Go.RowKit Go.Proofs.Tryz
theorem inf146 : InfoT Tryz.prog 146 (.map none) 1 8 := by unfold InfoT; kernel_rfl
abbrev kv146 (x : List UInt8) : Value := .string (bs x)
abbrev vv146 (x : Int) : Value := .int .u64 x
theorem c55 (w0 : World) : Rets Tryz.prog 55 #[] w0 fun u L => ∃ g A cap gs w1 bs, u = .pointer (some ⟨g, 0, none⟩) ∧ L = treeP g A cap gs w1 bs [] ∧ MapsIn w1 bs gs [] := by
 unfold Go.Fw.Rets
 refine enter0 func55 rfl ntmps55 rfl fun a S => sg S (.ac rfl <| .z) fun a w S => wp_seq_k fun _ hK1 => wp_region_lit (run S (.yy (Yj (ps := []) (us := [_]) bld55 .nil rfl) rfl <| .z) fun a w S => Zi (Ym S (.t rfl) rfl fun g1 a w S => run S (.as rfl <| .z) fun a w S => Zb (Za (hK1 _ _ (wp_seq_k fun _ hK1 => sg S (.mc rfl <| .z) fun a w S => wp_block ?_)))))
 replace S := S.nil_ 146 1 encMp none
 replace S : St _ _ _ (.ice w0 [] :: _) _ _ := ⟨S.kn, S.wd.bare (fun b hb => by cases hb) (fun b hb => by cases hb)⟩
 refine Yg S [4] (X := Nat × Option Addr × Nat × List Nat × World × List Nat) (fun q => [(4, true, .int .i64 (q.1 : Int))]) (fun q => [.blk g1 (.cells #[.slice q.2.1 q.2.2.2.1.length q.2.2.1] 55), rowOf 146 1 encMp q.2.1 q.2.2.1 q.2.2.2.1, .ice q.2.2.2.2.1 q.2.2.2.2.2])
   (fun q => q.1 ≤ 16 ∧ q.2.2.2.1.length = q.1 ∧ q.2.2.2.1.Nodup ∧ ∀ b ∈ q.2.2.2.1, b ∈ q.2.2.2.2.2 ∧ q.2.2.2.2.1.heap[b]? = some (.map #[] 0)) (fun q => 16 - q.1) (0, none, 0, [], w0, []) ⟨by simp, rfl, List.nodup_nil, by simp⟩ ?_
 clear S
 rintro ⟨i, A, cap, gs, w1, bs⟩ a w ⟨hi, hgl, hgn, hgm⟩ S
 dsimp only at hi hgl hgn hgm S
 by_cases hlt : i < 16
 · refine sg S (.yy (Yk (by omega) (Yh (.t rfl) Ev.c)) rfl <| .z) fun a w S => wp_seq_k fun _ hK2 => Zd S (.t rfl) (wp_skip (Za (hK2 _ _ (wp_seq_k fun _ hK2 => wp_block (wp_region_lit (run S (.mv rfl <| .mv rfl <| .yy (Zy (.t rfl)) rfl <| .fa underlying55 sizeOf53 0 rfl rfl rfl <| .fa underlying53 sizeOf51 0 rfl rfl rfl <| .ld gt51 0 rfl rfl rfl <| .z) fun a w S => Zi (op_makeMap kv146 vv146 S rfl fun g2 a w S => Zi (Zp S underlying51 inf146 rfl rfl rfl (.t rfl) rfl rfl rfl fun g3 a w S => Zi (Yc S underlying51 inf146 rfl (k := 3) (j := 0) rfl (.t rfl) (.t rfl) rfl rfl rfl rfl (by first | omega | (simp only [List.length_append, List.length_cons, List.length_nil]; omega)) rfl rfl rfl fun A1 cap1 a w S => run S (.yy (Zy (.t rfl)) rfl <| .fa underlying55 sizeOf53 0 rfl rfl rfl <| .fa underlying53 sizeOf51 0 rfl rfl rfl <| .z) fun a w S => Zi (Xr S sizeOf51 (.t rfl) (.t rfl) (k := 2) rfl rfl (by simp) fun a w S => Zb (Zj (Za (hK2 _ _ (wp_region_lit (run S (.ad (by unfold I64; omega) rfl <| .mv rfl <| .z) fun a w S => Zb (Za ?_))))))))))))))))
   obtain ⟨W1, hnb, hg2, hold⟩ := freeze_blk (S.wd.picks (L' := [.blk g2 (mapK kv146 vv146 []), .ice w1 bs, .blk g1 (.cells #[.slice A1 (gs ++ [g2]).length cap1] 55), rowOf 146 1 encMp A1 cap1 (gs ++ [g2])]) (by repeat (first | exact Picks.nil | (refine Picks.rest ?_; (repeat (first | exact List.Sublist.refl _ | refine List.Sublist.cons_cons _ ?_ | refine List.Sublist.cons _ ?_)); done) | refine Picks.take 0 rfl ?_ | refine Picks.take 1 rfl ?_ | refine Picks.take 2 rfl ?_ | refine Picks.take 3 rfl ?_ | refine Picks.take 4 rfl ?_ | refine Picks.take 5 rfl ?_ | refine Picks.take 6 rfl ?_ | refine Picks.take 7 rfl ?_ | refine Picks.take 8 rfl ?_ | refine Picks.take 9 rfl ?_ | refine Picks.take 10 rfl ?_ | refine Picks.take 11 rfl ?_)))
   replace S := St.mk S.kn W1
   refine ⟨(i + 1, A1, cap1, gs ++ [g2], w, g2 :: bs), ⟨by dsimp only; omega, by dsimp only; rw [List.length_append, hgl]; rfl, ?_, fun b hb => ?_⟩, by dsimp only; omega, S.pk⟩
   · dsimp only
     rw [List.nodup_append]
     refine ⟨hgn, by simp, fun x hx y hy e => ?_⟩
     rw [List.mem_singleton] at hy
     rw [e, hy] at hx
     exact hnb (hgm g2 hx).1
   · dsimp only at hb ⊢
     rcases List.mem_append.1 hb with hb | hb
     · obtain ⟨h1, h2⟩ := hgm b hb
       exact ⟨List.mem_cons_of_mem _ h1, (hold b h1).trans h2⟩
     · rw [List.mem_singleton] at hb
       subst hb
       exact ⟨List.mem_cons_self .., hg2⟩
 obtain rfl : i = 16 := by omega
 refine sg S (.yy (Yf (by omega) (Yh (.t rfl) Ev.c)) rfl <| .z) fun a w S => wp_seq_k fun _ hK2 => Zf S (.t rfl) (wp_exit (Zc (Zc (Zs (Za (hK1 _ _ (sg S (.mv rfl <| .as rfl <| .z) fun a w S => wp_ret (Zk S (results1 S results55 (Rv.tmp rfl)) ?_))))))))
 rw [hgl] at S
 refine ⟨_, _, rfl, S.wd.pk, g1, A, cap, gs, w1, bs, rfl, rfl, hgl, hgn, fun j b hb => ?_⟩
 obtain ⟨h1, h2⟩ := hgm b (List.mem_of_getElem? hb)
 exact ⟨h1, _, h2, mapC_nil⟩
theorem c56 {w0 w w1 : World} {L : List Chunk} {g cap : Nat} {A : Option Addr} {gs bs : List Nat} {T : List KH} {k : List UInt8} {h : Int} (W : Wd w0 (treeP g A cap gs w1 bs L) w) (M : MapsIn w1 bs gs T) (hT : KhOk T) (hk : k.length ≤ 1048576) :
   RetsO Tryz.prog 56 #[.pointer (some ⟨g, 0, none⟩), .string (Fw.bs k), .int .u64 h] w0 w fun u L' => ∃ w2 bs2, u = .int .i64 (setE k) ∧ L' = treeP g A cap gs w2 bs2 L ∧ MapsIn w2 bs2 gs (setK k h T) := by
 have hgl := M.len
 cases hn : nameB k with
 | false =>
   have rw_n := hn
   have e1 : setE k = 6 := by unfold setE; rw [if_neg (by rw [hn]; simp)]
   have e2 : setK k h T = T := by unfold setK; rw [if_neg (by rw [hn]; simp)]
   unfold Go.Fw.RetsO
   refine enterW3 W func56 rfl ntmps56 rfl fun a S => sg S (.ac rfl <| .z) fun a w S => wp_seq_k fun _ hK1 => sg S (.mv rfl <| .xx (Zg call60 (.cons (.t rfl) .nil) (fun hp w W => c60 _ _ _ _ _ (by exact Wd.cell W (k := 0) rfl rfl))) rfl <| .nt rfl <| .z) fun a w S => Zf S (.t rfl) (wp_skip (Za (hK1 _ _ (wp_seq_k fun _ hK1 => wp_seq_k fun _ hK2 => wp_region_lit (run S (.mv rfl <| .xx (Zg call87 (.cons (.t rfl) .nil) (fun hp w W => c87 _ _ (by assumption))) rfl <| .z) fun a w S => ?_)))))
   rw [rw_n] at S
   refine run S (.nt rfl <| .z) fun a w S => Zb (Za (hK2 _ _ (Zd S (.t rfl) (sg S (.ac rfl <| .z) fun a w S => wp_ret (Zh (Zk S (results1 S results56 (Rv.tmp rfl)) ?_))))))
   rw [e1, e2]
   exact ⟨_, _, rfl, S.wd.pk, w1, bs, rfl, rfl, M⟩
 | true =>
   have rw_n := hn
   have hp := placeK_lt k
   have e1 : setE k = 0 := by unfold setE; rw [if_pos hn]
   have e2 : setK k h T = setT k h T := by unfold setK; rw [if_pos hn]
   obtain ⟨b, hb⟩ : ∃ b, gs[placeK k]? = some b := ⟨_, List.getElem?_eq_getElem (by omega)⟩
   obtain ⟨hbb, o, ho, hC⟩ := M.maps _ b hb
   obtain ⟨gr, rfl⟩ := W.row_at (k := 1) rfl (by have := (W.room (k := 1) rfl).1; omega)
   have halt_d := trivial
   unfold Go.Fw.RetsO
   refine enterW3 W func56 rfl ntmps56 rfl fun a S => sg S (.ac rfl <| .z) fun a w S => wp_seq_k fun _ hK1 => sg S (.mv rfl <| .xx (Zg call60 (.cons (.t rfl) .nil) (fun hp w W => c60 _ _ _ _ _ (by exact Wd.cell W (k := 0) rfl rfl))) rfl <| .nt rfl <| .z) fun a w S => Zf S (.t rfl) (wp_skip (Za (hK1 _ _ (wp_seq_k fun _ hK1 => wp_seq_k fun _ hK2 => wp_region_lit (run S (.mv rfl <| .xx (Zg call87 (.cons (.t rfl) .nil) (fun hp w W => c87 _ _ (by assumption))) rfl <| .z) fun a w S => ?_)))))
   rw [rw_n] at S
   refine run S (.nt rfl <| .z) fun a w S => Zb (Za (hK2 _ _ (Zf S (.t rfl) (wp_skip (Za (hK1 _ _ (wp_seq_k fun _ hK1 => ?_)))))))
   clear halt_d
   replace S := S.pull 2 rfl
   simp only [List.eraseIdx_cons_succ, List.eraseIdx_cons_zero] at S
   replace S := St.mk S.kn (thaw_blk S.wd hbb ho)
   have hold_r := trivial
   refine h_begin S (by kernel_rfl) [.blk g (.cells #[.slice (some ⟨gr, 0, none⟩) 16 cap] 55), rowOf 146 1 encMp (some ⟨gr, 0, none⟩) cap gs] ?_
   clear S
   intro a w S
   refine hy 0 S rfl (Ze (.t rfl)) rfl fun a w S => hy 1 S rfl (Zy (.t rfl)) rfl fun a w S => hy 2 S rfl (Zm (FieldT.mk underlying55 rfl sizeOf53 rfl) (.t rfl) (i' := 0) rfl) rfl fun a w S => hy 3 S rfl (Zm (FieldT.mk underlying53 rfl sizeOf51 rfl) (.t rfl) (i' := 0) rfl) rfl fun a w S => hy 4 S rfl (Yd ⟨isAgg51, sizeOf51⟩ (.t rfl) (k := 0) rfl rfl) rfl fun a w S => ?_
   refine hy 5 S rfl (Ze (.t rfl)) rfl fun a w S => hy 9 S rfl (Ze (.t rfl)) rfl fun a w S => hy 10 S rfl (Ze (.t rfl)) rfl fun a w S => h_q (i := 6) S (by repeat (first | exact List.Sublist.refl _ | exact List.nil_sublist _ | refine .cons_cons _ ?_ | refine .cons _ ?_)) rfl (by kernel_rfl) (Zg call88 (.cons (.t rfl) .nil) (fun hp w W => c88 _ _ (by omega))) rfl fun a w S => hy 7 S rfl (Yv underlying51 sizeOf146 (.t rfl) (.t rfl) (fun _ => by omega)) rfl fun a w S => ?_
   refine hy 8 S rfl (ys_ldW0 ⟨isAgg146, sizeOf146⟩ (.t rfl) (k := 1) rfl hb (fun _ => rfl) rfl) rfl fun a w S => h_m0 (i := 11) rfl (by kernel_rfl) (op_updS (partT (setT k h T) (placeK k)) S smT146 (.t rfl) (.t rfl) (.t rfl) (j := 0) rfl hC (part_set_mem hT.sorted) ?_)
   clear S
   rintro o' hC' a w S
   refine Yw S ?_
   refine Xg (by kernel_rfl) (Za (hK1 _ _ (sg S (.ac rfl <| .z) fun a w S => wp_ret (Zk S (results1 S results56 (Rv.tmp rfl)) ?_))))
   obtain ⟨W1, hnb, hg2, hold⟩ := freeze_blk (S.wd.picks (L' := .blk b o' :: .ice w1 (bs.filter fun x => decide (x ≠ b)) :: .blk g (.cells #[.slice (some ⟨gr, 0, none⟩) 16 cap] 55) :: rowOf 146 1 encMp (some ⟨gr, 0, none⟩) cap gs :: L) (by repeat (first | exact Picks.nil | (refine Picks.rest ?_; (repeat (first | exact List.Sublist.refl _ | refine List.Sublist.cons_cons _ ?_ | refine List.Sublist.cons _ ?_)); done) | refine Picks.take 0 rfl ?_ | refine Picks.take 1 rfl ?_ | refine Picks.take 2 rfl ?_ | refine Picks.take 3 rfl ?_ | refine Picks.take 4 rfl ?_ | refine Picks.take 5 rfl ?_ | refine Picks.take 6 rfl ?_ | refine Picks.take 7 rfl ?_ | refine Picks.take 8 rfl ?_ | refine Picks.take 9 rfl ?_ | refine Picks.take 10 rfl ?_ | refine Picks.take 11 rfl ?_)))
   rw [e1, e2]
   refine ⟨_, treeP g (some ⟨gr, 0, none⟩) cap gs w (b :: bs.filter fun x => decide (x ≠ b)) L, rfl, W1.pk, w, _, rfl, rfl, maps_upd M hb (fun j hj => part_set hT.sorted hj) hC' hg2 (fun x hx hne => hold x (List.mem_filter.2 ⟨hx, by simpa using hne⟩)) (fun x hx => ?_)⟩
   by_cases e : x = b
   · subst e; exact List.mem_cons_self ..
   · exact List.mem_cons_of_mem _ (List.mem_filter.2 ⟨hx, by simpa using e⟩)
end Go.Proofs.YtbijdmfilmecbaaGreat
namespace Go.Fw
open Go.RowKit
theorem setT_end {k : List UInt8} {h : Int} : ∀ {P : List KH}, (∀ y ∈ P, Op.bytesLess y.1 k = true) → setT k h P = P ++ [(k, h)]
 | [], _ => rfl
 | (y, u) :: r, hp => by
   have h1 : Op.bytesLess y k = true := hp (y, u) (by simp)
   rw [setT, if_neg (by rw [Xv h1]; simp), if_neg (less_ne h1).symm, setT_end fun z hz => hp z (by simp [hz])]
   rfl
theorem setT_lt {k : List UInt8} {h : Int} {x : KH} (hx : Op.bytesLess k x.1 = true) : ∀ {P : List KH}, (∀ y ∈ P, Op.bytesLess y.1 k = true) → setT k h (P ++ [x]) = P ++ [(k, h)] ++ [x]
 | [], _ => by
   obtain ⟨y, u⟩ := x
   show setT k h [(y, u)] = _
   rw [setT, if_pos hx]; rfl
 | (y, u) :: r, hp => by
   have h1 : Op.bytesLess y k = true := hp (y, u) (by simp)
   rw [List.cons_append, setT, if_neg (by rw [Xv h1]; simp), if_neg (less_ne h1).symm, setT_lt hx fun z hz => hp z (by simp [hz])]
   rfl
theorem setT_eq {k : List UInt8} {h u0 : Int} : ∀ {P : List KH}, (∀ y ∈ P, Op.bytesLess y.1 k = true) → setT k h (P ++ [(k, u0)]) = P ++ [(k, h)]
 | [], _ => by
   show setT k h [(k, u0)] = _
   rw [setT, if_neg (by rw [Wa]; simp), if_pos rfl]; rfl
 | (y, u) :: r, hp => by
   have h1 : Op.bytesLess y k = true := hp (y, u) (by simp)
   rw [List.cons_append, setT, if_neg (by rw [Xv h1]; simp), if_neg (less_ne h1).symm, setT_eq fun z hz => hp z (by simp [hz])]
   rfl
theorem setT_done {k : List UInt8} {h : Int} {x : KH} : ∀ {P : List KH}, (∃ y ∈ P, Op.bytesLess y.1 k = false) → setT k h (P ++ [x]) = setT k h P ++ [x]
 | [], h => by obtain ⟨y, hy, _⟩ := h; simp at hy
 | (y, u) :: r, hp => by
   rw [List.cons_append, setT, setT]
   by_cases h1 : Op.bytesLess k y = true
   · rw [if_pos h1, if_pos h1]; rfl
   · rw [if_neg h1, if_neg h1]
     by_cases h2 : k = y
     · rw [if_pos h2, if_pos h2]; rfl
     · rw [if_neg h2, if_neg h2, setT_done]
       · rfl
       · obtain ⟨z, hz, hz2⟩ := hp
         rcases List.mem_cons.1 hz with rfl | hz
         · rcases less_total h2 with h3 | h3
           · exact absurd h3 h1
           · rw [h3] at hz2; cases hz2
         · exact ⟨z, hz, hz2⟩
def outT (k : List UInt8) (h : Int) (P : List KH) (done : Bool) : List KH := if done then setT k h P else P
theorem outT_len (k : List UInt8) (h : Int) (T : List KH) (i : Nat) (b : Bool) : (outT k h (T.take i) b).length ≤ T.length + 1 := by
 unfold outT
 have : (T.take i).length ≤ T.length := by rw [List.length_take]; omega
 split
 · have := setT_len k h (T.take i); omega
 · omega
end Go.Fw
namespace Go.Proofs.YtbijdmfilmecbaaGreat
open Go.Fw Go.Proofs Go.RowKit Go.Proofs.Tryz
abbrev docP (g : Nat) (A : Option Addr) (cap : Nat) (T : List KH) (L : List Chunk) : List Chunk := .blk g (.cells #[.slice A T.length cap] 124) :: rowOf 77 3 Kh.enc A cap T :: L
theorem sl_m2 {w0 w : World} {L : List Chunk} {k g cap : Nat} {A : Option Addr} {T : List KH} (W : Wd w0 L w) (hk : L[k]? = some (.blk g (.cells #[.slice A T.length cap] 124)))
   (h2 : L[k + 1]? = some (rowOf 77 3 Kh.enc A cap T) := by rfl) : DocAt w g A cap T := ⟨Wd.cell W hk rfl, Sl.of_own W h2 Kh.enc_len⟩
theorem c57 {w0 w : World} {L : List Chunk} {g cap : Nat} {A : Option Addr} {T : List KH} {k : List UInt8} {h : Int} (W : Wd w0 (docP g A cap T L) w) (hT : KhOk T) (hl : T.length ≤ 2097152) (hk : k.length ≤ 1048576) :
   RetsO Tryz.prog 57 #[.pointer (some ⟨g, 0, none⟩), .string (Fw.bs k), .int .u64 h] w0 w fun u L' => ∃ A2 e2, u = .int .i64 (setE k) ∧ L' = docP g A2 e2 (setK k h T) L := by
 cases hn : nameB k with
 | false =>
   have rw_n := hn
   have e1 : setE k = 6 := by unfold setE; rw [if_neg (by rw [hn]; simp)]
   have e2 : setK k h T = T := by unfold setK; rw [if_neg (by rw [hn]; simp)]
   unfold Go.Fw.RetsO
   refine enterW3 W func57 rfl ntmps57 rfl fun a S => sg S (.ac rfl <| .z) fun a w S => wp_seq_k fun _ hK1 => wp_seq_k fun _ hK2 => wp_region_lit (run S (.mv rfl <| .xx (Zg call74 (.cons (.t rfl) .nil) (fun hp w W => c74 _ _ (by assumption))) rfl <| .z) fun a w S => ?_)
   rw [rw_n] at S
   refine run S (.nt rfl <| .z) fun a w S => Zb (Za (hK2 _ _ (Zd S (.t rfl) (sg S (.ac rfl <| .z) fun a w S => wp_ret (Zh (Zk S (results1 S results57 (Rv.tmp rfl)) ?_))))))
   rw [e1, e2]
   exact ⟨_, _, rfl, S.wd.pk, A, cap, rfl, rfl⟩
 | true =>
   have rw_n := hn
   have e1 : setE k = 0 := by unfold setE; rw [if_pos hn]
   have e2 : setK k h T = setT k h T := by unfold setK; rw [if_pos hn]
   have hs := hT.sorted
   have rw_e : #[Value.int .i64 0, .string (Fw.bs k), .int .u64 h] = (Kh.enc (k, h)).toArray := rfl
   unfold Go.Fw.RetsO
   refine enterW3 W func57 rfl ntmps57 rfl fun a S => sg S (.ac rfl <| .z) fun a w S => wp_seq_k fun _ hK1 => wp_seq_k fun _ hK2 => wp_region_lit (run S (.mv rfl <| .xx (Zg call74 (.cons (.t rfl) .nil) (fun hp w W => c74 _ _ (by assumption))) rfl <| .z) fun a w S => ?_)
   rw [rw_n] at S
   refine run S (.nt rfl <| .z) fun a w S => Zb (Za (hK2 _ _ (Zf S (.t rfl) (wp_skip (Za (hK1 _ _ (sg S (.ac rfl <| .z) fun a w S => sg S (.ac rfl <| .z) fun a w S => wp_seq_k fun _ hK1 => sg S (.ac rfl <| .z) fun a w S => wp_block ?_)))))))
   refine Yg (S.nil_ 77 3 Kh.enc none) [7, 8, 9] (X := Nat × Bool × Option Addr × Nat) (fun q => [(7, true, .slice q.2.2.1 (outT k h (T.take q.1) q.2.1).length q.2.2.2), (8, true, .bool q.2.1), (9, true, .int .i64 (q.1 : Int))])
     (fun q => rowOf 77 3 Kh.enc q.2.2.1 q.2.2.2 (outT k h (T.take q.1) q.2.1) :: docP g A cap T L)
     (fun q => q.1 ≤ T.length ∧ (if q.2.1 then ∃ y ∈ T.take q.1, Op.bytesLess y.1 k = false else ∀ y ∈ T.take q.1, Op.bytesLess y.1 k = true)) (fun q => T.length - q.1) (0, false, none, 0) ⟨Nat.zero_le _, by simp⟩ ?_
   clear S
   rintro ⟨i, done, B, cB⟩ a w ⟨hi, hd⟩ S
   dsimp only at hi hd S
   have hol := outT_len k h T i done
   by_cases hlt : i < T.length
   · obtain ⟨ga, rfl⟩ := S.wd.row_at (k := 2) rfl (by have := (S.wd.room (k := 2) rfl).1; omega)
     obtain ⟨x, hx⟩ : ∃ x, T[i]? = some x := ⟨_, List.getElem?_eq_getElem hlt⟩
     have rw_i : IntKind.i64.wrap ((i : Int) + 1) = ((i + 1 : Nat) : Int) := by rw [IntKind.wrap_i64]; omega
     have ht : T.take (i + 1) = T.take i ++ [x] := by rw [List.take_add_one, hx, Option.toList_some]
     cases done with
     | true =>
       rw [if_pos rfl] at hd
       have hne : x.1 ≠ k := by
         obtain ⟨y, hy, hy2⟩ := hd
         intro e
         have hyx : Op.bytesLess y.1 x.1 = true := by
           have h1 := hs.sublist (List.take_sublist (i + 1) T)
           rw [ht, List.pairwise_append] at h1
           exact h1.2.2 y hy x (by simp)
         rw [e, hy2] at hyx; cases hyx
       have hst : outT k h (T.take (i + 1)) true = outT k h (T.take i) true ++ [x] := by unfold outT; rw [ht, if_pos rfl, if_pos rfl, setT_done hd]
       have rw_x : decide (x.1 ≠ k) = true := decide_eq_true hne
       generalize outT k h (T.take i) true = O at *
       refine wp_seq_k fun _ hK2 => sg S (.mv rfl <| .mv rfl <| .yy (Zy (.t rfl)) rfl <| .fa underlying124 sizeOf22 0 rfl rfl rfl <| .ld gt22 1 rfl rfl rfl <| .ln underlying22 rfl <| .lt (by omega) rfl rfl <| .z) fun a w S => Zd S (.t rfl) (wp_skip (Za (hK2 _ _ (wp_seq_k fun _ hK2 => wp_block (wp_seq_k fun _ hK3 => sg S (.mv rfl <| .nt rfl <| .mv rfl <| .sk rfl rfl rfl <| .sk rfl rfl rfl <| .sk rfl rfl rfl <| .sk rfl rfl rfl <| .sk rfl rfl rfl <| .sk rfl rfl rfl <| .sk rfl rfl rfl <| .sk rfl rfl rfl <| .sk rfl rfl rfl <| .sk rfl rfl rfl <| .yy (Zn (.t rfl) Ev.c) rfl <| .z) fun a w S => Zf S (.t rfl) (wp_skip (Za (hK3 _ _ (wp_seq_k fun _ hK3 => wp_region_lit (run S (.mv rfl <| .yy (Zy (.t rfl)) rfl <| .fa underlying124 sizeOf22 0 rfl rfl rfl <| .ld gt22 1 rfl rfl rfl <| .mv rfl <| .ix underlying22 sizeOf77 (by omega) rfl rfl <| .yy (Zz (FieldT.mk underlying77 rfl sizeOf9 rfl) (.t rfl)) rfl <| .yy (Xu ⟨isAgg9, sizeOf9⟩ (.t rfl) (k := 2) rfl hx (fun _ => rfl) rfl) rfl <| .mv rfl <| .yy (ys_neqStr (.t rfl) (.t rfl)) rfl <| .z) fun a w S => ?_))))))))))
       rw [rw_x] at S
       refine Zb (Za (hK3 _ _ (Zd S (.t rfl) (wp_region_lit (run S (.mv rfl <| .mv rfl <| .yy (Zy (.t rfl)) rfl <| .fa underlying124 sizeOf22 0 rfl rfl rfl <| .ld gt22 1 rfl rfl rfl <| .mv rfl <| .ix underlying22 sizeOf77 (by omega) rfl rfl <| .yy (ys_ldWA ⟨isAgg77, sizeOf77⟩ (.t rfl) (k := 2) rfl hx (fun _ => rfl)) rfl <| .z) fun a w S => Zi (Zp S underlying22 inf77 rfl rfl rfl (.t rfl) rfl rfl rfl fun g1 a w S => Zi (Yc S underlying22 inf77 rfl (k := 1) (j := 0) rfl (.t rfl) (.t rfl) rfl rfl rfl rfl (by first | omega | (simp only [List.length_append, List.length_cons, List.length_nil]; omega)) rfl rfl rfl fun A1 cap1 a w S => run S (.as rfl <| .z) fun a w S => Zb (Zj (Za (hK2 _ _ (wp_region_lit (run S (.mv rfl <| .ad (by unfold I64; omega) rfl <| .as rfl <| .z) fun a w S => Zb (Za ?_)))))))))))))
       refine ⟨(i + 1, true, A1, cap1), ⟨by dsimp only; omega, ?_⟩, by dsimp only; omega, ?_⟩
       · dsimp only
         rw [if_pos rfl, ht]
         obtain ⟨y, hy, hy2⟩ := hd
         exact ⟨y, List.mem_append_left _ hy, hy2⟩
       · dsimp only; rw [hst]; exact S.pk
     | false =>
       rw [if_neg (by simp)] at hd
       rcases Classical.em (Op.bytesLess x.1 k = true) with hxk | hxk
       · have hst : outT k h (T.take (i + 1)) false = outT k h (T.take i) false ++ [x] := by unfold outT; rw [ht, if_neg (by simp), if_neg (by simp)]
         have rw_x : decide (x.1 ≠ k) = true := decide_eq_true (less_ne hxk)
         generalize outT k h (T.take i) false = O at *
         have rw_l := hxk
         refine wp_seq_k fun _ hK2 => sg S (.mv rfl <| .mv rfl <| .yy (Zy (.t rfl)) rfl <| .fa underlying124 sizeOf22 0 rfl rfl rfl <| .ld gt22 1 rfl rfl rfl <| .ln underlying22 rfl <| .lt (by omega) rfl rfl <| .z) fun a w S => Zd S (.t rfl) (wp_skip (Za (hK2 _ _ (wp_seq_k fun _ hK2 => wp_block (wp_seq_k fun _ hK3 => wp_seq_k fun _ hK4 => wp_region_lit (run S (.mv rfl <| .nt rfl <| .mv rfl <| .gy rfl rfl (Ze (.t rfl)) <| .gy rfl rfl (Ze (.t rfl)) <| .gy rfl rfl (Zy (.t rfl)) <| .gy rfl rfl (Zm (FieldT.mk underlying124 rfl sizeOf22 rfl) (.t rfl) (i' := 0) rfl) <| .gy rfl rfl (Yd ⟨isAgg22, sizeOf22⟩ (.t rfl) (k := 1) rfl rfl) <| .gy rfl rfl (Ze (.t rfl)) <| .gy rfl rfl (Yv underlying22 sizeOf77 (.t rfl) (.t rfl) (fun _ => by omega)) <| .gy rfl rfl (Zz (FieldT.mk underlying77 rfl sizeOf9 rfl) (.t rfl)) <| .gy rfl rfl (Xu ⟨isAgg9, sizeOf9⟩ (.t rfl) (k := 2) rfl hx (fun _ => rfl) rfl) <| .gy rfl rfl (ys_leqStr (.t rfl) (.t rfl)) <| .z) fun a w S => ?_))))))
         rw [rw_l] at S
         refine run S (.yy (Zr (.t rfl) (.t rfl)) rfl <| .z) fun a w S => Zb (Za (hK4 _ _ (Zf S (.t rfl) (wp_skip (Za (hK3 _ _ (wp_seq_k fun _ hK3 => wp_region_lit (run S (.mv rfl <| .yy (Zy (.t rfl)) rfl <| .fa underlying124 sizeOf22 0 rfl rfl rfl <| .ld gt22 1 rfl rfl rfl <| .mv rfl <| .ix underlying22 sizeOf77 (by omega) rfl rfl <| .yy (Zz (FieldT.mk underlying77 rfl sizeOf9 rfl) (.t rfl)) rfl <| .yy (Xu ⟨isAgg9, sizeOf9⟩ (.t rfl) (k := 2) rfl hx (fun _ => rfl) rfl) rfl <| .mv rfl <| .yy (ys_neqStr (.t rfl) (.t rfl)) rfl <| .z) fun a w S => ?_))))))))
         rw [rw_x] at S
         refine Zb (Za (hK3 _ _ (Zd S (.t rfl) (wp_region_lit (run S (.mv rfl <| .mv rfl <| .yy (Zy (.t rfl)) rfl <| .fa underlying124 sizeOf22 0 rfl rfl rfl <| .ld gt22 1 rfl rfl rfl <| .mv rfl <| .ix underlying22 sizeOf77 (by omega) rfl rfl <| .yy (ys_ldWA ⟨isAgg77, sizeOf77⟩ (.t rfl) (k := 2) rfl hx (fun _ => rfl)) rfl <| .z) fun a w S => Zi (Zp S underlying22 inf77 rfl rfl rfl (.t rfl) rfl rfl rfl fun g1 a w S => Zi (Yc S underlying22 inf77 rfl (k := 1) (j := 0) rfl (.t rfl) (.t rfl) rfl rfl rfl rfl (by first | omega | (simp only [List.length_append, List.length_cons, List.length_nil]; omega)) rfl rfl rfl fun A1 cap1 a w S => run S (.as rfl <| .z) fun a w S => Zb (Zj (Za (hK2 _ _ (wp_region_lit (run S (.mv rfl <| .ad (by unfold I64; omega) rfl <| .as rfl <| .z) fun a w S => Zb (Za ?_)))))))))))))
         refine ⟨(i + 1, false, A1, cap1), ⟨by dsimp only; omega, ?_⟩, by dsimp only; omega, ?_⟩
         · dsimp only
           rw [if_neg (by simp), ht]
           intro y hy
           rw [List.mem_append, List.mem_singleton] at hy
           rcases hy with hy | rfl
           · exact hd y hy
           · exact hxk
         · dsimp only; rw [hst]; exact S.pk
       · have hxk' : Op.bytesLess x.1 k = false := by simpa using hxk
         by_cases hke : x.1 = k
         · have hst : outT k h (T.take (i + 1)) true = outT k h (T.take i) false ++ [(k, h)] := by
             unfold outT
             rw [ht, if_pos rfl, if_neg (by simp)]
             obtain ⟨x1, x2⟩ := x
             dsimp only at hke
             subst hke
             exact setT_eq hd
           have rw_x : decide (x.1 ≠ k) = false := decide_eq_false (fun h => h hke)
           generalize outT k h (T.take i) false = O at *
           have rw_l := hxk'
           refine wp_seq_k fun _ hK2 => sg S (.mv rfl <| .mv rfl <| .yy (Zy (.t rfl)) rfl <| .fa underlying124 sizeOf22 0 rfl rfl rfl <| .ld gt22 1 rfl rfl rfl <| .ln underlying22 rfl <| .lt (by omega) rfl rfl <| .z) fun a w S => Zd S (.t rfl) (wp_skip (Za (hK2 _ _ (wp_seq_k fun _ hK2 => wp_block (wp_seq_k fun _ hK3 => wp_seq_k fun _ hK4 => wp_region_lit (run S (.mv rfl <| .nt rfl <| .mv rfl <| .gy rfl rfl (Ze (.t rfl)) <| .gy rfl rfl (Ze (.t rfl)) <| .gy rfl rfl (Zy (.t rfl)) <| .gy rfl rfl (Zm (FieldT.mk underlying124 rfl sizeOf22 rfl) (.t rfl) (i' := 0) rfl) <| .gy rfl rfl (Yd ⟨isAgg22, sizeOf22⟩ (.t rfl) (k := 1) rfl rfl) <| .gy rfl rfl (Ze (.t rfl)) <| .gy rfl rfl (Yv underlying22 sizeOf77 (.t rfl) (.t rfl) (fun _ => by omega)) <| .gy rfl rfl (Zz (FieldT.mk underlying77 rfl sizeOf9 rfl) (.t rfl)) <| .gy rfl rfl (Xu ⟨isAgg9, sizeOf9⟩ (.t rfl) (k := 2) rfl hx (fun _ => rfl) rfl) <| .gy rfl rfl (ys_leqStr (.t rfl) (.t rfl)) <| .z) fun a w S => ?_))))))
           rw [rw_l] at S
           refine run S (.yy (Zr (.t rfl) (.t rfl)) rfl <| .z) fun a w S => Zb (Za (hK4 _ _ (Zd S (.t rfl) (wp_seq_k fun _ hK4 => wp_region_lit (run S (.mv rfl <| .mv rfl <| .mv rfl <| .yy (Yj (ps := [(1, Go.Operand.tmp 37), (2, Go.Operand.tmp 38)]) (us := [_, _, _]) bld77 (.cons (.t rfl) (.cons (.t rfl) .nil)) rfl) rfl <| .z) fun a w S => ?_)))))
           rw [rw_e] at S
           refine Zi (Zp S underlying22 inf77 rfl rfl rfl (.t rfl) rfl rfl rfl fun g1 a w S => ?_)
           rw [rw_e] at S
           refine Zi (Yc S underlying22 inf77 rfl (k := 1) (j := 0) rfl (.t rfl) (.t rfl) rfl rfl rfl rfl (by first | omega | (simp only [List.length_append, List.length_cons, List.length_nil]; omega)) rfl rfl rfl fun A1 cap1 a w S => ?_)
           rw [rw_e] at S
           refine run S (.as rfl <| .z) fun a w S => ?_
           rw [rw_e] at S
           refine Zb ?_
           rw [rw_e] at S
           refine Za (hK4 _ _ ?_)
           rw [rw_e] at S
           refine wp_region_lit ?_
           rw [rw_e] at S
           refine run S (.ac rfl <| .z) fun a w S => ?_
           rw [rw_e] at S
           refine Zb ?_
           rw [rw_e] at S
           refine Za (hK3 _ _ ?_)
           rw [rw_e] at S
           refine wp_seq_k fun _ hK3 => ?_
           rw [rw_e] at S
           refine wp_region_lit ?_
           rw [rw_e] at S
           refine run S (.mv rfl <| .z) fun a w S => ?_
           rw [rw_e] at S
           refine run S (.yy (Zy (.t rfl)) rfl <| .z) fun a w S => ?_
           rw [rw_e] at S
           refine run S (.fa underlying124 sizeOf22 0 rfl rfl rfl <| .z) fun a w S => ?_
           rw [rw_e] at S
           refine run S (.ld gt22 2 rfl rfl rfl <| .z) fun a w S => ?_
           rw [rw_e] at S
           refine run S (.mv rfl <| .z) fun a w S => ?_
           rw [rw_e] at S
           refine run S (.ix underlying22 sizeOf77 (by omega) rfl rfl <| .z) fun a w S => ?_
           rw [rw_e] at S
           refine run S (.yy (Zz (FieldT.mk underlying77 rfl sizeOf9 rfl) (.t rfl)) rfl <| .z) fun a w S => ?_
           rw [rw_e] at S
           refine run S (.yy (Xu ⟨isAgg9, sizeOf9⟩ (.t rfl) (k := 3) rfl hx (fun _ => rfl) rfl) rfl <| .z) fun a w S => ?_
           rw [rw_e] at S
           refine run S (.mv rfl <| .z) fun a w S => ?_
           rw [rw_e] at S
           refine run S (.yy (ys_neqStr (.t rfl) (.t rfl)) rfl <| .z) fun a w S => ?_
           rw [rw_e] at S
           rw [rw_x] at S
           refine Zb ?_
           rw [rw_e] at S
           refine Za (hK3 _ _ ?_)
           rw [rw_e] at S
           refine Zf S (.t rfl) ?_
           rw [rw_e] at S
           refine wp_skip ?_
           rw [rw_e] at S
           refine Zj (Za (hK2 _ _ ?_))
           rw [rw_e] at S
           refine wp_region_lit ?_
           rw [rw_e] at S
           refine run S (.mv rfl <| .z) fun a w S => ?_
           rw [rw_e] at S
           refine run S (.ad (by unfold I64; omega) rfl <| .z) fun a w S => ?_
           rw [rw_e] at S
           refine run S (.as rfl <| .z) fun a w S => ?_
           rw [rw_e] at S
           refine Zb ?_
           rw [rw_e] at S
           refine Za ?_
           rw [rw_e] at S
           refine ⟨(i + 1, true, A1, cap1), ⟨by dsimp only; omega, ?_⟩, by dsimp only; omega, ?_⟩
           · dsimp only
             rw [if_pos rfl, ht]
             exact ⟨x, by simp, hxk'⟩
           · dsimp only; rw [hst]; exact S.pk
         · have hlt2 : Op.bytesLess k x.1 = true := (less_total (fun e => hke e.symm)).resolve_right hxk
           have hst : outT k h (T.take (i + 1)) true = outT k h (T.take i) false ++ [(k, h)] ++ [x] := by
             unfold outT
             rw [ht, if_pos rfl, if_neg (by simp), setT_lt hlt2 hd]
           have rw_x : decide (x.1 ≠ k) = true := decide_eq_true hke
           generalize outT k h (T.take i) false = O at *
           have rw_l := hxk'
           refine wp_seq_k fun _ hK2 => sg S (.mv rfl <| .mv rfl <| .yy (Zy (.t rfl)) rfl <| .fa underlying124 sizeOf22 0 rfl rfl rfl <| .ld gt22 1 rfl rfl rfl <| .ln underlying22 rfl <| .lt (by omega) rfl rfl <| .z) fun a w S => Zd S (.t rfl) (wp_skip (Za (hK2 _ _ (wp_seq_k fun _ hK2 => wp_block (wp_seq_k fun _ hK3 => wp_seq_k fun _ hK4 => wp_region_lit (run S (.mv rfl <| .nt rfl <| .mv rfl <| .gy rfl rfl (Ze (.t rfl)) <| .gy rfl rfl (Ze (.t rfl)) <| .gy rfl rfl (Zy (.t rfl)) <| .gy rfl rfl (Zm (FieldT.mk underlying124 rfl sizeOf22 rfl) (.t rfl) (i' := 0) rfl) <| .gy rfl rfl (Yd ⟨isAgg22, sizeOf22⟩ (.t rfl) (k := 1) rfl rfl) <| .gy rfl rfl (Ze (.t rfl)) <| .gy rfl rfl (Yv underlying22 sizeOf77 (.t rfl) (.t rfl) (fun _ => by omega)) <| .gy rfl rfl (Zz (FieldT.mk underlying77 rfl sizeOf9 rfl) (.t rfl)) <| .gy rfl rfl (Xu ⟨isAgg9, sizeOf9⟩ (.t rfl) (k := 2) rfl hx (fun _ => rfl) rfl) <| .gy rfl rfl (ys_leqStr (.t rfl) (.t rfl)) <| .z) fun a w S => ?_))))))
           rw [rw_l] at S
           refine run S (.yy (Zr (.t rfl) (.t rfl)) rfl <| .z) fun a w S => Zb (Za (hK4 _ _ (Zd S (.t rfl) (wp_seq_k fun _ hK4 => wp_region_lit (run S (.mv rfl <| .mv rfl <| .mv rfl <| .yy (Yj (ps := [(1, Go.Operand.tmp 37), (2, Go.Operand.tmp 38)]) (us := [_, _, _]) bld77 (.cons (.t rfl) (.cons (.t rfl) .nil)) rfl) rfl <| .z) fun a w S => ?_)))))
           rw [rw_e] at S
           refine Zi (Zp S underlying22 inf77 rfl rfl rfl (.t rfl) rfl rfl rfl fun g1 a w S => ?_)
           rw [rw_e] at S
           refine Zi (Yc S underlying22 inf77 rfl (k := 1) (j := 0) rfl (.t rfl) (.t rfl) rfl rfl rfl rfl (by first | omega | (simp only [List.length_append, List.length_cons, List.length_nil]; omega)) rfl rfl rfl fun A1 cap1 a w S => ?_)
           rw [rw_e] at S
           refine run S (.as rfl <| .z) fun a w S => ?_
           rw [rw_e] at S
           refine Zb ?_
           rw [rw_e] at S
           refine Za (hK4 _ _ ?_)
           rw [rw_e] at S
           refine wp_region_lit ?_
           rw [rw_e] at S
           refine run S (.ac rfl <| .z) fun a w S => ?_
           rw [rw_e] at S
           refine Zb ?_
           rw [rw_e] at S
           refine Za (hK3 _ _ ?_)
           rw [rw_e] at S
           refine wp_seq_k fun _ hK3 => ?_
           rw [rw_e] at S
           refine wp_region_lit ?_
           rw [rw_e] at S
           refine run S (.mv rfl <| .z) fun a w S => ?_
           rw [rw_e] at S
           refine run S (.yy (Zy (.t rfl)) rfl <| .z) fun a w S => ?_
           rw [rw_e] at S
           refine run S (.fa underlying124 sizeOf22 0 rfl rfl rfl <| .z) fun a w S => ?_
           rw [rw_e] at S
           refine run S (.ld gt22 2 rfl rfl rfl <| .z) fun a w S => ?_
           rw [rw_e] at S
           refine run S (.mv rfl <| .z) fun a w S => ?_
           rw [rw_e] at S
           refine run S (.ix underlying22 sizeOf77 (by omega) rfl rfl <| .z) fun a w S => ?_
           rw [rw_e] at S
           refine run S (.yy (Zz (FieldT.mk underlying77 rfl sizeOf9 rfl) (.t rfl)) rfl <| .z) fun a w S => ?_
           rw [rw_e] at S
           refine run S (.yy (Xu ⟨isAgg9, sizeOf9⟩ (.t rfl) (k := 3) rfl hx (fun _ => rfl) rfl) rfl <| .z) fun a w S => ?_
           rw [rw_e] at S
           refine run S (.mv rfl <| .z) fun a w S => ?_
           rw [rw_e] at S
           refine run S (.yy (ys_neqStr (.t rfl) (.t rfl)) rfl <| .z) fun a w S => ?_
           rw [rw_e] at S
           rw [rw_x] at S
           refine Zb ?_
           rw [rw_e] at S
           refine Za (hK3 _ _ ?_)
           rw [rw_e] at S
           refine Zd S (.t rfl) ?_
           rw [rw_e] at S
           refine wp_region_lit ?_
           rw [rw_e] at S
           refine run S (.mv rfl <| .z) fun a w S => ?_
           rw [rw_e] at S
           refine run S (.mv rfl <| .z) fun a w S => ?_
           rw [rw_e] at S
           refine run S (.yy (Zy (.t rfl)) rfl <| .z) fun a w S => ?_
           rw [rw_e] at S
           refine run S (.fa underlying124 sizeOf22 0 rfl rfl rfl <| .z) fun a w S => ?_
           rw [rw_e] at S
           refine run S (.ld gt22 2 rfl rfl rfl <| .z) fun a w S => ?_
           rw [rw_e] at S
           refine run S (.mv rfl <| .z) fun a w S => ?_
           rw [rw_e] at S
           refine run S (.ix underlying22 sizeOf77 (by omega) rfl rfl <| .z) fun a w S => ?_
           rw [rw_e] at S
           refine run S (.yy (ys_ldWA ⟨isAgg77, sizeOf77⟩ (.t rfl) (k := 3) rfl hx (fun _ => rfl)) rfl <| .z) fun a w S => ?_
           rw [rw_e] at S
           refine Zi (Zp S underlying22 inf77 rfl rfl rfl (.t rfl) rfl rfl rfl fun g2 a w S => ?_)
           rw [rw_e] at S
           refine Zi (Yc S underlying22 inf77 rfl (k := 2) (j := 0) rfl (.t rfl) (.t rfl) rfl rfl rfl rfl (by first | omega | (simp only [List.length_append, List.length_cons, List.length_nil]; omega)) rfl rfl rfl fun A2 cap2 a w S => ?_)
           rw [rw_e] at S
           refine run S (.as rfl <| .z) fun a w S => ?_
           rw [rw_e] at S
           refine Zb ?_
           rw [rw_e] at S
           refine Zj (Za (hK2 _ _ ?_))
           rw [rw_e] at S
           refine wp_region_lit ?_
           rw [rw_e] at S
           refine run S (.mv rfl <| .z) fun a w S => ?_
           rw [rw_e] at S
           refine run S (.ad (by unfold I64; omega) rfl <| .z) fun a w S => ?_
           rw [rw_e] at S
           refine run S (.as rfl <| .z) fun a w S => ?_
           rw [rw_e] at S
           refine Zb ?_
           rw [rw_e] at S
           refine Za ?_
           rw [rw_e] at S
           refine ⟨(i + 1, true, A2, cap2), ⟨by dsimp only; omega, ?_⟩, by dsimp only; omega, ?_⟩
           · dsimp only
             rw [if_pos rfl, ht]
             exact ⟨x, by simp, hxk'⟩
           · dsimp only; rw [hst]; exact S.pk
   obtain rfl : i = T.length := by omega
   rw [List.take_length] at S hd hol
   cases done with
   | true =>
     have hst : outT k h T true = setT k h T := by unfold outT; rw [if_pos rfl]
     rw [hst] at S
     refine wp_seq_k fun _ hK2 => sg S (.mv rfl <| .mv rfl <| .yy (Zy (.t rfl)) rfl <| .fa underlying124 sizeOf22 0 rfl rfl rfl <| .ld gt22 1 rfl rfl rfl <| .ln underlying22 rfl <| .ge (by omega) rfl rfl <| .z) fun a w S => Zf S (.t rfl) (wp_exit (Zc (Zc (Zs (Za (hK1 _ _ (wp_seq_k fun _ hK1 => sg S (.mv rfl <| .nt rfl <| .z) fun a w S => Zf S (.t rfl) (wp_skip (Za (hK1 _ _ (wp_seq_k fun _ hK1 => wp_region_lit (run S (.mv rfl <| .mv rfl <| .yy (Zy (.t rfl)) rfl <| .fa underlying124 sizeOf22 0 rfl rfl rfl <| .z) fun a w S => Zi (Xr S sizeOf22 (.t rfl) (.t rfl) (k := 1) rfl rfl (by simp) fun a w S => Zb (Za (hK1 _ _ (sg S (.ac rfl <| .z) fun a w S => wp_ret (Zk S (results1 S results57 (Rv.tmp rfl)) ?_)))))))))))))))))
     rw [e1, e2]
     exact ⟨_, docP g B cB (setT k h T) L, rfl, S.wd.pk, _, _, rfl, rfl⟩
   | false =>
     rw [if_neg (by simp)] at hd
     have hst : setT k h T = outT k h T false ++ [(k, h)] := by unfold outT; rw [if_neg (by simp), setT_end hd]
     generalize outT k h T false = O at *
     refine wp_seq_k fun _ hK2 => sg S (.mv rfl <| .mv rfl <| .yy (Zy (.t rfl)) rfl <| .fa underlying124 sizeOf22 0 rfl rfl rfl <| .ld gt22 1 rfl rfl rfl <| .ln underlying22 rfl <| .ge (by omega) rfl rfl <| .z) fun a w S => Zf S (.t rfl) (wp_exit (Zc (Zc (Zs (Za (hK1 _ _ (wp_seq_k fun _ hK1 => sg S (.mv rfl <| .nt rfl <| .z) fun a w S => Zd S (.t rfl) (wp_region_lit (run S (.mv rfl <| .mv rfl <| .mv rfl <| .yy (Yj (ps := [(1, Go.Operand.tmp 65), (2, Go.Operand.tmp 66)]) (us := [_, _, _]) bld77 (.cons (.t rfl) (.cons (.t rfl) .nil)) rfl) rfl <| .z) fun a w S => ?_)))))))))
     rw [rw_e] at S
     refine Zi (Zp S underlying22 inf77 rfl rfl rfl (.t rfl) rfl rfl rfl fun g1 a w S => ?_)
     rw [rw_e] at S
     refine Zi (Yc S underlying22 inf77 rfl (k := 1) (j := 0) rfl (.t rfl) (.t rfl) rfl rfl rfl rfl (by first | omega | (simp only [List.length_append, List.length_cons, List.length_nil]; omega)) rfl rfl rfl fun A1 cap1 a w S => ?_)
     rw [rw_e] at S
     refine run S (.as rfl <| .z) fun a w S => ?_
     rw [rw_e] at S
     refine Zb ?_
     rw [rw_e] at S
     refine Za (hK1 _ _ ?_)
     rw [rw_e] at S
     refine wp_seq_k fun _ hK1 => ?_
     rw [rw_e] at S
     refine wp_region_lit ?_
     rw [rw_e] at S
     refine run S (.mv rfl <| .z) fun a w S => ?_
     rw [rw_e] at S
     refine run S (.mv rfl <| .z) fun a w S => ?_
     rw [rw_e] at S
     refine run S (.yy (Zy (.t rfl)) rfl <| .z) fun a w S => ?_
     rw [rw_e] at S
     refine run S (.fa underlying124 sizeOf22 0 rfl rfl rfl <| .z) fun a w S => ?_
     rw [rw_e] at S
     refine Zi (Xr S sizeOf22 (.t rfl) (.t rfl) (k := 2) rfl rfl (by simp) fun a w S => ?_)
     rw [rw_e] at S
     refine Zb ?_
     rw [rw_e] at S
     refine Za (hK1 _ _ ?_)
     rw [rw_e] at S
     refine wp_seq_k fun _ hK1 => ?_
     rw [rw_e] at S
     refine wp_region_lit ?_
     rw [rw_e] at S
     refine run S (.ac rfl <| .z) fun a w S => ?_
     rw [rw_e] at S
     refine Zb ?_
     rw [rw_e] at S
     refine Za (hK1 _ _ ?_)
     rw [rw_e] at S
     refine wp_ret ?_
     rw [rw_e] at S
     refine Zk S (results1 S results57 (Rv.tmp rfl)) ?_
     rw [rw_e] at S
     rw [e1, e2, hst]
     exact ⟨_, docP g A1 cap1 (O ++ [(k, h)]) L, rfl, S.wd.pk, _, _, rfl, rfl⟩
end Go.Proofs.YtbijdmfilmecbaaGreat
namespace Go.Fw
def idxW {α : Type} (p : α → Bool) : Nat → List α → Int
 | _, [] => -1
 | k, y :: r => if p y then (k : Int) else idxW p (k + 1) r
theorem idxW_any {α : Type} (p : α → Bool) : ∀ (l : List α) (k : Nat), decide (0 ≤ idxW p k l) = l.any p
 | [], k => rfl
 | y :: r, k => by
   unfold idxW
   by_cases h : p y = true
   · rw [if_pos h, List.any_cons, h, Bool.true_or]
     exact decide_eq_true (by omega)
   · rw [if_neg h, idxW_any p r (k + 1), List.any_cons, Bool.eq_false_iff.2 h, Bool.false_or]
section
variable {α : Type} [DecidableEq α]
def idxG (x : α) : Nat → List α → Int
 | _, [] => -1
 | k, y :: r => if y = x then (k : Int) else idxG x (k + 1) r
theorem idxG_mem (x : α) : ∀ (l : List α) (k : Nat), decide (0 ≤ idxG x k l) = decide (x ∈ l)
 | [], k => by simp [idxG]
 | y :: r, k => by
   unfold idxG
   by_cases h : y = x
   · subst h; simp
   · rw [if_neg h, idxG_mem x r (k + 1)]
     have h' : ¬ x = y := fun e => h e.symm
     simp [h']
end
theorem sm_iff {x y : Sm} : x = y ↔ x.place = y.place ∧ x.key = y.key ∧ x.hash = y.hash := by
 obtain ⟨a, b, c⟩ := x
 obtain ⟨a', b', c'⟩ := y
 simp
end Go.Fw
namespace Go.Proofs.YtbijdmfilmecbaaGreat
open Go.Fw Go.Proofs Go.RowKit Go.Proofs.Tryz
def ReadsI (w0 : World) (f : FuncId) (cs : List Value) (l : List Int) (p : Int → Bool) : Prop := ∀ w', Wd w0 [] w' → ∀ x ∈ l, Calls Tryz.prog f ([Value.int .i64 x] ++ cs).toArray w' fun e w'' => e = .returned (.bool (p x)) ∧ Bel w'.heap.size w' w''
theorem c35 (w0 : World) (v v' : Value) (l l' : List Sm) (h : Sl Sm.enc 3 w0 w0.heap.size v l) (h' : Sl Sm.enc 3 w0 w0.heap.size v' l') :
   Calls Tryz.prog 35 #[v, v'] w0 fun e w' => e = .returned (.bool (decide (l = l'))) ∧ Bel w0.heap.size w0 w' := by
 obtain ⟨A, cap, rfl, hl, hcap, hA⟩ := h
 obtain ⟨A', cap', rfl, hl', hcap', hA'⟩ := h'
 refine enter2 func35 rfl ntmps35 rfl fun a S => sg S (.ac rfl <| .z) fun a w S => wp_seq_k fun _ hK1 => sg S (.mv rfl <| .ln underlying22 rfl <| .mv rfl <| .ln underlying22 rfl <| .yy (Zu (.t rfl) (.t rfl)) rfl <| .z) fun a w S => ?_
 refine st_if S (.t rfl) (fun h1 => ?_) (fun h1 => ?_)
 refine sg S (.ac rfl <| .z) fun a w S => wp_ret (Zh (Zk S (results1 S results35 (Rv.tmp rfl)) ?_))
 rotate_left
 refine wp_skip (Za (hK1 _ _ (wp_seq_k fun _ hK1 => sg S (.mv rfl <| .ln underlying22 rfl <| .mc rfl <| .z) fun a w S => wp_block ?_)))
 rotate_left
 · refine ⟨?_, S.wd.below⟩
   rw [decide_eq_false (fun e => h1 (by rw [e]))]
 · refine st_lpK S (X := Nat) (fun k => [(13, true, .int .i64 (k : Int))]) (fun _ L => L) (fun k => k ≤ l.length ∧ l.take k = l'.take k) (fun k => l.length - k) 0 ⟨Nat.zero_le _, rfl⟩ ?_
   clear S
   intro k a w ⟨hk, hno⟩ S
   by_cases hlt : k < l.length
   · obtain ⟨g, o, m, rfl, hmm, hd, hc⟩ := Zv hA hlt
     obtain ⟨g', o', m', rfl, hmm', hd', hc'⟩ := Zv hA' (show k < l'.length by omega)
     clear hA hA'
     refine sg S (.lt (by omega) rfl rfl <| .z) fun a w S => wp_seq_k fun _ hK2 => Zd S (.t rfl) (wp_skip (Za (hK2 _ _ (wp_seq_k fun _ hK2 => wp_block (sg S (.mv rfl <| .as rfl <| .z) fun a w S => wp_seq_k fun _ hK3 => Xe S (by kernel_rfl) (by kernel_rfl) fun a S => qrun S (.mv rfl <| .mv rfl <| .ix underlying22 sizeOf77 (by omega) rfl rfl <| .yy (Ye ⟨isAgg77, sizeOf77⟩ (.t rfl) (vs := [_, _, _]) rfl (fun _ => hc)) rfl <| .mv rfl <| .mv rfl <| .ix underlying22 sizeOf77 (by omega) rfl rfl <| .yy (Ye ⟨isAgg77, sizeOf77⟩ (.t rfl) (vs := [_, _, _]) rfl (fun _ => hc')) rfl <| .yy (ys_neA (.t rfl) (.t rfl) eq77) rfl <| .z) fun a S => ?_)))))
     (refine q_nil ?_; intro w W; replace S := St.mk S W; clear W)
     refine Za (hK3 _ _ ?_)
     refine Xj S (.t rfl) (fun h2 => ?_) (fun h2 => ?_)
     refine sg S (.ac rfl <| .z) fun a w S => wp_ret (Yq (Zh (Zh (Yq (Zh (Zk S (results1 S results35 (Rv.tmp rfl)) ?_))))))
     rotate_left
     refine wp_skip (Zj (Za (hK2 _ _ (wp_region_lit (run S (.ad (by unfold I64; omega) rfl <| .mv rfl <| .z) fun a w S => Zb (Za ?_))))))
     rotate_left
     · refine ⟨?_, S.wd.below⟩
       have hne : ¬ m = m' := fun e => by
         have h3 := h2
         rw [sm_iff] at e
         simp at h3
         simp_all
       rw [at_ne hmm hmm' hne]
     · have heq : m = m' := by
         have h3 := h2
         rw [sm_iff]
         simpa using h3
       exact ⟨k + 1, ⟨by omega, at_step hno hmm hmm' heq⟩, by omega, S.wk⟩
   · refine sg S (.ge (by omega) rfl rfl <| .z) fun a w S => wp_seq_k fun _ hK2 => Zf S (.t rfl) (wp_exit (Zc (Zc (Zs (Za (hK1 _ _ (sg S (.ac rfl <| .z) fun a w S => wp_ret (Zk S (results1 S results35 (Rv.tmp rfl)) ?_))))))))
     refine ⟨?_, S.wd.below⟩
     rw [decide_eq_true]
     rw [List.take_of_length_le (by omega), List.take_of_length_le (by omega)] at hno
     exact hno
theorem c27 (w0 : World) (v1 : Value) (l : List Sm) (h : Sl Sm.enc 3 w0 w0.heap.size v1 l) (hn : l.length ≤ 4194304) :
   Rets Tryz.prog 27 #[v1] w0 fun v L => ∃ A c, v = .slice A l.length c ∧ L = [rowOf 77 3 Sm.enc A c l] := by
 have h0 := h
 obtain ⟨A, cap, rfl, hl, hcap, hA⟩ := h
 unfold Go.Fw.Rets
 refine enter1 func27 rfl ntmps27 rfl fun a S => sg S (.ac rfl <| .z) fun a w S => wp_seq_k fun _ hK1 => sg S (.mv rfl <| .yy (ys_sNil underlying22 (.t rfl) Ev.c) rfl <| .z) fun a w S => ?_
 refine Xj S (.t rfl) (fun h1 => ?_) (fun h1 => ?_)
 refine sg S (.ac rfl <| .z) fun a w S => wp_ret (Zh (Zk S (results1 S results27 (Rv.tmp rfl)) ?_))
 rotate_left
 refine wp_skip (Za (hK1 _ _ (wp_seq_k fun _ hK1 => wp_region_lit (Zi (op_bslice0 S underlying22 sizeOf77 rfl fun g1 a w S => run S (.mv rfl <| .z) fun a w S => Zi (Xi _ (S.nil_ 77 _ Go.Fw.Sm.enc _) underlying22 underlying22 (.inr ⟨_, rfl⟩) inf77 rfl (k := 0) rfl (.t rfl) (.t rfl) (Src.sl (Sl.old S.wd h0) (by decide) Go.Fw.Sm.enc_len Go.Fw.Sm.enc_one) (by first | omega | (simp only [List.length_append, List.length_cons, List.length_nil]; omega) | (simp; omega)) rfl rfl rfl fun A1 cap1 a w S => ?_))))))
 simp only [List.nil_append] at S
 refine run S (.as rfl <| .z) fun a w S => Zb (Za (hK1 _ _ (wp_ret (Zk S (results1 S results27 (Rv.tmp rfl)) ?_))))
 rotate_left
 · have hnil : l = [] := by
     refine List.eq_nil_of_length_eq_zero (Decidable.byContradiction fun hne => ?_)
     obtain ⟨g, o, rfl, _⟩ := hA (by omega)
     cases h1
   subst hnil
   exact ⟨_, _, rfl, (S.nil_ 77 3 Sm.enc none).wd.sub (by repeat (first | exact List.Sublist.refl _ | exact List.nil_sublist _ | refine .cons_cons _ ?_ | refine .cons _ ?_)), none, 0, rfl, rfl⟩
 · try simp only [List.nil_append] at S ⊢
   exact ⟨_, _, rfl, S.wd.sub (by repeat (first | exact List.Sublist.refl _ | exact List.nil_sublist _ | refine .cons_cons _ ?_ | refine .cons _ ?_)), _, _, rfl, rfl⟩
theorem c119 (w0 : World) (v1 : Value) (l : List Int) (x : Int) (h : Sl encI 1 w0 w0.heap.size v1 l) :
   Calls Tryz.prog 119 #[v1, .int .i64 x] w0 fun e w' => e = .returned (.int .i64 (idxG x 0 l)) ∧ Bel w0.heap.size w0 w' := by
 obtain ⟨A, cap, rfl, hl, hcap, hA⟩ := h
 refine enter2 func119 rfl ntmps119 rfl fun a S => sg S (.ac rfl <| .z) fun a w S => wp_seq_k fun _ hK1 => sg S (.mv rfl <| .ln underlying82 rfl <| .mc rfl <| .z) fun a w S => wp_block ?_
 refine st_lpK S (X := Nat) (fun k => [(8, true, .int .i64 (k : Int))]) (fun _ L => L) (fun k => k ≤ l.length ∧ idxG x k (l.drop k) = idxG x 0 l) (fun k => l.length - k) 0 ⟨Nat.zero_le _, rfl⟩ ?_
 clear S
 intro k a w ⟨hk, hno⟩ S
 by_cases hlt : k < l.length
 · obtain ⟨g, o, m, rfl, hm, hd, hc⟩ := Zv hA hlt
   clear hA
   refine sg S (.lt (by omega) rfl rfl <| .z) fun a w S => wp_seq_k fun _ hK2 => Zd S (.t rfl) (wp_skip (Za (hK2 _ _ (wp_seq_k fun _ hK2 => wp_block (sg S (.mv rfl <| .as rfl <| .z) fun a w S => sg S (.mv rfl <| .mv rfl <| .mv rfl <| .ix underlying82 sizeOf3 (by omega) rfl rfl <| .yy (Zw ⟨isAgg3, sizeOf3⟩ (.t rfl) (fun _ => hc 0 _ rfl)) rfl <| .yy (Yi (.t rfl) (.t rfl)) rfl <| .z) fun a w S => ?_)))))
   refine st_if S (.t rfl) (fun h1 => ?_) (fun h1 => ?_)
   refine sg S (.mv rfl <| .as rfl <| .z) fun a w S => wp_ret (Yq (Zh (Zh (Yq (Zh (Zk S (results1 S results119 (Rv.tmp rfl)) ?_))))))
   rotate_left
   refine wp_skip (Zj (Za (hK2 _ _ (wp_region_lit (run S (.ad (by unfold I64; omega) rfl <| .mv rfl <| .z) fun a w S => Zb (Za ?_))))))
   rotate_left
   · refine ⟨?_, S.wd.below⟩
     rw [← hno, hd, idxG, if_pos h1.symm]
   · rw [hd, idxG, if_neg (fun e => h1 e.symm)] at hno
     exact ⟨k + 1, ⟨by omega, hno⟩, by omega, S.wk⟩
 · refine sg S (.ge (by omega) rfl rfl <| .z) fun a w S => wp_seq_k fun _ hK2 => Zf S (.t rfl) (wp_exit (Zc (Zc (Zs (Za (hK1 _ _ (sg S (.ac rfl <| .z) fun a w S => wp_ret (Zk S (results1 S results119 (Rv.tmp rfl)) ?_))))))))
   refine ⟨?_, S.wd.below⟩
   rw [← hno, List.drop_eq_nil_of_le (by omega)]; rfl
theorem c98 (w0 : World) (v1 : Value) (l : List Int) (x : Int) (h : Sl encI 1 w0 w0.heap.size v1 l) :
   Calls Tryz.prog 98 #[v1, .int .i64 x] w0 fun e w' => e = .returned (.bool (decide (x ∈ l))) ∧ Bel w0.heap.size w0 w' := by
 refine enter2 func98 rfl ntmps98 rfl fun a S => sg S (.ac rfl <| .z) fun a w S => sg S (.mv rfl <| .mv rfl <| .xx (Zg call119 (.cons (.t rfl) (.cons (.t rfl) .nil)) (fun hp w W => c119 _ _ _ _ (by exact .old W (by assumption)))) rfl <| .yy (Yp (.t rfl) Ev.c) rfl <| .as rfl <| .z) fun a w S => wp_ret (Zk S (results1 S results98 (Rv.tmp rfl)) ?_)
 refine ⟨?_, S.wd.below⟩
 rw [idxG_mem]
theorem x117 (w0 : World) (v : Value) (l : List Int) (f : FuncId) (cs : List Value) (p : Int → Bool) (hf : ∀ args w, (callFunc f args).run Tryz.prog w = .ok (.enter f args) w) (hr : ReadsI w0 f cs l p) (h : Sl encI 1 w0 w0.heap.size v l) :
   Calls Tryz.prog 117 #[v, .func (.func f) #[] cs.toArray] w0 fun e w' => e = .returned (.int .i64 (idxW p 0 l)) ∧ Bel w0.heap.size w0 w' := by
 obtain ⟨A, cap, rfl, hl, hcap, hA⟩ := h
 refine enter2 func117 rfl ntmps117 rfl fun a S => sg S (.ac rfl <| .z) fun a w S => wp_seq_k fun _ hK1 => sg S (.mv rfl <| .ln underlying82 rfl <| .mc rfl <| .z) fun a w S => wp_block ?_
 refine Yg S [4, 5, 8] (X := Nat) (fun k => [(8, true, .int .i64 (k : Int))]) (fun _ => []) (fun k => k ≤ l.length ∧ idxW p k (l.drop k) = idxW p 0 l) (fun k => l.length - k) 0 ⟨Nat.zero_le _, rfl⟩ ?_
 clear S
 intro k a w ⟨hk, hno⟩ S
 by_cases hlt : k < l.length
 · obtain ⟨gq, oq, x, rfl, hx, hd, hcc⟩ := Zv hA hlt
   rw [hd] at hno
   have hrx := fun w' W' => hr w' W' x (List.mem_of_getElem? hx)
   refine sg S (.lt (by omega) rfl rfl <| .z) fun a w S => wp_seq_k fun _ hK2 => Zd S (.t rfl) (wp_skip (Za (hK2 _ _ (wp_seq_k fun _ hK2 => wp_block (sg S (.mv rfl <| .as rfl <| .z) fun a w S => wp_seq_k fun _ hK3 => wp_region_lit (run S (.mv rfl <| .mv rfl <| .mv rfl <| .ix underlying82 sizeOf3 (by omega) rfl rfl <| .yy (Zw ⟨isAgg3, sizeOf3⟩ (.t rfl) (fun _ => hcc 0 _ rfl)) rfl <| .z) fun a w S => Xy S (ys_callVC (cs := cs) (vs := [.int .i64 x]) (v := .bool (p x)) (.t rfl) hf (.cons (.t rfl) .nil) (fun _ w' W' => hrx w' (W'.sub (List.nil_sublist _)))) rfl ?_))))))
   clear S a w
   intro a w S
   cases hp : p x with
   | true =>
     rw [hp] at S
     refine Zb (Za (hK3 _ _ (Zd S (.t rfl) (sg S (.mv rfl <| .as rfl <| .z) fun a w S => wp_ret (Yq (Zh (Zh (Yq (Zh (Zk S (results1 S results117 (Rv.tmp rfl)) ?_))))))))))
     refine ⟨?_, S.wd.below⟩
     rw [← hno, idxW, if_pos hp]
   | false =>
     rw [hp] at S
     refine Zb (Za (hK3 _ _ (Zf S (.t rfl) (wp_skip (Zj (Za (hK2 _ _ (wp_region_lit (run S (.ad (by unfold I64; omega) rfl <| .mv rfl <| .z) fun a w S => Zb (Za ?_))))))))))
     rw [idxW, if_neg (by rw [hp]; decide)] at hno
     exact ⟨k + 1, ⟨by omega, hno⟩, by omega, S.pk⟩
 · obtain rfl : k = l.length := by omega
   rw [List.drop_length] at hno
   refine sg S (.ge (by omega) rfl rfl <| .z) fun a w S => wp_seq_k fun _ hK2 => Zf S (.t rfl) (wp_exit (Zc (Zc (Zs (Za (hK1 _ _ (sg S (.ac rfl <| .z) fun a w S => wp_ret (Zk S (results1 S results117 (Rv.tmp rfl)) ?_))))))))
   exact ⟨by rw [← hno]; rfl, S.wd.below⟩
theorem x95 (w0 : World) (v : Value) (l : List Int) (f : FuncId) (cs : List Value) (p : Int → Bool) (hf : ∀ args w, (callFunc f args).run Tryz.prog w = .ok (.enter f args) w) (hr : ReadsI w0 f cs l p) (h : Sl encI 1 w0 w0.heap.size v l) :
   Calls Tryz.prog 95 #[v, .func (.func f) #[] cs.toArray] w0 fun e w' => e = .returned (.bool (l.any p)) ∧ Bel w0.heap.size w0 w' := by
 have hs := h
 obtain ⟨A, cap, rfl, hl, hcap, hA⟩ := h
 refine enter2 func95 rfl ntmps95 rfl fun a S => sg S (.ac rfl <| .z) fun a w S => wp_seq_k fun _ hK1 => wp_region_lit (run S (.mv rfl <| .mv rfl <| .z) fun a w S => Xy S (Zg call117 (.cons (.t rfl) (.cons (.t rfl) .nil)) (fun _ w' W' => x117 w' _ l f cs p hf (fun w'' W'' => hr w'' ((W'.sub (List.nil_sublist _)).step W''.below)) (Sl.old W' hs))) rfl ?_)
 clear S a w
 intro a w S
 refine run S (.yy (Yp (.t rfl) Ev.c) rfl <| .as rfl <| .z) fun a w S => Zb (Za (hK1 _ _ (wp_ret (Zk S (results1 S results95 (Rv.tmp rfl)) ?_))))
 exact ⟨by rw [← idxW_any p l 0], S.wd.below⟩
end Go.Proofs.YtbijdmfilmecbaaGreat
namespace Go.Fw
open Go.RowKit
def inP (level p : Int) : Bool := decide (0 ≤ p ∧ p < 2 ^ level.toNat)
theorem inP_not (level p : Int) : (decide (p < 0) || decide (2 ^ level.toNat ≤ p)) = !inP level p := by
 unfold inP
 generalize (2 : Int) ^ level.toNat = b
 by_cases h1 : p < 0
 · simp [h1]
   try omega
 · by_cases h2 : b ≤ p
   · simp [h2]
   · simp [h1, h2]
     try omega
theorem okP_eq (level deep : Int) (l : List Int) : okP level deep l = (decide (0 ≤ level) && decide (level ≤ deep) && l.all (inP level)) := rfl
theorem any_not {α : Type} (p : α → Bool) : ∀ l : List α, (!(l.any fun x => !p x)) = l.all p
 | [] => rfl
 | x :: r => by rw [List.any_cons, List.all_cons, Bool.not_or, Bool.not_not, any_not p r]
theorem pow_shl {m : Nat} (h : m ≤ 4) : IntKind.i64.wrap (1 * 2 ^ m) = 2 ^ m := by
 obtain rfl | rfl | rfl | rfl | rfl : m = 0 ∨ m = 1 ∨ m = 2 ∨ m = 3 ∨ m = 4 := by omega
 all_goals rfl
structure Sums (l : List Sm) : Prop where
 hash : hashOk l
 key : ∀ x ∈ l, x.key.length ≤ 1048576
 len : l.length ≤ 1048576
theorem sets_step {T : List KH} {l : List Sm} {i : Nat} {x : Sm} (h : l[i]? = some x) : setsT T (l.take (i + 1)) = setK x.key x.hash (setsT T (l.take i)) := sets_snoc h
theorem sets_take {l : List Sm} (h : Sums l) (q : Nat) : KhOk (setsT [] (l.take q)) := sets_ok _ (fun x hx => h.hash x (List.mem_of_mem_take hx)) kh_nil
theorem Sums.ok {l : List Sm} (h : Sums l) : KhOk (setsT [] l) := sets_ok _ h.hash kh_nil
theorem Sums.room {l : List Sm} (h : Sums l) : (setsT [] l).length ≤ 1048576 := by
 have h1 := sets_len l []
 have h2 := h.len
 rw [List.length_nil] at h1
 omega
end Go.Fw
namespace Go.Proofs.YtbijdmfilmecbaaGreat
open Go.Fw Go.Proofs Go.RowKit Go.Proofs.Tryz
theorem c96 (w0 : World) (p lv : Int) (b : Nat) (h : w0.cell? ⟨b, 0, none⟩ = some (.int .i64 lv)) (hlv : 0 ≤ lv ∧ lv ≤ 4) :
   Calls Tryz.prog 96 #[.int .i64 p, .pointer (some ⟨b, 0, none⟩)] w0 fun e w' => e = .returned (.bool (!inP lv p)) ∧ Bel w0.heap.size w0 w' := by
 obtain ⟨m, rfl⟩ : ∃ m : Nat, lv = (m : Int) := ⟨lv.toNat, by omega⟩
 have e := inP_not m p
 rw [Int.toNat_natCast] at e
 have hm : m ≤ 4 := by omega
 have rw_s := pow_shl hm
 by_cases hp : p < 0
 · have rw_p := decide_eq_true hp
   refine enter2 func96 rfl ntmps96 rfl fun a S => sg S (.ac rfl <| .z) fun a w S => sg S (.mv rfl <| .yy (Yk (by omega) (Yh (.t rfl) Ev.c)) rfl <| .mv rfl <| .sk rfl rfl rfl <| .sk rfl rfl rfl <| .sk rfl rfl rfl <| .sk rfl rfl rfl <| .yy (Zr (.t rfl) Ev.c) rfl <| .as rfl <| .z) fun a w S => wp_ret (Zk S (results1 S results96 (Rv.tmp rfl)) ?_)
   exact ⟨by rw [← e, rw_p]; rfl, S.wd.below⟩
 · have rw_p := decide_eq_false hp
   refine enter2 func96 rfl ntmps96 rfl fun a S => sg S (.ac rfl <| .z) fun a w S => wp_seq_k fun _ hK1 => wp_region_lit (run S (.mv rfl <| .yy (Yf (by omega) (Yh (.t rfl) Ev.c)) rfl <| .mv rfl <| .gy rfl rfl (Ze (.t rfl)) <| .gy rfl rfl (Zw ⟨isAgg3, sizeOf3⟩ (.t rfl) (fun _ => h)) <| .gy rfl rfl (ys_shl Ev.c (.t rfl) (Nat.ble_eq_true_of_le (by show _ ≤ 64; omega))) <| .z) fun a w S => ?_)
   rw [rw_s] at S
   refine run S (.gy rfl rfl (Yp (.t rfl) (.t rfl)) <| .yy (Zn (.t rfl) (.t rfl)) rfl <| .as rfl <| .z) fun a w S => Zb (Za (hK1 _ _ (wp_ret (Zk S (results1 S results96 (Rv.tmp rfl)) ?_))))
   exact ⟨by rw [← e, rw_p]; rfl, S.wd.below⟩
theorem c63 (w0 : World) (level : Int) (v1 : Value) (l : List Int) (h : Sl encI 1 w0 w0.heap.size v1 l) :
   Calls Tryz.prog 63 #[.int .i64 level, v1] w0 fun e w' => e = .returned (.bool (okP level 4 l)) ∧ Bel w0.heap.size w0 w' := by
 rw [okP_eq]
 by_cases h1 : 0 ≤ level
 · have rw_1 := decide_eq_true h1
   by_cases h2 : level ≤ 4
   · have rw_2 := decide_eq_true h2
     have hs := h
     obtain ⟨A, cap, rfl, hl, hcap, hA⟩ := h
     refine enter2 func63 rfl ntmps63 rfl fun a S => wp_seq_k fun _ hK1 => wp_region_lit (Zi (op_box1 S (.t rfl) rfl rfl fun g1 a w S => run S (.ac rfl <| .z) fun a w S => Zb (Za (hK1 _ _ (wp_seq_k fun _ hK1 => wp_region_lit (run S (.ld gt3 0 rfl rfl rfl <| .yy (Yk (by omega) (Yp (.t rfl) Ev.c)) rfl <| .mv rfl <| .gy rfl rfl (Yd ⟨isAgg3, sizeOf3⟩ (.t rfl) (k := 0) rfl rfl) <| .gy rfl rfl (Yk (by omega) (Xh (.t rfl) Ev.c)) <| .yy (Zr (.t rfl) (.t rfl)) rfl <| .mv rfl <| .gy rfl rfl (Ze (.t rfl)) <| .gy rfl rfl (ys_mkFunc (.cons (.t rfl) .nil)) <| .z) fun a w S => st_yt S rfl rfl (Zg call95 (.cons (.t rfl) (.cons (.t rfl) .nil)) (fun _ w' W' => x95 w' _ l 96 [.pointer (some ⟨g1, 0, none⟩)] (fun x => !inP level x) (enters_of func96 (by kernel_rfl) rfl) (fun w'' W'' x hx => c96 w'' x level g1 (Wd.cellOld W'' (Wd.cell W' (k := 0) rfl rfl)) ⟨h1, h2⟩) (Sl.old W' hs))) rfl ?_))))))
     clear S a w
     intro a w S
     refine run S (.gy rfl rfl (Xb (.t rfl)) <| .yy (Zr (.t rfl) (.t rfl)) rfl <| .as rfl <| .z) fun a w S => Zb (Za (hK1 _ _ (wp_ret (Zk S (results1 S results63 (Rv.tmp rfl)) ?_))))
     exact ⟨by rw [any_not, rw_1, rw_2]; rfl, S.wd.below⟩
   · have rw_2 := decide_eq_false h2
     refine enter2 func63 rfl ntmps63 rfl fun a S => wp_seq_k fun _ hK1 => wp_region_lit (Zi (op_box1 S (.t rfl) rfl rfl fun g1 a w S => run S (.ac rfl <| .z) fun a w S => Zb (Za (hK1 _ _ (sg S (.ld gt3 0 rfl rfl rfl <| .yy (Yk (by omega) (Yp (.t rfl) Ev.c)) rfl <| .mv rfl <| .gy rfl rfl (Yd ⟨isAgg3, sizeOf3⟩ (.t rfl) (k := 0) rfl rfl) <| .gy rfl rfl (Yf (by omega) (Xh (.t rfl) Ev.c)) <| .yy (Zr (.t rfl) (.t rfl)) rfl <| .mv rfl <| .sk rfl rfl rfl <| .sk rfl rfl rfl <| .sk rfl rfl rfl <| .sk rfl rfl rfl <| .yy (Zn (.t rfl) Ev.c) rfl <| .as rfl <| .z) fun a w S => wp_ret (Zk S (results1 S results63 (Rv.tmp rfl)) ?_))))))
     exact ⟨by rw [rw_1, rw_2]; rfl, S.wd.below⟩
 · have rw_1 := decide_eq_false h1
   refine enter2 func63 rfl ntmps63 rfl fun a S => wp_seq_k fun _ hK1 => wp_region_lit (Zi (op_box1 S (.t rfl) rfl rfl fun g1 a w S => run S (.ac rfl <| .z) fun a w S => Zb (Za (hK1 _ _ (sg S (.ld gt3 0 rfl rfl rfl <| .yy (Yf (by omega) (Yp (.t rfl) Ev.c)) rfl <| .mv rfl <| .sk rfl rfl rfl <| .sk rfl rfl rfl <| .yy (Zn (.t rfl) Ev.c) rfl <| .mv rfl <| .sk rfl rfl rfl <| .sk rfl rfl rfl <| .sk rfl rfl rfl <| .sk rfl rfl rfl <| .yy (Zn (.t rfl) Ev.c) rfl <| .as rfl <| .z) fun a w S => wp_ret (Zk S (results1 S results63 (Rv.tmp rfl)) ?_))))))
   exact ⟨by rw [rw_1]; rfl, S.wd.below⟩
theorem c64 (w0 : World) (level deep : Int) (v2 : Value) (l : List Int) (h : Sl encI 1 w0 w0.heap.size v2 l) (hd4 : deep ≤ 4) :
   Calls Tryz.prog 64 #[.int .i64 level, .int .i64 deep, v2] w0 fun e w' => e = .returned (.bool (okP level deep l)) ∧ Bel w0.heap.size w0 w' := by
 rw [okP_eq]
 by_cases h1 : level < 0
 · have rw_1 := decide_eq_true h1
   refine enter3 func64 rfl ntmps64 rfl fun a S => sg S (.ac rfl <| .z) fun a w S => wp_seq_k fun _ hK1 => sg S (.mv rfl <| .yy (Yk (by omega) (Yh (.t rfl) Ev.c)) rfl <| .mv rfl <| .sk rfl rfl rfl <| .sk rfl rfl rfl <| .sk rfl rfl rfl <| .yy (Zr (.t rfl) Ev.c) rfl <| .z) fun a w S => Zd S (.t rfl) (sg S (.ac rfl <| .z) fun a w S => wp_ret (Zh (Zk S (results1 S results64 (Rv.tmp rfl)) ?_)))
   exact ⟨by rw [decide_eq_false (show ¬ (0 ≤ level) by omega)]; rfl, S.wd.below⟩
 have rw_1 := decide_eq_false h1
 by_cases h2 : deep < level
 · have rw_2 := decide_eq_true h2
   refine enter3 func64 rfl ntmps64 rfl fun a S => sg S (.ac rfl <| .z) fun a w S => wp_seq_k fun _ hK1 => sg S (.mv rfl <| .yy (Yf (by omega) (Yh (.t rfl) Ev.c)) rfl <| .mv rfl <| .gy rfl rfl (Ze (.t rfl)) <| .gy rfl rfl (Ze (.t rfl)) <| .gy rfl rfl (Yk (by omega) (Xt (.t rfl) (.t rfl))) <| .yy (Zn (.t rfl) (.t rfl)) rfl <| .z) fun a w S => Zd S (.t rfl) (sg S (.ac rfl <| .z) fun a w S => wp_ret (Zh (Zk S (results1 S results64 (Rv.tmp rfl)) ?_)))
   exact ⟨by rw [decide_eq_false (show ¬ (level ≤ deep) by omega), Bool.and_false]; rfl, S.wd.below⟩
 have rw_2 := decide_eq_false h2
 rw [decide_eq_true (show 0 ≤ level by omega), decide_eq_true (show level ≤ deep by omega), Bool.true_and, Bool.true_and]
 obtain ⟨m, rfl⟩ : ∃ m : Nat, level = (m : Int) := ⟨level.toNat, by omega⟩
 have hm : m ≤ 4 := by omega
 have rw_s := pow_shl hm
 obtain ⟨A, cap, rfl, hl, hcap, hA⟩ := h
 refine enter3 func64 rfl ntmps64 rfl fun a S => sg S (.ac rfl <| .z) fun a w S => wp_seq_k fun _ hK1 => sg S (.mv rfl <| .yy (Yf (by omega) (Yh (.t rfl) Ev.c)) rfl <| .mv rfl <| .gy rfl rfl (Ze (.t rfl)) <| .gy rfl rfl (Ze (.t rfl)) <| .gy rfl rfl (Yf (by omega) (Xt (.t rfl) (.t rfl))) <| .yy (Zn (.t rfl) (.t rfl)) rfl <| .z) fun a w S => Zf S (.t rfl) (wp_skip (Za (hK1 _ _ (wp_seq_k fun _ hK1 => sg S (.ac rfl <| .z) fun a w S => wp_block ?_))))
 refine Yg S [7] (X := Nat) (fun q => [(7, true, .int .i64 (q : Int))]) (fun _ => []) (fun q => q ≤ l.length ∧ (l.take q).all (inP m) = true) (fun q => l.length - q) 0 ⟨Nat.zero_le _, rfl⟩ ?_
 clear S
 rintro q a w ⟨hq, hall⟩ S
 by_cases hlt : q < l.length
 · obtain ⟨g, o, x, rfl, hx, hd, hc⟩ := Zv hA hlt
   have e := inP_not m x
   rw [Int.toNat_natCast] at e
   by_cases hx0 : x < 0
   · have rw_p := decide_eq_true hx0
     refine wp_seq_k fun _ hK2 => sg S (.mv rfl <| .mv rfl <| .ln underlying82 rfl <| .lt (by omega) rfl rfl <| .z) fun a w S => Zd S (.t rfl) (wp_skip (Za (hK2 _ _ (wp_seq_k fun _ hK2 => wp_block (wp_seq_k fun _ hK3 => Xe S (by kernel_rfl) (by kernel_rfl) fun a S => qrun S (.mv rfl <| .mv rfl <| .ix underlying82 sizeOf3 (by omega) rfl rfl <| .yy (Zw ⟨isAgg3, sizeOf3⟩ (.t rfl) (fun _ => hc 0 _ rfl)) rfl <| .yy (Yk (by omega) (Yh (.t rfl) Ev.c)) rfl <| .mv rfl <| .sk rfl rfl rfl <| .sk rfl rfl rfl <| .sk rfl rfl rfl <| .sk rfl rfl rfl <| .sk rfl rfl rfl <| .sk rfl rfl rfl <| .sk rfl rfl rfl <| .yy (Zr (.t rfl) Ev.c) rfl <| .z) fun a S => ?_)))))
     (refine q_nil ?_; intro w W; replace S := St.mk S W; clear W)
     refine Za (hK3 _ _ (Zd S (.t rfl) (sg S (.ac rfl <| .z) fun a w S => wp_ret (Yq (Zh (Zh (Yq (Zh (Zk S (results1 S results64 (Rv.tmp rfl)) ?_)))))))))
     have h3 : l.all (inP m) = false := List.all_eq_false.2 ⟨x, List.mem_of_getElem? hx, by rw [rw_p, Bool.true_or] at e; have e' := congrArg Bool.not e; rw [Bool.not_not] at e'; rw [← e']; simp⟩
     exact ⟨by rw [h3], S.wd.below⟩
   · have rw_p := decide_eq_false hx0
     by_cases hx2 : 2 ^ m ≤ x
     · have rw_x := decide_eq_true hx2
       refine wp_seq_k fun _ hK2 => sg S (.mv rfl <| .mv rfl <| .ln underlying82 rfl <| .lt (by omega) rfl rfl <| .z) fun a w S => Zd S (.t rfl) (wp_skip (Za (hK2 _ _ (wp_seq_k fun _ hK2 => wp_block (wp_seq_k fun _ hK3 => Xe S (by kernel_rfl) (by kernel_rfl) fun a S => qrun S (.mv rfl <| .mv rfl <| .ix underlying82 sizeOf3 (by omega) rfl rfl <| .yy (Zw ⟨isAgg3, sizeOf3⟩ (.t rfl) (fun _ => hc 0 _ rfl)) rfl <| .yy (Yf (by omega) (Yh (.t rfl) Ev.c)) rfl <| .mv rfl <| .gy rfl rfl (Ze (.t rfl)) <| .gy rfl rfl (Ze (.t rfl)) <| .gy rfl rfl (Yv underlying82 sizeOf3 (.t rfl) (.t rfl) (fun _ => by omega)) <| .gy rfl rfl (Zw ⟨isAgg3, sizeOf3⟩ (.t rfl) (fun _ => hc 0 _ rfl)) <| .gy rfl rfl (Ze (.t rfl)) <| .gy rfl rfl (ys_shl Ev.c (.t rfl) (Nat.ble_eq_true_of_le (by show _ ≤ 64; omega))) <| .z) fun a S => ?_)))))
       rw [rw_s] at S
       refine qrun S (.gy rfl rfl (Yk (by omega) (Yp (.t rfl) (.t rfl))) <| .yy (Zn (.t rfl) (.t rfl)) rfl <| .z) fun a S => ?_
       (refine q_nil ?_; intro w W; replace S := St.mk S W; clear W)
       refine Za (hK3 _ _ (Zd S (.t rfl) (sg S (.ac rfl <| .z) fun a w S => wp_ret (Yq (Zh (Zh (Yq (Zh (Zk S (results1 S results64 (Rv.tmp rfl)) ?_)))))))))
       have h3 : l.all (inP m) = false := List.all_eq_false.2 ⟨x, List.mem_of_getElem? hx, by rw [rw_x, Bool.or_true] at e; have e' := congrArg Bool.not e; rw [Bool.not_not] at e'; rw [← e']; simp⟩
       exact ⟨by rw [h3], S.wd.below⟩
     · have rw_x := decide_eq_false hx2
       refine wp_seq_k fun _ hK2 => sg S (.mv rfl <| .mv rfl <| .ln underlying82 rfl <| .lt (by omega) rfl rfl <| .z) fun a w S => Zd S (.t rfl) (wp_skip (Za (hK2 _ _ (wp_seq_k fun _ hK2 => wp_block (wp_seq_k fun _ hK3 => Xe S (by kernel_rfl) (by kernel_rfl) fun a S => qrun S (.mv rfl <| .mv rfl <| .ix underlying82 sizeOf3 (by omega) rfl rfl <| .yy (Zw ⟨isAgg3, sizeOf3⟩ (.t rfl) (fun _ => hc 0 _ rfl)) rfl <| .yy (Yf (by omega) (Yh (.t rfl) Ev.c)) rfl <| .mv rfl <| .gy rfl rfl (Ze (.t rfl)) <| .gy rfl rfl (Ze (.t rfl)) <| .gy rfl rfl (Yv underlying82 sizeOf3 (.t rfl) (.t rfl) (fun _ => by omega)) <| .gy rfl rfl (Zw ⟨isAgg3, sizeOf3⟩ (.t rfl) (fun _ => hc 0 _ rfl)) <| .gy rfl rfl (Ze (.t rfl)) <| .gy rfl rfl (ys_shl Ev.c (.t rfl) (Nat.ble_eq_true_of_le (by show _ ≤ 64; omega))) <| .z) fun a S => ?_)))))
       rw [rw_s] at S
       refine qrun S (.gy rfl rfl (Yf (by omega) (Yp (.t rfl) (.t rfl))) <| .yy (Zn (.t rfl) (.t rfl)) rfl <| .z) fun a S => ?_
       (refine q_nil ?_; intro w W; replace S := St.mk S W; clear W)
       refine Za (hK3 _ _ (Zf S (.t rfl) (wp_skip (Zj (Za (hK2 _ _ (wp_region_lit (run S (.mv rfl <| .ad (by unfold I64; omega) rfl <| .as rfl <| .z) fun a w S => Zb (Za ?_)))))))))
       have h3 : inP m x = true := by rw [rw_p, rw_x] at e; have e' := congrArg Bool.not e; rw [Bool.not_not] at e'; exact e'.symm
       have h4 : (l.take (q + 1)).all (inP m) = true := by rw [List.take_add_one, hx, Option.toList_some, List.all_append, hall, List.all_cons, h3]; rfl
       exact ⟨q + 1, ⟨by omega, h4⟩, by omega, S.pk⟩
 · obtain rfl : q = l.length := by omega
   rw [List.take_length] at hall
   refine wp_seq_k fun _ hK2 => sg S (.mv rfl <| .mv rfl <| .ln underlying82 rfl <| .ge (by omega) rfl rfl <| .z) fun a w S => Zf S (.t rfl) (wp_exit (Zc (Zc (Zs (Za (hK1 _ _ (sg S (.ac rfl <| .z) fun a w S => wp_ret (Zk S (results1 S results64 (Rv.tmp rfl)) ?_))))))))
   rw [hall]
   exact ⟨rfl, S.wd.below⟩
theorem c26 (w0 : World) (v1 : Value) (l : List Sm) (h : Sl Sm.enc 3 w0 w0.heap.size v1 l) (hs : Sums l) :
   Rets Tryz.prog 26 #[v1] w0 fun u L => ∃ g A cap gs w1 bs, u = .pointer (some ⟨g, 0, none⟩) ∧ L = treeP g A cap gs w1 bs [] ∧ MapsIn w1 bs gs (setsT [] l) := by
 obtain ⟨A, cap, rfl, hl, hcap, hA⟩ := h
 unfold Go.Fw.Rets
 refine enter1 func26 rfl ntmps26 rfl fun a S => sg S (.ac rfl <| .z) fun a w S => wp_seq_k fun _ hK1 => wp_region_lit ?_
 (refine Zi (Zq S call55 .nil (c55 _) rfl ?_); clear S a w; rintro _ _ ⟨g1, A1, cap1, gs1, w11, bs1, rfl, rfl, hr11⟩ a w S)
 refine run S (.as rfl <| .z) fun a w S => Zb (Za (hK1 _ _ (wp_seq_k fun _ hK1 => sg S (.mv rfl <| .ln underlying22 rfl <| .mc rfl <| .z) fun a w S => wp_block ?_)))
 refine Yg S [9] (X := Nat × World × List Nat) (fun q => [(9, true, .int .i64 (q.1 : Int))]) (fun q => treeP g1 A1 cap1 gs1 q.2.1 q.2.2 []) (fun q => q.1 ≤ l.length ∧ MapsIn q.2.1 q.2.2 gs1 (setsT [] (l.take q.1))) (fun q => l.length - q.1) (0, w11, bs1) ⟨Nat.zero_le _, hr11⟩ ?_
 clear S hr11
 rintro ⟨q, w1, bs⟩ a w ⟨hq, M⟩ S
 dsimp only at hq M S
 have hT := sets_take hs q
 by_cases hlt : q < l.length
 · obtain ⟨g, o, x, rfl, hx, hd, hc⟩ := Zv hA hlt
   have hk := hs.key x (List.mem_of_getElem? hx)
   have hst := sets_step (T := []) hx
   generalize setsT [] (l.take q) = T at *
   refine sg S (.lt (by omega) rfl rfl <| .z) fun a w S => wp_seq_k fun _ hK2 => Zd S (.t rfl) (wp_skip (Za (hK2 _ _ (wp_seq_k fun _ hK2 => wp_block (wp_seq_k fun _ hK3 => wp_region_lit (run S (.ix underlying22 sizeOf77 (by omega) rfl rfl <| .yy (Ye ⟨isAgg77, sizeOf77⟩ (.t rfl) (vs := [_, _, _]) rfl (fun _ => hc)) rfl <| .z) fun a w S => Zi (Zt S zeroValue77 (cs := _) rfl rfl fun g2 a w S => Zi (Ya S sizeOf77 (.t rfl) (.t rfl) (k := 0) rfl rfl rfl (by simp [Value.oneCell']) fun a w S => Zb (Za (hK3 _ _ (wp_region_lit (run S (.mv rfl <| .fa underlying77 sizeOf9 1 rfl rfl rfl <| .ld gt9 0 rfl rfl rfl <| .fa underlying77 sizeOf60 2 rfl rfl rfl <| .ld gt60 0 rfl rfl rfl <| .z) fun a w S => ?_))))))))))))
   (replace S := S.pull 3 rfl; try simp only [List.set_cons_zero, List.set_cons_succ, List.eraseIdx_cons_succ, List.eraseIdx_cons_zero] at S; replace S := S.pull 3 rfl; try simp only [List.set_cons_zero, List.set_cons_succ, List.eraseIdx_cons_succ, List.eraseIdx_cons_zero] at S; replace S := S.pull 3 rfl; try simp only [List.set_cons_zero, List.set_cons_succ, List.eraseIdx_cons_succ, List.eraseIdx_cons_zero] at S; refine Zi (op_callO S call56 (.cons (.t rfl) (.cons (.t rfl) (.cons (.t rfl) .nil))) (c56 S.wd (by first | assumption | omega | (dsimp only; omega) | exact Sl.nil_ | exact .old S.wd (by assumption) | exact Sl.of_own S.wd (k := 0) rfl (fun _ => rfl) | exact Sl.of_own S.wd (k := 1) rfl (fun _ => rfl) | exact Sl.of_own S.wd (k := 2) rfl (fun _ => rfl) | exact Sl.of_own S.wd (k := 3) rfl (fun _ => rfl) | (simp; done) | (simp at *; omega)) (by first | assumption | omega | (dsimp only; omega) | exact Sl.nil_ | exact .old S.wd (by assumption) | exact Sl.of_own S.wd (k := 0) rfl (fun _ => rfl) | exact Sl.of_own S.wd (k := 1) rfl (fun _ => rfl) | exact Sl.of_own S.wd (k := 2) rfl (fun _ => rfl) | exact Sl.of_own S.wd (k := 3) rfl (fun _ => rfl) | (simp; done) | (simp at *; omega)) (by first | assumption | omega | (dsimp only; omega) | exact Sl.nil_ | exact .old S.wd (by assumption) | exact Sl.of_own S.wd (k := 0) rfl (fun _ => rfl) | exact Sl.of_own S.wd (k := 1) rfl (fun _ => rfl) | exact Sl.of_own S.wd (k := 2) rfl (fun _ => rfl) | exact Sl.of_own S.wd (k := 3) rfl (fun _ => rfl) | (simp; done) | (simp at *; omega))) rfl ?_) <;> clear S a w)
   rintro _ _ ⟨w21, bs21, rfl, rfl, hr1⟩ a w S
   refine Zb (Zj (Za (hK2 _ _ (wp_region_lit (run S (.ad (by unfold I64; omega) rfl <| .mv rfl <| .z) fun a w S => Zb (Za ?_))))))
   exact ⟨(q + 1, w21, bs21), ⟨by dsimp only; omega, by dsimp only; rw [hst]; assumption⟩, by dsimp only; omega, S.pk⟩
 obtain rfl : q = l.length := by omega
 rw [List.take_length] at M
 refine sg S (.ge (by omega) rfl rfl <| .z) fun a w S => wp_seq_k fun _ hK2 => Zf S (.t rfl) (wp_exit (Zc (Zc (Zs (Za (hK1 _ _ (sg S (.mv rfl <| .as rfl <| .z) fun a w S => wp_ret (Zk S (results1 S results26 (Rv.tmp rfl)) ?_))))))))
 exact ⟨_, _, rfl, S.wd.pk, g1, A1, cap1, gs1, w1, bs, rfl, rfl, M⟩
theorem c28 (w0 : World) (v1 : Value) (l : List Sm) (h : Sl Sm.enc 3 w0 w0.heap.size v1 l) (hs : Sums l) :
   Rets Tryz.prog 28 #[v1] w0 fun u L => ∃ g A cap, u = .pointer (some ⟨g, 0, none⟩) ∧ L = docP g A cap (setsT [] l) [] := by
 obtain ⟨A, cap, rfl, hl, hcap, hA⟩ := h
 unfold Go.Fw.Rets
 refine enter1 func28 rfl ntmps28 rfl fun a S => sg S (.ac rfl <| .z) fun a w S => wp_seq_k fun _ hK1 => wp_region_lit (run S (.yy (Yj (ps := []) (us := [_]) bld124 .nil rfl) rfl <| .z) fun a w S => Zi (Ym S (.t rfl) rfl fun g1 a w S => run S (.as rfl <| .z) fun a w S => Zb (Za (hK1 _ _ (wp_seq_k fun _ hK1 => sg S (.ac rfl <| .z) fun a w S => wp_block ?_)))))
 replace S := S.nil_ 77 3 Kh.enc none
 refine Yg S [4] (X := Nat × Option Addr × Nat) (fun q => [(4, true, .int .i64 (q.1 : Int))]) (fun q => docP g1 q.2.1 q.2.2 (setsT [] (l.take q.1)) []) (fun q => q.1 ≤ l.length) (fun q => l.length - q.1) (0, none, 0) (Nat.zero_le _) ?_
 clear S
 rintro ⟨q, B, cB⟩ a w hq S
 dsimp only at hq S
 have hT := sets_take hs q
 have hTl := sets_len (l.take q) []
 rw [List.length_nil, List.length_take] at hTl
 by_cases hlt : q < l.length
 · obtain ⟨g, o, x, rfl, hx, hd, hc⟩ := Zv hA hlt
   have hk := hs.key x (List.mem_of_getElem? hx)
   have hll := hs.len
   have hst := sets_step (T := []) hx
   generalize setsT [] (l.take q) = T at *
   have hTl2 : T.length ≤ 2097152 := by omega
   have hold_r := trivial
   have lr_nil := trivial
   refine wp_seq_k fun _ hK2 => sg S (.mv rfl <| .mv rfl <| .ln underlying22 rfl <| .lt (by omega) rfl rfl <| .z) fun a w S => Zd S (.t rfl) (wp_skip (Za (hK2 _ _ (wp_seq_k fun _ hK2 => wp_block (h_begin S (by kernel_rfl) [] fun a w S => hy 0 S rfl (Ze (.t rfl)) rfl fun a w S => hy 1 S rfl (Ze (.t rfl)) rfl fun a w S => hy 2 S rfl (Ze (.t rfl)) rfl fun a w S => hy 3 S rfl (Yv underlying22 sizeOf77 (.t rfl) (.t rfl) (fun _ => by omega)) rfl fun a w S => ?_)))))
   refine hy 4 S rfl (Zz (FieldT.mk underlying77 rfl sizeOf9 rfl) (.t rfl)) rfl fun a w S => hy 5 S rfl (Zw ⟨isAgg9, sizeOf9⟩ (.t rfl) (fun _ => hc _ _ rfl)) rfl fun a w S => hy 6 S rfl (Ze (.t rfl)) rfl fun a w S => hy 7 S rfl (Ze (.t rfl)) rfl fun a w S => hy 8 S rfl (Yv underlying22 sizeOf77 (.t rfl) (.t rfl) (fun _ => by omega)) rfl fun a w S => ?_
   refine hy 9 S rfl (Zz (FieldT.mk underlying77 rfl sizeOf60 rfl) (.t rfl)) rfl fun a w S => hy 10 S rfl (Zw ⟨isAgg60, sizeOf60⟩ (.t rfl) (fun _ => hc _ _ rfl)) rfl fun a w S => ?_
   (refine h_m (i := 11) rfl (by kernel_rfl) (op_callO S call57 (.cons (.t rfl) (.cons (.t rfl) (.cons (.t rfl) .nil))) (c57 S.wd (by first | assumption | omega | (dsimp only; omega) | exact Sl.nil_ | exact .old S.wd (by assumption) | exact Sl.of_own S.wd (k := 0) rfl (fun _ => rfl) | exact Sl.of_own S.wd (k := 1) rfl (fun _ => rfl) | (simp; done) | (simp at *; omega)) (by first | assumption | omega | (dsimp only; omega) | exact Sl.nil_ | exact .old S.wd (by assumption) | exact Sl.of_own S.wd (k := 0) rfl (fun _ => rfl) | exact Sl.of_own S.wd (k := 1) rfl (fun _ => rfl) | (simp; done) | (simp at *; omega)) (by first | assumption | omega | (dsimp only; omega) | exact Sl.nil_ | exact .old S.wd (by assumption) | exact Sl.of_own S.wd (k := 0) rfl (fun _ => rfl) | exact Sl.of_own S.wd (k := 1) rfl (fun _ => rfl) | (simp; done) | (simp at *; omega))) rfl ?_) <;> clear S a w)
   rintro _ _ ⟨A21, e21, rfl, rfl⟩ a w S
   refine Yw S ?_
   refine Xg (by kernel_rfl) (Zj (Za (hK2 _ _ (wp_region_lit (run S (.mv rfl <| .ad (by unfold I64; omega) rfl <| .as rfl <| .z) fun a w S => Zb (Za ?_))))))
   exact ⟨(q + 1, A21, e21), by dsimp only; omega, by dsimp only; omega, by dsimp only; rw [hst]; exact S.pk⟩
 obtain rfl : q = l.length := by omega
 rw [List.take_length] at S
 refine wp_seq_k fun _ hK2 => sg S (.mv rfl <| .mv rfl <| .ln underlying22 rfl <| .ge (by omega) rfl rfl <| .z) fun a w S => Zf S (.t rfl) (wp_exit (Zc (Zc (Zs (Za (hK1 _ _ (sg S (.mv rfl <| .as rfl <| .z) fun a w S => wp_ret (Zk S (results1 S results28 (Rv.tmp rfl)) ?_))))))))
 exact ⟨_, _, rfl, S.wd.pk, g1, B, cB, rfl, rfl⟩
end Go.Proofs.YtbijdmfilmecbaaGreat
namespace Go.Fw
open Go.RowKit
section
variable {P : Program} {n : Nat} {w0 : World} {K : KL} {L : List Chunk} {ty : TypeId} {pos : String} {aft : Array Edge} {gd : Option (Nat × Bool)} {a : Act} {w : World} {Z : Act → World → Prop} {Q : Exit → Act → World → Prop} {d : Nat}
theorem op_push2 {α : Type} {enc : α → List Value} {l : List α} {y y2 : α} {t e bytes size cap c k j g : Nat} {e' : TypeId} {fr : Nat × Nat} {z : Value} {A : Option Addr} {s x : Operand} {vs : List Value} (S : St n w0 K L a w) (ht : P.underlying t = some (.slice e))
   (hi : InfoT P e z size bytes) (hzs : z.cells.size = size) (hk : L[k]? = some (rowOf e size enc A cap l)) (hs : Ev n true K s (.slice A l.length cap)) (hx : Ev n true K x (.slice (some ⟨g, 0, none⟩) 2 c)) (hj : L[j]? = some (.blk g (.cells vs.toArray e' fr))) (hvs : vs = enc y ++ enc y2)
   (hlen : (enc y).length = size) (hlen2 : (enc y2).length = size) (h1 : (enc y ++ enc y2).all (·.oneCell') = true) (hb : (l.length + 2) * bytes ≤ 200000000000000) (hb1 : Nat.blt 0 bytes = true) (hb2 : Nat.ble bytes 65536 = true) (hd : Nat.blt d n = true)
   (next : ∀ A' cap' a w, St n w0 ((d, true, .slice A' (l ++ [y, y2]).length cap') :: K) (L.set k (rowOf e size enc A' cap' (l ++ [y, y2]))) a w → Z a w) :
   Oper.wp P ⟨some d, .call ⟨.builtin .append, #[s, x], #[t, t]⟩, ty, pos, aft, gd⟩ a w Z Q := by
 subst hvs
 refine op_append S ht ht (.inr ⟨_, rfl⟩) hi hzs hs hx hk (Src.blk S.wd hj (by rw [List.length_append, hlen, hlen2]; omega) (fun u hu => List.all_eq_true.1 h1 u hu)) hb hb1 hb2 hd (fun A' cap' a w _ S' => next A' cap' a w ?_)
 have e1 : (l ++ [y, y2]).length = l.length + 2 := by simp
 have e2 : (l ++ [y, y2]).flatMap enc = l.flatMap enc ++ (enc y ++ enc y2) := by simp
 unfold rowOf
 rw [e1, e2]; exact S'
end
end Go.Fw
namespace Go.Fw
open Go.RowKit
def belowA (level : Int) (l : List Int) : List Int × Int := if okP level 3 l = true then (belowT l, 0) else ([], 80)
def sumsA (T : List KH) (level : Int) (l : List Int) : List Sm × Int := if okP level 4 l = true then (sumsT T level l, 0) else ([], 80)
def keysA (T : List KH) (l : List Int) : List Sm × Int := if okP 4 4 l = true then (keysT T l, 0) else ([], 80)
def unlikeA (T : List KH) (level : Int) (l : List Sm) : List Int × Int := if okP level 4 (l.map (·.place)) = true then (unlikeT T level l, 0) else ([], 80)
theorem okP_mem {level deep x : Int} {l : List Int} (h : okP level deep l = true) (hx : x ∈ l) : 0 ≤ x ∧ x < 2 ^ level.toNat := by
 unfold okP at h
 simp only [Bool.and_eq_true, List.all_eq_true] at h
 exact of_decide_eq_true (h.2 x hx)
theorem okP_lv {level deep : Int} {l : List Int} (h : okP level deep l = true) : 0 ≤ level ∧ level ≤ deep := by
 unfold okP at h
 simp only [Bool.and_eq_true] at h
 exact ⟨of_decide_eq_true h.1.1, of_decide_eq_true h.1.2⟩
theorem pow_16 {level : Int} (h : level ≤ 4) : (2 : Int) ^ level.toNat ≤ 16 := by
 have h1 : level.toNat ≤ 4 := by omega
 generalize level.toNat = m at h1
 obtain rfl | rfl | rfl | rfl | rfl : m = 0 ∨ m = 1 ∨ m = 2 ∨ m = 3 ∨ m = 4 := by omega
 all_goals decide
theorem below_step {l : List Int} {q : Nat} {x : Int} (h : l[q]? = some x) : belowT (l.take (q + 1)) = belowT (l.take q) ++ [2 * x, 2 * x + 1] := by
 unfold belowT
 rw [List.take_add_one, h, Option.toList_some, List.flatMap_append]
 rfl
theorem below_len : ∀ l : List Int, (belowT l).length = 2 * l.length
 | [] => rfl
 | x :: r => by
   have ih := below_len r
   unfold belowT at ih ⊢
   rw [List.flatMap_cons, List.length_append, ih]
   simp only [List.length_cons, List.length_nil]
   omega
theorem sums_step {T : List KH} {level : Int} {l : List Int} {q : Nat} {x : Int} (h : l[q]? = some x) : sumsT T level (l.take (q + 1)) = sumsT T level (l.take q) ++ [⟨x, [], hashT T (4 - level).toNat x.toNat⟩] := by
 unfold sumsT
 rw [List.take_add_one, h, Option.toList_some, List.map_append]
 rfl
theorem sums_len' (T : List KH) (level : Int) (l : List Int) : (sumsT T level l).length = l.length := List.length_map ..
theorem keys_step {T : List KH} {l : List Int} {q : Nat} {x : Int} (h : l[q]? = some x) : keysT T (l.take (q + 1)) = keysT T (l.take q) ++ (partT T x.toNat).map (smP x) := by
 unfold keysT
 rw [List.take_add_one, h, Option.toList_some, List.flatMap_append]
 simp
theorem unlike_step {T : List KH} {level : Int} {l : List Sm} {q : Nat} {x : Sm} (h : l[q]? = some x) : unlikeT T level (l.take (q + 1)) = unlikeT T level (l.take q) ++ (if hashT T (4 - level).toNat x.place.toNat ≠ x.hash then [x.place] else []) := by
 unfold unlikeT
 rw [List.take_add_one, h, Option.toList_some, List.filter_append, List.map_append]
 congr 1
 by_cases hh : hashT T (4 - level).toNat x.place.toNat = x.hash <;> simp [hh]
theorem okP_low {level : Int} (l : List Int) (h : level < 4) : okP level 4 l = okP level 3 l := by
 unfold okP
 rw [decide_eq_true (show level ≤ 4 by omega), decide_eq_true (show level ≤ 3 by omega)]
theorem okP_high {level : Int} (l : List Int) (h : 4 ≤ level) : okP level 3 l = false := by
 unfold okP
 rw [decide_eq_false (show ¬ level ≤ 3 by omega), Bool.and_false, Bool.false_and]
end Go.Fw
namespace Go.Proofs.YtbijdmfilmecbaaGreat
open Go.Fw Go.Proofs Go.RowKit Go.Proofs.Tryz
theorem c70 (w0 : World) (level : Int) (v1 : Value) (l : List Int) (h : Sl encI 1 w0 w0.heap.size v1 l) (hn : l.length ≤ 2097152) :
   Rets Tryz.prog 70 #[.int .i64 level, v1] w0 fun u L => ∃ B c, u = .tuple #[.slice B (belowA level l).1.length c, .int .i64 (belowA level l).2] ∧ L = [rowOf 3 1 encI B c (belowA level l).1] := by
 by_cases h1 : 4 ≤ level
 · have rw_1 := decide_eq_true h1
   have e : belowA level l = ([], 80) := by unfold belowA; rw [okP_high l h1]; rfl
   rw [e]
   unfold Go.Fw.Rets
   refine enter2 func70 rfl ntmps70 rfl fun a S => sg S (.ac rfl <| .ac rfl <| .z) fun a w S => wp_seq_k fun _ hK1 => sg S (.mv rfl <| .yy (Yk (by omega) (Yp (.t rfl) Ev.c)) rfl <| .mv rfl <| .sk rfl rfl rfl <| .sk rfl rfl rfl <| .sk rfl rfl rfl <| .sk rfl rfl rfl <| .yy (Zr (.t rfl) Ev.c) rfl <| .z) fun a w S => Zd S (.t rfl) (sg S (.ac rfl <| .ac rfl <| .z) fun a w S => wp_ret (Zh (Zk S (results2 S results70 (Rv.tmp rfl) (Rv.tmp rfl)) ?_)))
   exact ⟨_, _, rfl, (S.nil_ 3 1 encI none).wd.pk, none, 0, rfl, rfl⟩
 have rw_1 := decide_eq_false h1
 have e4 := okP_low l (show level < 4 by omega)
 cases hok : okP level 3 l with
 | false =>
   rw [hok] at e4
   have rw_4 := e4
   have e : belowA level l = ([], 80) := by unfold belowA; rw [hok]; rfl
   rw [e]
   unfold Go.Fw.Rets
   refine enter2 func70 rfl ntmps70 rfl fun a S => sg S (.ac rfl <| .ac rfl <| .z) fun a w S => wp_seq_k fun _ hK1 => wp_seq_k fun _ hK2 => wp_region_lit (run S (.mv rfl <| .yy (Yf (by omega) (Yp (.t rfl) Ev.c)) rfl <| .mv rfl <| .gy rfl rfl (Ze (.t rfl)) <| .gy rfl rfl (Ze (.t rfl)) <| .gx rfl rfl (Zg call63 (.cons (.t rfl) (.cons (.t rfl) .nil)) (fun hp w W => c63 _ _ _ _ (by exact .old W (by assumption)))) <| .z) fun a w S => ?_)
   rw [rw_4] at S
   refine run S (.gy rfl rfl (Xb (.t rfl)) <| .yy (Zn (.t rfl) (.t rfl)) rfl <| .z) fun a w S => Zb (Za (hK2 _ _ (Zd S (.t rfl) (sg S (.ac rfl <| .ac rfl <| .z) fun a w S => wp_ret (Zh (Zk S (results2 S results70 (Rv.tmp rfl) (Rv.tmp rfl)) ?_))))))
   exact ⟨_, _, rfl, (S.nil_ 3 1 encI none).wd.pk, none, 0, rfl, rfl⟩
 | true =>
   rw [hok] at e4
   have rw_4 := e4
   have e : belowA level l = (belowT l, 0) := by unfold belowA; rw [if_pos hok]
   rw [e]
   have h16 := pow_16 (show level ≤ 4 by omega)
   have hbl := below_len l
   have hmem := fun x hx => okP_mem (x := x) hok hx
   have h0 := h
   obtain ⟨A, cap, rfl, hl, hcap, hA⟩ := h
   unfold Go.Fw.Rets
   refine enter2 func70 rfl ntmps70 rfl fun a S => sg S (.ac rfl <| .ac rfl <| .z) fun a w S => wp_seq_k fun _ hK1 => wp_seq_k fun _ hK2 => wp_region_lit (run S (.mv rfl <| .yy (Yf (by omega) (Yp (.t rfl) Ev.c)) rfl <| .mv rfl <| .gy rfl rfl (Ze (.t rfl)) <| .gy rfl rfl (Ze (.t rfl)) <| .gx rfl rfl (Zg call63 (.cons (.t rfl) (.cons (.t rfl) .nil)) (fun hp w W => c63 _ _ _ _ (by exact .old W (by assumption)))) <| .z) fun a w S => ?_)
   rw [rw_4] at S
   refine run S (.gy rfl rfl (Xb (.t rfl)) <| .yy (Zn (.t rfl) (.t rfl)) rfl <| .z) fun a w S => Zb (Za (hK2 _ _ (Zf S (.t rfl) (wp_skip (Za (hK1 _ _ (sg S (.ac rfl <| .z) fun a w S => wp_seq_k fun _ hK1 => sg S (.mv rfl <| .ln underlying82 rfl <| .mc rfl <| .z) fun a w S => wp_block ?_)))))))
   replace S := S.nil_ 3 1 encI none
   refine Yg S [6, 19] (X := Nat × Option Addr × Nat) (fun q => [(6, true, .slice q.2.1 (belowT (l.take q.1)).length q.2.2), (19, true, .int .i64 (q.1 : Int))]) (fun q => [rowOf 3 1 encI q.2.1 q.2.2 (belowT (l.take q.1))]) (fun q => q.1 ≤ l.length) (fun q => l.length - q.1) (0, none, 0) (Nat.zero_le _) ?_
   clear S
   rintro ⟨q, B, cB⟩ a w hq S
   dsimp only at hq S
   have hbt := below_len (l.take q)
   rw [List.length_take] at hbt
   by_cases hlt : q < l.length
   · obtain ⟨g, o, x, rfl, hx, hd, hc⟩ := Zv hA hlt
     have hxb := hmem x (List.mem_of_getElem? hx)
     have hst := below_step hx
     generalize belowT (l.take q) = M at *
     refine sg S (.lt (by omega) rfl rfl <| .z) fun a w S => wp_seq_k fun _ hK2 => Zd S (.t rfl) (wp_skip (Za (hK2 _ _ (wp_seq_k fun _ hK2 => wp_block (sg S (.ix underlying82 sizeOf3 (by omega) rfl rfl <| .yy (Zw ⟨isAgg3, sizeOf3⟩ (.t rfl) (fun _ => hc 0 _ rfl)) rfl <| .as rfl <| .z) fun a w S => wp_region_lit (run S (.mv rfl <| .mv rfl <| .yy (Yy Ev.c (.t rfl) (fun _ => by unfold I64; omega)) rfl <| .mv rfl <| .yy (Yy Ev.c (.t rfl) (fun _ => by unfold I64; omega)) rfl <| .ad (by unfold I64; omega) rfl <| .z) fun a w S => Zi (op_bsliceZ (ps := [(0, Go.Operand.tmp 25), (1, Go.Operand.tmp 28)]) (us := [_, _]) S underlying82 sizeOf3 zeroValue3 rfl rfl (.cons (.t rfl) (.cons (.t rfl) .nil)) rfl rfl fun g1 a w S => Zi (op_push2 S underlying82 inf3 rfl (k := 1) (j := 0) rfl (.t rfl) (.t rfl) rfl rfl rfl rfl rfl (by first | omega | (simp only [List.length_append, List.length_cons, List.length_nil]; omega)) rfl rfl rfl fun A1 cap1 a w S => run S (.as rfl <| .z) fun a w S => Zb (Zj (Za (hK2 _ _ (wp_region_lit (run S (.ad (by unfold I64; omega) rfl <| .mv rfl <| .z) fun a w S => Zb (Za ?_))))))))))))))
     exact ⟨(q + 1, A1, cap1), by dsimp only; omega, by dsimp only; omega, by dsimp only; rw [hst]; exact S.pk⟩
   obtain rfl : q = l.length := by omega
   rw [List.take_length] at S
   refine sg S (.ge (by omega) rfl rfl <| .z) fun a w S => wp_seq_k fun _ hK2 => Zf S (.t rfl) (wp_exit (Zc (Zc (Zs (Za (hK1 _ _ (sg S (.mv rfl <| .as rfl <| .ac rfl <| .z) fun a w S => wp_ret (Zk S (results2 S results70 (Rv.tmp rfl) (Rv.tmp rfl)) ?_))))))))
   exact ⟨_, _, rfl, S.wd.pk, _, _, rfl, rfl⟩
theorem c45 (w0 : World) (level : Int) (v1 : Value) (l : List Int) (h : Sl encI 1 w0 w0.heap.size v1 l) (hn : l.length ≤ 2097152) :
   Rets Tryz.prog 45 #[.int .i64 level, v1] w0 fun u L => ∃ B c, u = .tuple #[.slice B (belowA level l).1.length c, .int .i64 (belowA level l).2] ∧ L = [rowOf 3 1 encI B c (belowA level l).1] := by
 have h34 : (3 : Int) ≤ 4 := by omega
 cases hok : okP level 3 l with
 | false =>
   have rw_4 := hok
   have e : belowA level l = ([], 80) := by unfold belowA; rw [hok]; rfl
   rw [e]
   unfold Go.Fw.Rets
   refine enter2 func45 rfl ntmps45 rfl fun a S => sg S (.ac rfl <| .ac rfl <| .z) fun a w S => wp_seq_k fun _ hK1 => wp_seq_k fun _ hK2 => wp_region_lit (run S (.mv rfl <| .mv rfl <| .xx (Zg call64 (.cons (.t rfl) (.cons Ev.c (.cons (.t rfl) .nil))) (fun hp w W => c64 _ _ _ _ _ (by exact .old W (by assumption)) (by assumption))) rfl <| .z) fun a w S => ?_)
   rw [rw_4] at S
   refine run S (.nt rfl <| .z) fun a w S => Zb (Za (hK2 _ _ (Zd S (.t rfl) (sg S (.ac rfl <| .ac rfl <| .z) fun a w S => wp_ret (Zh (Zk S (results2 S results45 (Rv.tmp rfl) (Rv.tmp rfl)) ?_))))))
   exact ⟨_, _, rfl, (S.nil_ 3 1 encI none).wd.pk, none, 0, rfl, rfl⟩
 | true =>
   have rw_4 := hok
   have e : belowA level l = (belowT l, 0) := by unfold belowA; rw [if_pos hok]
   rw [e]
   have hlv := okP_lv hok
   have h16 := pow_16 (show level ≤ 4 by omega)
   have hbl := below_len l
   have hmem := fun x hx => okP_mem (x := x) hok hx
   have h0 := h
   obtain ⟨A, cap, rfl, hl, hcap, hA⟩ := h
   unfold Go.Fw.Rets
   refine enter2 func45 rfl ntmps45 rfl fun a S => sg S (.ac rfl <| .ac rfl <| .z) fun a w S => wp_seq_k fun _ hK1 => wp_seq_k fun _ hK2 => wp_region_lit (run S (.mv rfl <| .mv rfl <| .xx (Zg call64 (.cons (.t rfl) (.cons Ev.c (.cons (.t rfl) .nil))) (fun hp w W => c64 _ _ _ _ _ (by exact .old W (by assumption)) (by assumption))) rfl <| .z) fun a w S => ?_)
   rw [rw_4] at S
   refine run S (.nt rfl <| .z) fun a w S => Zb (Za (hK2 _ _ (Zf S (.t rfl) (wp_skip (Za (hK1 _ _ (sg S (.ac rfl <| .z) fun a w S => wp_seq_k fun _ hK1 => sg S (.ac rfl <| .z) fun a w S => wp_block ?_)))))))
   replace S := S.nil_ 3 1 encI none
   refine Yg S [6, 7] (X := Nat × Option Addr × Nat) (fun q => [(6, true, .slice q.2.1 (belowT (l.take q.1)).length q.2.2), (7, true, .int .i64 (q.1 : Int))]) (fun q => [rowOf 3 1 encI q.2.1 q.2.2 (belowT (l.take q.1))]) (fun q => q.1 ≤ l.length) (fun q => l.length - q.1) (0, none, 0) (Nat.zero_le _) ?_
   clear S
   rintro ⟨q, B, cB⟩ a w hq S
   dsimp only at hq S
   have hbt := below_len (l.take q)
   rw [List.length_take] at hbt
   by_cases hlt : q < l.length
   · obtain ⟨g, o, x, rfl, hx, hd, hc⟩ := Zv hA hlt
     have hxb := hmem x (List.mem_of_getElem? hx)
     have hst := below_step hx
     generalize belowT (l.take q) = M at *
     have hold_r := trivial
     have lr_nil := trivial
     refine wp_seq_k fun _ hK2 => sg S (.mv rfl <| .mv rfl <| .ln underlying82 rfl <| .lt (by omega) rfl rfl <| .z) fun a w S => Zd S (.t rfl) (wp_skip (Za (hK2 _ _ (wp_seq_k fun _ hK2 => wp_block (h_begin S (by kernel_rfl) [] fun a w S => hy 0 S rfl (Ze (.t rfl)) rfl fun a w S => hy 1 S rfl (Ze (.t rfl)) rfl fun a w S => hy 2 S rfl (Ze (.t rfl)) rfl fun a w S => hy 3 S rfl (Yv underlying82 sizeOf3 (.t rfl) (.t rfl) (fun _ => by omega)) rfl fun a w S => ?_)))))
     refine hy 4 S rfl (Zw ⟨isAgg3, sizeOf3⟩ (.t rfl) (fun _ => hc 0 _ rfl)) rfl fun a w S => hy 5 S rfl (Yy Ev.c (.t rfl) (fun _ => by unfold I64; omega)) rfl fun a w S => hy 6 S rfl (Ze (.t rfl)) rfl fun a w S => hy 7 S rfl (Ze (.t rfl)) rfl fun a w S => hy 8 S rfl (Yv underlying82 sizeOf3 (.t rfl) (.t rfl) (fun _ => by omega)) rfl fun a w S => ?_
     refine hy 9 S rfl (Zw ⟨isAgg3, sizeOf3⟩ (.t rfl) (fun _ => hc 0 _ rfl)) rfl fun a w S => hy 10 S rfl (Yy Ev.c (.t rfl) (fun _ => by unfold I64; omega)) rfl fun a w S => hy 11 S rfl (ys_addI (.t rfl) Ev.c (fun _ => by unfold I64; omega)) rfl fun a w S => ?_
     (refine h_m (i := 12) rfl (by kernel_rfl) (op_bsliceZ (ps := [(0, Go.Operand.tmp 23), (1, Go.Operand.tmp 29)]) (us := [_, _]) S underlying82 sizeOf3 zeroValue3 rfl rfl (.cons (.t rfl) (.cons (.t rfl) .nil)) rfl rfl ?_); clear S a w; intro g1 a w S; refine Yw S ?_)
     (refine h_m (i := 13) rfl (by kernel_rfl) (op_push2 S underlying82 inf3 rfl (k := 1) (j := 0) rfl (.t rfl) (.t rfl) rfl rfl rfl rfl rfl (by first | omega | (simp only [List.length_append, List.length_cons, List.length_nil]; omega)) rfl rfl rfl ?_); clear S a w; intro A1 cap1 a w S; refine Yw S ?_)
     refine hy 14 S rfl (Yu (.t rfl)) rfl fun a w S => Xg (by kernel_rfl) (Zj (Za (hK2 _ _ (wp_region_lit (run S (.mv rfl <| .ad (by unfold I64; omega) rfl <| .as rfl <| .z) fun a w S => Zb (Za ?_))))))
     exact ⟨(q + 1, A1, cap1), by dsimp only; omega, by dsimp only; omega, by dsimp only; rw [hst]; exact S.pk⟩
   obtain rfl : q = l.length := by omega
   rw [List.take_length] at S
   refine wp_seq_k fun _ hK2 => sg S (.mv rfl <| .mv rfl <| .ln underlying82 rfl <| .ge (by omega) rfl rfl <| .z) fun a w S => Zf S (.t rfl) (wp_exit (Zc (Zc (Zs (Za (hK1 _ _ (sg S (.mv rfl <| .as rfl <| .ac rfl <| .z) fun a w S => wp_ret (Zk S (results2 S results45 (Rv.tmp rfl) (Rv.tmp rfl)) ?_))))))))
   exact ⟨_, _, rfl, S.wd.pk, _, _, rfl, rfl⟩
theorem c30 (w0 : World) (g cap : Nat) (A : Option Addr) (gs : List Nat) (T : List KH) (level : Int) (v2 : Value) (l : List Int) (h : TreeAt w0 g A cap gs T) (hT : KhOk T) (hl : T.length ≤ 4194304) (h2 : Sl encI 1 w0 w0.heap.size v2 l) (hn : l.length ≤ 4194304) :
   Rets Tryz.prog 30 #[.pointer (some ⟨g, 0, none⟩), .int .i64 level, v2] w0 fun u L => ∃ B c, u = .tuple #[.slice B (sumsA T level l).1.length c, .int .i64 (sumsA T level l).2] ∧ L = [rowOf 77 3 Sm.enc B c (sumsA T level l).1] := by
 have hkeys := h.keys
 cases hok : okP level 4 l with
 | false =>
   have rw_4 := hok
   have e : sumsA T level l = ([], 80) := by unfold sumsA; rw [hok]; rfl
   rw [e]
   unfold Go.Fw.Rets
   refine enter3 func30 rfl ntmps30 rfl fun a S => sg S (.ac rfl <| .ac rfl <| .z) fun a w S => wp_seq_k fun _ hK1 => sg S (.mv rfl <| .xx (Zg call60 (.cons (.t rfl) .nil) (fun hp w W => c60 _ _ _ _ _ (by exact Wd.cellOld W (by assumption)))) rfl <| .nt rfl <| .z) fun a w S => Zf S (.t rfl) (wp_skip (Za (hK1 _ _ (wp_seq_k fun _ hK1 => wp_seq_k fun _ hK2 => wp_region_lit (run S (.mv rfl <| .mv rfl <| .xx (Zg call63 (.cons (.t rfl) (.cons (.t rfl) .nil)) (fun hp w W => c63 _ _ _ _ (by exact .old W (by assumption)))) rfl <| .z) fun a w S => ?_)))))
   rw [rw_4] at S
   refine run S (.nt rfl <| .z) fun a w S => Zb (Za (hK2 _ _ (Zd S (.t rfl) (sg S (.ac rfl <| .ac rfl <| .z) fun a w S => wp_ret (Zh (Zk S (results2 S results30 (Rv.tmp rfl) (Rv.tmp rfl)) ?_))))))
   exact ⟨_, _, rfl, (S.nil_ 77 3 Sm.enc none).wd.pk, none, 0, rfl, rfl⟩
 | true =>
   have rw_4 := hok
   have e : sumsA T level l = (sumsT T level l, 0) := by unfold sumsA; rw [if_pos hok]
   rw [e]
   have hlv := okP_lv hok
   have hmem := fun x hx => okP_mem (x := x) hok hx
   have h0 := h2
   obtain ⟨A', cap', rfl, hl', hcap', hA⟩ := h2
   unfold Go.Fw.Rets
   refine enter3 func30 rfl ntmps30 rfl fun a S => sg S (.ac rfl <| .ac rfl <| .z) fun a w S => wp_seq_k fun _ hK1 => sg S (.mv rfl <| .xx (Zg call60 (.cons (.t rfl) .nil) (fun hp w W => c60 _ _ _ _ _ (by exact Wd.cellOld W (by assumption)))) rfl <| .nt rfl <| .z) fun a w S => Zf S (.t rfl) (wp_skip (Za (hK1 _ _ (wp_seq_k fun _ hK1 => wp_seq_k fun _ hK2 => wp_region_lit (run S (.mv rfl <| .mv rfl <| .xx (Zg call63 (.cons (.t rfl) (.cons (.t rfl) .nil)) (fun hp w W => c63 _ _ _ _ (by exact .old W (by assumption)))) rfl <| .z) fun a w S => ?_)))))
   rw [rw_4] at S
   refine run S (.nt rfl <| .z) fun a w S => Zb (Za (hK2 _ _ (Zf S (.t rfl) (wp_skip (Za (hK1 _ _ (sg S (.ac rfl <| .z) fun a w S => wp_seq_k fun _ hK1 => sg S (.mv rfl <| .ln underlying82 rfl <| .mc rfl <| .z) fun a w S => wp_block ?_)))))))
   replace S := S.nil_ 77 3 Sm.enc none
   refine Yg S [8, 20] (X := Nat × Option Addr × Nat) (fun q => [(8, true, .slice q.2.1 (sumsT T level (l.take q.1)).length q.2.2), (20, true, .int .i64 (q.1 : Int))]) (fun q => [rowOf 77 3 Sm.enc q.2.1 q.2.2 (sumsT T level (l.take q.1))]) (fun q => q.1 ≤ l.length) (fun q => l.length - q.1) (0, none, 0) (Nat.zero_le _) ?_
   clear S
   rintro ⟨q, B, cB⟩ a w hq S
   dsimp only at hq S
   have hbt := sums_len' T level (l.take q)
   rw [List.length_take] at hbt
   by_cases hlt : q < l.length
   · obtain ⟨g, o, x, rfl, hx, hd, hc⟩ := Zv hA hlt
     have hxb := hmem x (List.mem_of_getElem? hx)
     have hst := sums_step (T := T) (level := level) hx
     obtain ⟨y, rw_y⟩ : ∃ y, hashT T (4 - level).toNat x.toNat = y := ⟨_, rfl⟩
     rw [rw_y] at hst
     generalize sumsT T level (l.take q) = M at *
     refine sg S (.lt (by omega) rfl rfl <| .z) fun a w S => wp_seq_k fun _ hK2 => Zd S (.t rfl) (wp_skip (Za (hK2 _ _ (wp_seq_k fun _ hK2 => wp_block (sg S (.ix underlying82 sizeOf3 (by omega) rfl rfl <| .yy (Zw ⟨isAgg3, sizeOf3⟩ (.t rfl) (fun _ => hc 0 _ rfl)) rfl <| .as rfl <| .z) fun a w S => wp_region_lit (run S (.mv rfl <| .mv rfl <| .mv rfl <| .mv rfl <| .mv rfl <| .xx (Zg call61 (.cons (.t rfl) (.cons (.t rfl) (.cons (.t rfl) .nil))) (fun hp w W => c61 _ _ _ _ _ _ _ _ (by exact .old W (by assumption)) (by assumption) (by assumption) (by assumption) (by assumption))) rfl <| .z) fun a w S => ?_))))))
     rw [rw_y] at S
     refine run S (.yy (Yj (ps := [(0, Go.Operand.tmp 25), (2, Go.Operand.tmp 29)]) (us := [_, _, _]) bld77 (.cons (.t rfl) (.cons (.t rfl) .nil)) rfl) rfl <| .z) fun a w S => Zi (Zp S underlying22 inf77 rfl rfl rfl (.t rfl) rfl rfl rfl fun g1 a w S => Zi (Yc S underlying22 inf77 rfl (k := 1) (j := 0) rfl (.t rfl) (.t rfl) rfl Go.Fw.Sm.mkEnc rfl rfl (by first | omega | (simp only [List.length_append, List.length_cons, List.length_nil]; omega)) rfl rfl rfl fun A1 cap1 a w S => run S (.as rfl <| .z) fun a w S => Zb (Zj (Za (hK2 _ _ (wp_region_lit (run S (.ad (by unfold I64; omega) rfl <| .mv rfl <| .z) fun a w S => Zb (Za ?_))))))))
     exact ⟨(q + 1, A1, cap1), by dsimp only; omega, by dsimp only; omega, by dsimp only; rw [hst]; exact S.pk⟩
   obtain rfl : q = l.length := by omega
   rw [List.take_length] at S
   refine sg S (.ge (by omega) rfl rfl <| .z) fun a w S => wp_seq_k fun _ hK2 => Zf S (.t rfl) (wp_exit (Zc (Zc (Zs (Za (hK1 _ _ (sg S (.mv rfl <| .as rfl <| .ac rfl <| .z) fun a w S => wp_ret (Zk S (results2 S results30 (Rv.tmp rfl) (Rv.tmp rfl)) ?_))))))))
   exact ⟨_, _, rfl, S.wd.pk, _, _, rfl, rfl⟩
end Go.Proofs.YtbijdmfilmecbaaGreat
namespace Go.Fw
open Go.RowKit
theorem keys_len (T : List KH) : ∀ l : List Int, (keysT T l).length ≤ l.length * T.length
 | [] => by simp [keysT]
 | x :: r => by
   have ih := keys_len T r
   have h1 := partT_len T x.toNat
   unfold keysT at ih ⊢
   rw [List.flatMap_cons, List.length_append, List.length_map, List.length_cons, Nat.succ_mul]
   omega
theorem unlike_len (T : List KH) (level : Int) (l : List Sm) : (unlikeT T level l).length ≤ l.length := by
 unfold unlikeT
 rw [List.length_map]
 exact List.length_filter_le _ _
end Go.Fw
namespace Go.Proofs.YtbijdmfilmecbaaGreat
open Go.Fw Go.Proofs Go.RowKit Go.Proofs.Tryz
theorem c32 (w0 : World) (g cap : Nat) (A : Option Addr) (T : List KH) (level : Int) (v2 : Value) (l : List Int) (h : DocAt w0 g A cap T) (hT : KhOk T) (hl : T.length ≤ 4194304) (h2 : Sl encI 1 w0 w0.heap.size v2 l) (hn : l.length ≤ 4194304) :
   Rets Tryz.prog 32 #[.pointer (some ⟨g, 0, none⟩), .int .i64 level, v2] w0 fun u L => ∃ B c, u = .tuple #[.slice B (sumsA T level l).1.length c, .int .i64 (sumsA T level l).2] ∧ L = [rowOf 77 3 Sm.enc B c (sumsA T level l).1] := by
 have h44 : (4 : Int) ≤ 4 := by omega
 cases hok : okP level 4 l with
 | false =>
   have rw_4 := hok
   have e : sumsA T level l = ([], 80) := by unfold sumsA; rw [hok]; rfl
   rw [e]
   unfold Go.Fw.Rets
   refine enter3 func32 rfl ntmps32 rfl fun a S => sg S (.ac rfl <| .ac rfl <| .z) fun a w S => wp_seq_k fun _ hK1 => wp_seq_k fun _ hK2 => wp_region_lit (run S (.mv rfl <| .mv rfl <| .xx (Zg call64 (.cons (.t rfl) (.cons Ev.c (.cons (.t rfl) .nil))) (fun hp w W => c64 _ _ _ _ _ (by exact .old W (by assumption)) (by assumption))) rfl <| .z) fun a w S => ?_)
   rw [rw_4] at S
   refine run S (.nt rfl <| .z) fun a w S => Zb (Za (hK2 _ _ (Zd S (.t rfl) (sg S (.ac rfl <| .ac rfl <| .z) fun a w S => wp_ret (Zh (Zk S (results2 S results32 (Rv.tmp rfl) (Rv.tmp rfl)) ?_))))))
   exact ⟨_, _, rfl, (S.nil_ 77 3 Sm.enc none).wd.pk, none, 0, rfl, rfl⟩
 | true =>
   have rw_4 := hok
   have e : sumsA T level l = (sumsT T level l, 0) := by unfold sumsA; rw [if_pos hok]
   rw [e]
   have hlv := okP_lv hok
   have hmem := fun x hx => okP_mem (x := x) hok hx
   have h0 := h2
   obtain ⟨A', cap', rfl, hl', hcap', hA⟩ := h2
   unfold Go.Fw.Rets
   refine enter3 func32 rfl ntmps32 rfl fun a S => sg S (.ac rfl <| .ac rfl <| .z) fun a w S => wp_seq_k fun _ hK1 => wp_seq_k fun _ hK2 => wp_region_lit (run S (.mv rfl <| .mv rfl <| .xx (Zg call64 (.cons (.t rfl) (.cons Ev.c (.cons (.t rfl) .nil))) (fun hp w W => c64 _ _ _ _ _ (by exact .old W (by assumption)) (by assumption))) rfl <| .z) fun a w S => ?_)
   rw [rw_4] at S
   refine run S (.nt rfl <| .z) fun a w S => Zb (Za (hK2 _ _ (Zf S (.t rfl) (wp_skip (Za (hK1 _ _ (sg S (.ac rfl <| .z) fun a w S => wp_seq_k fun _ hK1 => sg S (.ac rfl <| .z) fun a w S => wp_block ?_)))))))
   replace S := S.nil_ 77 3 Sm.enc none
   refine Yg S [8, 9] (X := Nat × Option Addr × Nat) (fun q => [(8, true, .slice q.2.1 (sumsT T level (l.take q.1)).length q.2.2), (9, true, .int .i64 (q.1 : Int))]) (fun q => [rowOf 77 3 Sm.enc q.2.1 q.2.2 (sumsT T level (l.take q.1))]) (fun q => q.1 ≤ l.length) (fun q => l.length - q.1) (0, none, 0) (Nat.zero_le _) ?_
   clear S
   rintro ⟨q, B, cB⟩ a w hq S
   dsimp only at hq S
   have hbt := sums_len' T level (l.take q)
   rw [List.length_take] at hbt
   by_cases hlt : q < l.length
   · obtain ⟨g, o, x, rfl, hx, hd, hc⟩ := Zv hA hlt
     have hxb := hmem x (List.mem_of_getElem? hx)
     have hst := sums_step (T := T) (level := level) hx
     obtain ⟨y, rw_y⟩ : ∃ y, hashT T (4 - level).toNat x.toNat = y := ⟨_, rfl⟩
     rw [rw_y] at hst
     generalize sumsT T level (l.take q) = M at *
     have hold_r := trivial
     have lr_nil := trivial
     refine wp_seq_k fun _ hK2 => sg S (.mv rfl <| .mv rfl <| .ln underlying82 rfl <| .lt (by omega) rfl rfl <| .z) fun a w S => Zd S (.t rfl) (wp_skip (Za (hK2 _ _ (wp_seq_k fun _ hK2 => wp_block (h_begin S (by kernel_rfl) [] fun a w S => hy 0 S rfl (Ze (.t rfl)) rfl fun a w S => hy 1 S rfl (Ze (.t rfl)) rfl fun a w S => hy 2 S rfl (Ze (.t rfl)) rfl fun a w S => hy 3 S rfl (Yv underlying82 sizeOf3 (.t rfl) (.t rfl) (fun _ => by omega)) rfl fun a w S => ?_)))))
     refine hy 4 S rfl (Zw ⟨isAgg3, sizeOf3⟩ (.t rfl) (fun _ => hc 0 _ rfl)) rfl fun a w S => hy 5 S rfl (Ze (.t rfl)) rfl fun a w S => hy 6 S rfl (Ze (.t rfl)) rfl fun a w S => hy 7 S rfl (Ze (.t rfl)) rfl fun a w S => hy 8 S rfl (Ze (.t rfl)) rfl fun a w S => ?_
     refine hy 9 S rfl (Yv underlying82 sizeOf3 (.t rfl) (.t rfl) (fun _ => by omega)) rfl fun a w S => hy 10 S rfl (Zw ⟨isAgg3, sizeOf3⟩ (.t rfl) (fun _ => hc 0 _ rfl)) rfl fun a w S => h_q (i := 11) S (by repeat (first | exact List.Sublist.refl _ | exact List.nil_sublist _ | refine .cons_cons _ ?_ | refine .cons _ ?_)) rfl (by kernel_rfl) (Zg call62 (.cons (.t rfl) (.cons (.t rfl) (.cons (.t rfl) .nil))) (fun hp w W => c62 _ _ _ _ _ _ _ (by exact .old W (by assumption)) (by assumption) (by assumption) (by assumption) (by assumption))) rfl fun a w S => ?_
     rw [rw_y] at S
     refine hy 12 S rfl (Yj (ps := [(0, Go.Operand.tmp 24), (2, Go.Operand.tmp 31)]) (us := [_, _, _]) bld77 (.cons (.t rfl) (.cons (.t rfl) .nil)) rfl) rfl fun a w S => ?_
     (refine h_m (i := 13) rfl (by kernel_rfl) (Zp S underlying22 inf77 rfl rfl rfl (.t rfl) rfl rfl rfl ?_); clear S a w; intro g1 a w S; refine Yw S ?_)
     (refine h_m (i := 14) rfl (by kernel_rfl) (Yc S underlying22 inf77 rfl (k := 1) (j := 0) rfl (.t rfl) (.t rfl) rfl Go.Fw.Sm.mkEnc rfl rfl (by first | omega | (simp only [List.length_append, List.length_cons, List.length_nil]; omega)) rfl rfl rfl ?_); clear S a w; intro A1 cap1 a w S; refine Yw S ?_)
     refine hy 15 S rfl (Yu (.t rfl)) rfl fun a w S => Xg (by kernel_rfl) (Zj (Za (hK2 _ _ (wp_region_lit (run S (.mv rfl <| .ad (by unfold I64; omega) rfl <| .as rfl <| .z) fun a w S => Zb (Za ?_))))))
     exact ⟨(q + 1, A1, cap1), by dsimp only; omega, by dsimp only; omega, by dsimp only; rw [hst]; exact S.pk⟩
   obtain rfl : q = l.length := by omega
   rw [List.take_length] at S
   refine wp_seq_k fun _ hK2 => sg S (.mv rfl <| .mv rfl <| .ln underlying82 rfl <| .ge (by omega) rfl rfl <| .z) fun a w S => Zf S (.t rfl) (wp_exit (Zc (Zc (Zs (Za (hK1 _ _ (sg S (.mv rfl <| .as rfl <| .ac rfl <| .z) fun a w S => wp_ret (Zk S (results2 S results32 (Rv.tmp rfl) (Rv.tmp rfl)) ?_))))))))
   exact ⟨_, _, rfl, S.wd.pk, _, _, rfl, rfl⟩
theorem c67 (w0 : World) (g cap : Nat) (A : Option Addr) (gs : List Nat) (T : List KH) (level : Int) (v2 : Value) (l : List Sm) (h : TreeAt w0 g A cap gs T) (hT : KhOk T) (hl : T.length ≤ 4194304) (h2 : Sl Sm.enc 3 w0 w0.heap.size v2 l) (hn : l.length ≤ 4194304) :
   Rets Tryz.prog 67 #[.pointer (some ⟨g, 0, none⟩), .int .i64 level, v2] w0 fun u L => ∃ B c, u = .tuple #[.slice B (unlikeA T level l).1.length c, .int .i64 (unlikeA T level l).2] ∧ L = [rowOf 3 1 encI B c (unlikeA T level l).1] := by
 have hkeys := h.keys
 have h0 := h2
 obtain ⟨A', cap', rfl, hl', hcap', hA⟩ := h2
 unfold Go.Fw.Rets
 refine enter3 func67 rfl ntmps67 rfl fun a S => sg S (.ac rfl <| .ac rfl <| .z) fun a w S => wp_seq_k fun _ hK1 => sg S (.mv rfl <| .xx (Zg call60 (.cons (.t rfl) .nil) (fun hp w W => c60 _ _ _ _ _ (by exact Wd.cellOld W (by assumption)))) rfl <| .nt rfl <| .z) fun a w S => Zf S (.t rfl) (wp_skip (Za (hK1 _ _ (sg S (.ac rfl <| .ac rfl <| .z) fun a w S => wp_seq_k fun _ hK1 => sg S (.mv rfl <| .ln underlying22 rfl <| .mc rfl <| .z) fun a w S => wp_block ?_))))
 replace S := S.nil_ 3 1 encI none
 refine Yg S [8, 19] (X := Nat × Option Addr × Nat) (fun q => [(8, true, .slice q.2.1 ((l.take q.1).map (·.place)).length q.2.2), (19, true, .int .i64 (q.1 : Int))]) (fun q => [rowOf 3 1 encI q.2.1 q.2.2 ((l.take q.1).map (·.place))]) (fun q => q.1 ≤ l.length) (fun q => l.length - q.1) (0, none, 0) (Nat.zero_le _) ?_
 clear S
 rintro ⟨q, B, cB⟩ a w hq S
 dsimp only at hq S
 have hbt : ((l.take q).map (·.place)).length = min q l.length := by rw [List.length_map, List.length_take]
 by_cases hlt : q < l.length
 · obtain ⟨g, o, x, rfl, hx, hd, hc⟩ := Zv hA hlt
   have hst : (l.take (q + 1)).map (·.place) = (l.take q).map (·.place) ++ [x.place] := by rw [List.take_add_one, hx, Option.toList_some, List.map_append]; rfl
   generalize (l.take q).map (·.place) = M at *
   refine sg S (.lt (by omega) rfl rfl <| .z) fun a w S => wp_seq_k fun _ hK2 => Zd S (.t rfl) (wp_skip (Za (hK2 _ _ (wp_seq_k fun _ hK2 => wp_block (wp_seq_k fun _ hK3 => wp_region_lit (run S (.ix underlying22 sizeOf77 (by omega) rfl rfl <| .yy (Ye ⟨isAgg77, sizeOf77⟩ (.t rfl) (vs := [_, _, _]) rfl (fun _ => hc)) rfl <| .z) fun a w S => Zi (Zt S zeroValue77 (cs := _) rfl rfl fun g1 a w S => Zi (Ya S sizeOf77 (.t rfl) (.t rfl) (k := 0) rfl rfl rfl (by simp [Value.oneCell']) fun a w S => Zb (Za (hK3 _ _ (wp_region_lit (run S (.mv rfl <| .fa underlying77 sizeOf3 0 rfl rfl rfl <| .ld gt3 0 rfl rfl rfl <| .z) fun a w S => Zi (Zp S underlying82 inf3 rfl rfl rfl (.t rfl) rfl rfl rfl fun g2 a w S => Zi (Yc S underlying82 inf3 rfl (k := 2) (j := 0) rfl (.t rfl) (.t rfl) rfl rfl rfl rfl (by first | omega | (simp only [List.length_append, List.length_cons, List.length_nil]; omega)) rfl rfl rfl fun A1 cap1 a w S => run S (.as rfl <| .z) fun a w S => Zb (Zj (Za (hK2 _ _ (wp_region_lit (run S (.ad (by unfold I64; omega) rfl <| .mv rfl <| .z) fun a w S => Zb (Za ?_))))))))))))))))))))
   exact ⟨(q + 1, A1, cap1), by dsimp only; omega, by dsimp only; omega, by dsimp only; rw [hst]; exact S.pk⟩
 obtain rfl : q = l.length := by omega
 rw [List.take_length] at S
 cases hok : okP level 4 (l.map (·.place)) with
 | false =>
   have rw_4 := hok
   have e : unlikeA T level l = ([], 80) := by unfold unlikeA; rw [hok]; rfl
   rw [e] at hK1
   refine sg S (.ge (by omega) rfl rfl <| .z) fun a w S => wp_seq_k fun _ hK2 => Zf S (.t rfl) (wp_exit (Zc (Zc (Zs (Za (hK1 _ _ (wp_seq_k fun _ hK1 => wp_seq_k fun _ hK3 => wp_region_lit (run S (.mv rfl <| .mv rfl <| .xx (Zg call63 (.cons (.t rfl) (.cons (.t rfl) .nil)) (fun hp w W => c63 _ _ _ _ (by exact Sl.of_own W (k := 0) rfl (fun _ => rfl)))) rfl <| .z) fun a w S => ?_))))))))
   simp only [List.nil_append] at S
   rw [rw_4] at S
   refine run S (.nt rfl <| .z) fun a w S => Zb (Za (hK3 _ _ (Zd S (.t rfl) (sg S (.ac rfl <| .ac rfl <| .z) fun a w S => wp_ret (Zh (Zk S (results2 S results67 (Rv.tmp rfl) (Rv.tmp rfl)) ?_))))))
   exact ⟨_, _, rfl, (S.nil_ 3 1 encI none).wd.pk, none, 0, rfl, rfl⟩
 | true =>
   have rw_4 := hok
   have e : unlikeA T level l = (unlikeT T level l, 0) := by unfold unlikeA; rw [if_pos hok]
   rw [e] at hK1
   have hlv := okP_lv hok
   have hmem := fun x hx => okP_mem (x := x) hok hx
   refine sg S (.ge (by omega) rfl rfl <| .z) fun a w S => wp_seq_k fun _ hK2 => Zf S (.t rfl) (wp_exit (Zc (Zc (Zs (Za (hK1 _ _ (wp_seq_k fun _ hK1 => wp_seq_k fun _ hK3 => wp_region_lit (run S (.mv rfl <| .mv rfl <| .xx (Zg call63 (.cons (.t rfl) (.cons (.t rfl) .nil)) (fun hp w W => c63 _ _ _ _ (by exact Sl.of_own W (k := 0) rfl (fun _ => rfl)))) rfl <| .z) fun a w S => ?_))))))))
   simp only [List.nil_append] at S
   rw [rw_4] at S
   refine run S (.nt rfl <| .z) fun a w S => Zb (Za (hK3 _ _ (Zf S (.t rfl) (wp_skip (Za (hK1 _ _ (wp_seq_k fun _ hK1 => sg S (.mv rfl <| .ln underlying22 rfl <| .mc rfl <| .z) fun a w S => wp_block ?_)))))))
   refine Yg (S.nil_ 3 1 encI none) [9, 35] (X := Nat × Option Addr × Nat) (fun q => [(9, true, .slice q.2.1 (unlikeT T level (l.take q.1)).length q.2.2), (35, true, .int .i64 (q.1 : Int))]) (fun q => [rowOf 3 1 encI q.2.1 q.2.2 (unlikeT T level (l.take q.1))]) (fun q => q.1 ≤ l.length) (fun q => l.length - q.1) (0, none, 0) (Nat.zero_le _) ?_
   clear S
   rintro ⟨q, B2, cB2⟩ a w hq S
   dsimp only at hq S
   have hbt := unlike_len T level (l.take q)
   rw [List.length_take] at hbt
   by_cases hlt : q < l.length
   · obtain ⟨g, o, x, rfl, hx, hd, hc⟩ := Zv hA hlt
     have hxb := hmem x.place (List.mem_map.2 ⟨x, List.mem_of_getElem? hx, rfl⟩)
     have hst := unlike_step (T := T) (level := level) hx
     obtain ⟨y, rw_y⟩ : ∃ y, hashT T (4 - level).toNat x.place.toNat = y := ⟨_, rfl⟩
     rw [rw_y] at hst
     generalize unlikeT T level (l.take q) = M at *
     by_cases hyx : y = x.hash
     · have rw_e := decide_eq_false (show ¬ (y ≠ x.hash) from fun h => h hyx)
       rw [if_neg (fun h => h hyx), List.append_nil] at hst
       refine sg S (.lt (by omega) rfl rfl <| .z) fun a w S => wp_seq_k fun _ hK3 => Zd S (.t rfl) (wp_skip (Za (hK3 _ _ (wp_seq_k fun _ hK3 => wp_block (wp_seq_k fun _ hK4 => wp_region_lit (run S (.ix underlying22 sizeOf77 (by omega) rfl rfl <| .yy (Ye ⟨isAgg77, sizeOf77⟩ (.t rfl) (vs := [_, _, _]) rfl (fun _ => hc)) rfl <| .z) fun a w S => Zi (Zt S zeroValue77 (cs := _) rfl rfl fun g1 a w S => Zi (Ya S sizeOf77 (.t rfl) (.t rfl) (k := 0) rfl rfl rfl (by simp [Value.oneCell']) fun a w S => Zb (Za (hK4 _ _ (wp_seq_k fun _ hK4 => Xe S (by kernel_rfl) (by kernel_rfl) fun a S => qrun S (.mv rfl <| .mv rfl <| .fa underlying77 sizeOf3 0 rfl rfl rfl <| .ld gt3 0 rfl rfl rfl <| .xx (Zg call61 (.cons (.t rfl) (.cons (.t rfl) (.cons (.t rfl) .nil))) (fun hp w W => c61 _ _ _ _ _ _ _ _ (by exact .old W (by assumption)) (by assumption) (by assumption) (by assumption) (by assumption))) rfl <| .z) fun a S => ?_)))))))))))
       rw [rw_y] at S
       refine qrun S (.fa underlying77 sizeOf60 2 rfl rfl rfl <| .ld gt60 0 rfl rfl rfl <| .yy (Yf (by omega) (Zu (.t rfl) (.t rfl))) rfl <| .z) fun a S => ?_
       (refine q_nil ?_; intro w W; replace S := St.mk S W; clear W)
       refine Za (hK4 _ _ (Zf S (.t rfl) (wp_skip (Zj (Za (hK3 _ _ (wp_region_lit (run S (.ad (by unfold I64; omega) rfl <| .mv rfl <| .z) fun a w S => Zb (Za ?_)))))))))
       exact ⟨(q + 1, B2, cB2), by dsimp only; omega, by dsimp only; omega, by dsimp only; rw [hst]; exact S.pk⟩
     · have rw_e := decide_eq_true (show y ≠ x.hash from hyx)
       rw [if_pos hyx] at hst
       refine sg S (.lt (by omega) rfl rfl <| .z) fun a w S => wp_seq_k fun _ hK3 => Zd S (.t rfl) (wp_skip (Za (hK3 _ _ (wp_seq_k fun _ hK3 => wp_block (wp_seq_k fun _ hK4 => wp_region_lit (run S (.ix underlying22 sizeOf77 (by omega) rfl rfl <| .yy (Ye ⟨isAgg77, sizeOf77⟩ (.t rfl) (vs := [_, _, _]) rfl (fun _ => hc)) rfl <| .z) fun a w S => Zi (Zt S zeroValue77 (cs := _) rfl rfl fun g1 a w S => Zi (Ya S sizeOf77 (.t rfl) (.t rfl) (k := 0) rfl rfl rfl (by simp [Value.oneCell']) fun a w S => Zb (Za (hK4 _ _ (wp_seq_k fun _ hK4 => Xe S (by kernel_rfl) (by kernel_rfl) fun a S => qrun S (.mv rfl <| .mv rfl <| .fa underlying77 sizeOf3 0 rfl rfl rfl <| .ld gt3 0 rfl rfl rfl <| .xx (Zg call61 (.cons (.t rfl) (.cons (.t rfl) (.cons (.t rfl) .nil))) (fun hp w W => c61 _ _ _ _ _ _ _ _ (by exact .old W (by assumption)) (by assumption) (by assumption) (by assumption) (by assumption))) rfl <| .z) fun a S => ?_)))))))))))
       rw [rw_y] at S
       refine qrun S (.fa underlying77 sizeOf60 2 rfl rfl rfl <| .ld gt60 0 rfl rfl rfl <| .yy (Yk (by omega) (Zu (.t rfl) (.t rfl))) rfl <| .z) fun a S => ?_
       (refine q_nil ?_; intro w W; replace S := St.mk S W; clear W)
       refine Za (hK4 _ _ (Zd S (.t rfl) (wp_region_lit (run S (.mv rfl <| .fa underlying77 sizeOf3 0 rfl rfl rfl <| .ld gt3 0 rfl rfl rfl <| .z) fun a w S => Zi (Zp S underlying82 inf3 rfl rfl rfl (.t rfl) rfl rfl rfl fun g2 a w S => Zi (Yc S underlying82 inf3 rfl (k := 2) (j := 0) rfl (.t rfl) (.t rfl) rfl rfl rfl rfl (by first | omega | (simp only [List.length_append, List.length_cons, List.length_nil]; omega)) rfl rfl rfl fun A1 cap1 a w S => run S (.as rfl <| .z) fun a w S => Zb (Zj (Za (hK3 _ _ (wp_region_lit (run S (.ad (by unfold I64; omega) rfl <| .mv rfl <| .z) fun a w S => Zb (Za ?_))))))))))))
       exact ⟨(q + 1, A1, cap1), by dsimp only; omega, by dsimp only; omega, by dsimp only; rw [hst]; exact S.pk⟩
   obtain rfl : q = l.length := by omega
   rw [List.take_length] at S
   refine sg S (.ge (by omega) rfl rfl <| .z) fun a w S => wp_seq_k fun _ hK3 => Zf S (.t rfl) (wp_exit (Zc (Zc (Zs (Za (hK1 _ _ (sg S (.mv rfl <| .as rfl <| .ac rfl <| .z) fun a w S => wp_ret (Zk S (results2 S results67 (Rv.tmp rfl) (Rv.tmp rfl)) ?_))))))))
   exact ⟨_, _, rfl, S.wd.pk, _, _, rfl, rfl⟩
theorem c43 (w0 : World) (g cap : Nat) (A : Option Addr) (T : List KH) (level : Int) (v2 : Value) (l : List Sm) (h : DocAt w0 g A cap T) (hT : KhOk T) (hl : T.length ≤ 4194304) (h2 : Sl Sm.enc 3 w0 w0.heap.size v2 l) (hn : l.length ≤ 4194304) :
   Rets Tryz.prog 43 #[.pointer (some ⟨g, 0, none⟩), .int .i64 level, v2] w0 fun u L => ∃ B c, u = .tuple #[.slice B (unlikeA T level l).1.length c, .int .i64 (unlikeA T level l).2] ∧ L = [rowOf 3 1 encI B c (unlikeA T level l).1] := by
 have h44 : (4 : Int) ≤ 4 := by omega
 have h0 := h2
 obtain ⟨A', cap', rfl, hl', hcap', hA⟩ := h2
 unfold Go.Fw.Rets
 refine enter3 func43 rfl ntmps43 rfl fun a S => sg S (.ac rfl <| .ac rfl <| .z) fun a w S => sg S (.ac rfl <| .ac rfl <| .z) fun a w S => wp_seq_k fun _ hK1 => sg S (.ac rfl <| .z) fun a w S => wp_block ?_
 replace S := S.nil_ 3 1 encI none
 refine Yg S [8, 10] (X := Nat × Option Addr × Nat) (fun q => [(8, true, .slice q.2.1 ((l.take q.1).map (·.place)).length q.2.2), (10, true, .int .i64 (q.1 : Int))]) (fun q => [rowOf 3 1 encI q.2.1 q.2.2 ((l.take q.1).map (·.place))]) (fun q => q.1 ≤ l.length) (fun q => l.length - q.1) (0, none, 0) (Nat.zero_le _) ?_
 clear S
 rintro ⟨q, B, cB⟩ a w hq S
 dsimp only at hq S
 have hbt : ((l.take q).map (·.place)).length = min q l.length := by rw [List.length_map, List.length_take]
 by_cases hlt : q < l.length
 · obtain ⟨g, o, x, rfl, hx, hd, hc⟩ := Zv hA hlt
   have hst : (l.take (q + 1)).map (·.place) = (l.take q).map (·.place) ++ [x.place] := by rw [List.take_add_one, hx, Option.toList_some, List.map_append]; rfl
   generalize (l.take q).map (·.place) = M at *
   refine wp_seq_k fun _ hK2 => sg S (.mv rfl <| .mv rfl <| .ln underlying22 rfl <| .lt (by omega) rfl rfl <| .z) fun a w S => Zd S (.t rfl) (wp_skip (Za (hK2 _ _ (wp_seq_k fun _ hK2 => wp_block (wp_region_lit (run S (.mv rfl <| .mv rfl <| .mv rfl <| .ix underlying22 sizeOf77 (by omega) rfl rfl <| .yy (Zz (FieldT.mk underlying77 rfl sizeOf3 rfl) (.t rfl)) rfl <| .yy (Zw ⟨isAgg3, sizeOf3⟩ (.t rfl) (fun _ => hc _ _ rfl)) rfl <| .z) fun a w S => Zi (Zp S underlying82 inf3 rfl rfl rfl (.t rfl) rfl rfl rfl fun g1 a w S => Zi (Yc S underlying82 inf3 rfl (k := 1) (j := 0) rfl (.t rfl) (.t rfl) rfl rfl rfl rfl (by first | omega | (simp only [List.length_append, List.length_cons, List.length_nil]; omega)) rfl rfl rfl fun A1 cap1 a w S => run S (.as rfl <| .z) fun a w S => Zb (Zj (Za (hK2 _ _ (wp_region_lit (run S (.mv rfl <| .ad (by unfold I64; omega) rfl <| .as rfl <| .z) fun a w S => Zb (Za ?_))))))))))))))
   exact ⟨(q + 1, A1, cap1), by dsimp only; omega, by dsimp only; omega, by dsimp only; rw [hst]; exact S.pk⟩
 obtain rfl : q = l.length := by omega
 rw [List.take_length] at S
 cases hok : okP level 4 (l.map (·.place)) with
 | false =>
   have rw_4 := hok
   have e : unlikeA T level l = ([], 80) := by unfold unlikeA; rw [hok]; rfl
   rw [e] at hK1
   refine wp_seq_k fun _ hK2 => sg S (.mv rfl <| .mv rfl <| .ln underlying22 rfl <| .ge (by omega) rfl rfl <| .z) fun a w S => Zf S (.t rfl) (wp_exit (Zc (Zc (Zs (Za (hK1 _ _ (wp_seq_k fun _ hK1 => wp_seq_k fun _ hK3 => wp_region_lit (run S (.mv rfl <| .mv rfl <| .xx (Zg call64 (.cons (.t rfl) (.cons Ev.c (.cons (.t rfl) .nil))) (fun hp w W => c64 _ _ _ _ _ (by exact Sl.of_own W (k := 0) rfl (fun _ => rfl)) (by assumption))) rfl <| .z) fun a w S => ?_))))))))
   simp only [List.nil_append] at S
   rw [rw_4] at S
   refine run S (.nt rfl <| .z) fun a w S => Zb (Za (hK3 _ _ (Zd S (.t rfl) (sg S (.ac rfl <| .ac rfl <| .z) fun a w S => wp_ret (Zh (Zk S (results2 S results43 (Rv.tmp rfl) (Rv.tmp rfl)) ?_))))))
   exact ⟨_, _, rfl, (S.nil_ 3 1 encI none).wd.pk, none, 0, rfl, rfl⟩
 | true =>
   have rw_4 := hok
   have e : unlikeA T level l = (unlikeT T level l, 0) := by unfold unlikeA; rw [if_pos hok]
   rw [e] at hK1
   have hlv := okP_lv hok
   have hmem := fun x hx => okP_mem (x := x) hok hx
   refine wp_seq_k fun _ hK2 => sg S (.mv rfl <| .mv rfl <| .ln underlying22 rfl <| .ge (by omega) rfl rfl <| .z) fun a w S => Zf S (.t rfl) (wp_exit (Zc (Zc (Zs (Za (hK1 _ _ (wp_seq_k fun _ hK1 => wp_seq_k fun _ hK3 => wp_region_lit (run S (.mv rfl <| .mv rfl <| .xx (Zg call64 (.cons (.t rfl) (.cons Ev.c (.cons (.t rfl) .nil))) (fun hp w W => c64 _ _ _ _ _ (by exact Sl.of_own W (k := 0) rfl (fun _ => rfl)) (by assumption))) rfl <| .z) fun a w S => ?_))))))))
   simp only [List.nil_append] at S
   rw [rw_4] at S
   refine run S (.nt rfl <| .z) fun a w S => Zb (Za (hK3 _ _ (Zf S (.t rfl) (wp_skip (Za (hK1 _ _ (wp_seq_k fun _ hK1 => sg S (.ac rfl <| .z) fun a w S => wp_block ?_)))))))
   refine Yg (S.nil_ 3 1 encI none) [9, 11] (X := Nat × Option Addr × Nat) (fun q => [(9, true, .slice q.2.1 (unlikeT T level (l.take q.1)).length q.2.2), (11, true, .int .i64 (q.1 : Int))]) (fun q => [rowOf 3 1 encI q.2.1 q.2.2 (unlikeT T level (l.take q.1))]) (fun q => q.1 ≤ l.length) (fun q => l.length - q.1) (0, none, 0) (Nat.zero_le _) ?_
   clear S
   rintro ⟨q, B2, cB2⟩ a w hq S
   dsimp only at hq S
   have hbt := unlike_len T level (l.take q)
   rw [List.length_take] at hbt
   by_cases hlt : q < l.length
   · obtain ⟨g, o, x, rfl, hx, hd, hc⟩ := Zv hA hlt
     have hxb := hmem x.place (List.mem_map.2 ⟨x, List.mem_of_getElem? hx, rfl⟩)
     have hst := unlike_step (T := T) (level := level) hx
     obtain ⟨y, rw_y⟩ : ∃ y, hashT T (4 - level).toNat x.place.toNat = y := ⟨_, rfl⟩
     rw [rw_y] at hst
     generalize unlikeT T level (l.take q) = M at *
     by_cases hyx : y = x.hash
     · have rw_e := decide_eq_false (show ¬ (y ≠ x.hash) from fun h => h hyx)
       rw [if_neg (fun h => h hyx), List.append_nil] at hst
       refine wp_seq_k fun _ hK3 => sg S (.mv rfl <| .mv rfl <| .ln underlying22 rfl <| .lt (by omega) rfl rfl <| .z) fun a w S => Zd S (.t rfl) (wp_skip (Za (hK3 _ _ (wp_seq_k fun _ hK3 => wp_block (wp_seq_k fun _ hK4 => Xe S (by kernel_rfl) (by kernel_rfl) fun a S => qrun S (.mv rfl <| .mv rfl <| .mv rfl <| .mv rfl <| .ix underlying22 sizeOf77 (by omega) rfl rfl <| .yy (Zz (FieldT.mk underlying77 rfl sizeOf3 rfl) (.t rfl)) rfl <| .yy (Zw ⟨isAgg3, sizeOf3⟩ (.t rfl) (fun _ => hc _ _ rfl)) rfl <| .xx (Zg call62 (.cons (.t rfl) (.cons (.t rfl) (.cons (.t rfl) .nil))) (fun hp w W => c62 _ _ _ _ _ _ _ (by exact .old W (by assumption)) (by assumption) (by assumption) (by assumption) (by assumption))) rfl <| .z) fun a S => ?_)))))
       rw [rw_y] at S
       refine qrun S (.mv rfl <| .mv rfl <| .ix underlying22 sizeOf77 (by omega) rfl rfl <| .yy (Zz (FieldT.mk underlying77 rfl sizeOf60 rfl) (.t rfl)) rfl <| .yy (Zw ⟨isAgg60, sizeOf60⟩ (.t rfl) (fun _ => hc _ _ rfl)) rfl <| .yy (Yf (by omega) (Zu (.t rfl) (.t rfl))) rfl <| .z) fun a S => ?_
       (refine q_nil ?_; intro w W; replace S := St.mk S W; clear W)
       refine Za (hK4 _ _ (Zf S (.t rfl) (wp_skip (Zj (Za (hK3 _ _ (wp_region_lit (run S (.mv rfl <| .ad (by unfold I64; omega) rfl <| .as rfl <| .z) fun a w S => Zb (Za ?_)))))))))
       exact ⟨(q + 1, B2, cB2), by dsimp only; omega, by dsimp only; omega, by dsimp only; rw [hst]; exact S.pk⟩
     · have rw_e := decide_eq_true (show y ≠ x.hash from hyx)
       rw [if_pos hyx] at hst
       refine wp_seq_k fun _ hK3 => sg S (.mv rfl <| .mv rfl <| .ln underlying22 rfl <| .lt (by omega) rfl rfl <| .z) fun a w S => Zd S (.t rfl) (wp_skip (Za (hK3 _ _ (wp_seq_k fun _ hK3 => wp_block (wp_seq_k fun _ hK4 => Xe S (by kernel_rfl) (by kernel_rfl) fun a S => qrun S (.mv rfl <| .mv rfl <| .mv rfl <| .mv rfl <| .ix underlying22 sizeOf77 (by omega) rfl rfl <| .yy (Zz (FieldT.mk underlying77 rfl sizeOf3 rfl) (.t rfl)) rfl <| .yy (Zw ⟨isAgg3, sizeOf3⟩ (.t rfl) (fun _ => hc _ _ rfl)) rfl <| .xx (Zg call62 (.cons (.t rfl) (.cons (.t rfl) (.cons (.t rfl) .nil))) (fun hp w W => c62 _ _ _ _ _ _ _ (by exact .old W (by assumption)) (by assumption) (by assumption) (by assumption) (by assumption))) rfl <| .z) fun a S => ?_)))))
       rw [rw_y] at S
       refine qrun S (.mv rfl <| .mv rfl <| .ix underlying22 sizeOf77 (by omega) rfl rfl <| .yy (Zz (FieldT.mk underlying77 rfl sizeOf60 rfl) (.t rfl)) rfl <| .yy (Zw ⟨isAgg60, sizeOf60⟩ (.t rfl) (fun _ => hc _ _ rfl)) rfl <| .yy (Yk (by omega) (Zu (.t rfl) (.t rfl))) rfl <| .z) fun a S => ?_
       (refine q_nil ?_; intro w W; replace S := St.mk S W; clear W)
       refine Za (hK4 _ _ (Zd S (.t rfl) (wp_region_lit (run S (.mv rfl <| .mv rfl <| .mv rfl <| .ix underlying22 sizeOf77 (by omega) rfl rfl <| .yy (Zz (FieldT.mk underlying77 rfl sizeOf3 rfl) (.t rfl)) rfl <| .yy (Zw ⟨isAgg3, sizeOf3⟩ (.t rfl) (fun _ => hc _ _ rfl)) rfl <| .z) fun a w S => Zi (Zp S underlying82 inf3 rfl rfl rfl (.t rfl) rfl rfl rfl fun g1 a w S => Zi (Yc S underlying82 inf3 rfl (k := 1) (j := 0) rfl (.t rfl) (.t rfl) rfl rfl rfl rfl (by first | omega | (simp only [List.length_append, List.length_cons, List.length_nil]; omega)) rfl rfl rfl fun A1 cap1 a w S => run S (.as rfl <| .z) fun a w S => Zb (Zj (Za (hK3 _ _ (wp_region_lit (run S (.mv rfl <| .ad (by unfold I64; omega) rfl <| .as rfl <| .z) fun a w S => Zb (Za ?_))))))))))))
       exact ⟨(q + 1, A1, cap1), by dsimp only; omega, by dsimp only; omega, by dsimp only; rw [hst]; exact S.pk⟩
   obtain rfl : q = l.length := by omega
   rw [List.take_length] at S
   refine wp_seq_k fun _ hK3 => sg S (.mv rfl <| .mv rfl <| .ln underlying22 rfl <| .ge (by omega) rfl rfl <| .z) fun a w S => Zf S (.t rfl) (wp_exit (Zc (Zc (Zs (Za (hK1 _ _ (sg S (.mv rfl <| .as rfl <| .ac rfl <| .z) fun a w S => wp_ret (Zk S (results2 S results43 (Rv.tmp rfl) (Rv.tmp rfl)) ?_))))))))
   exact ⟨_, _, rfl, S.wd.pk, _, _, rfl, rfl⟩
end Go.Proofs.YtbijdmfilmecbaaGreat
namespace Go.Fw
open Go.RowKit
theorem keys_room (T : List KH) (l : List Int) (hT : T.length ≤ 1048576) (hl : l.length ≤ 1048576) : (keysT T l).length ≤ 1099511627776 :=
 Nat.le_trans (keys_len T l) (Nat.mul_le_mul hl hT)
end Go.Fw
namespace Go.Proofs.YtbijdmfilmecbaaGreat
open Go.Fw Go.Proofs Go.RowKit Go.Proofs.Tryz
theorem c68 (w0 : World) (g cap : Nat) (A : Option Addr) (gs : List Nat) (T : List KH) (v2 : Value) (l : List Int) (h : TreeAt w0 g A cap gs T) (hT : KhOk T) (hl : T.length ≤ 1048576) (h2 : Sl encI 1 w0 w0.heap.size v2 l) (hn : l.length ≤ 1048576) :
   Rets Tryz.prog 68 #[.pointer (some ⟨g, 0, none⟩), v2] w0 fun u L => ∃ B c, u = .tuple #[.slice B (keysA T l).1.length c, .int .i64 (keysA T l).2] ∧ L = [rowOf 77 3 Sm.enc B c (keysA T l).1] := by
 have hkeys := h.keys
 have hgl := h.len
 cases hok : okP 4 4 l with
 | false =>
   have rw_4 := hok
   have e : keysA T l = ([], 80) := by unfold keysA; rw [hok]; rfl
   rw [e]
   unfold Go.Fw.Rets
   refine enter2 func68 rfl ntmps68 rfl fun a S => sg S (.ac rfl <| .ac rfl <| .z) fun a w S => wp_seq_k fun _ hK1 => sg S (.mv rfl <| .xx (Zg call60 (.cons (.t rfl) .nil) (fun hp w W => c60 _ _ _ _ _ (by exact Wd.cellOld W (by assumption)))) rfl <| .nt rfl <| .z) fun a w S => Zf S (.t rfl) (wp_skip (Za (hK1 _ _ (wp_seq_k fun _ hK1 => wp_seq_k fun _ hK2 => wp_region_lit (run S (.mv rfl <| .xx (Zg call63 (.cons Ev.c (.cons (.t rfl) .nil)) (fun hp w W => c63 _ _ _ _ (by exact .old W (by assumption)))) rfl <| .z) fun a w S => ?_)))))
   rw [rw_4] at S
   refine run S (.nt rfl <| .z) fun a w S => Zb (Za (hK2 _ _ (Zd S (.t rfl) (sg S (.ac rfl <| .ac rfl <| .z) fun a w S => wp_ret (Zh (Zk S (results2 S results68 (Rv.tmp rfl) (Rv.tmp rfl)) ?_))))))
   exact ⟨_, _, rfl, (S.nil_ 77 3 Sm.enc none).wd.pk, none, 0, rfl, rfl⟩
 | true =>
   have rw_4 := hok
   have e : keysA T l = (keysT T l, 0) := by unfold keysA; rw [if_pos hok]
   rw [e]
   have hmem := fun x hx => okP_mem (x := x) hok hx
   have h0 := h2
   obtain ⟨A', cap', rfl, hl', hcap', hA⟩ := h2
   unfold Go.Fw.Rets
   refine enter2 func68 rfl ntmps68 rfl fun a S => sg S (.ac rfl <| .ac rfl <| .z) fun a w S => wp_seq_k fun _ hK1 => sg S (.mv rfl <| .xx (Zg call60 (.cons (.t rfl) .nil) (fun hp w W => c60 _ _ _ _ _ (by exact Wd.cellOld W (by assumption)))) rfl <| .nt rfl <| .z) fun a w S => Zf S (.t rfl) (wp_skip (Za (hK1 _ _ (wp_seq_k fun _ hK1 => wp_seq_k fun _ hK2 => wp_region_lit (run S (.mv rfl <| .xx (Zg call63 (.cons Ev.c (.cons (.t rfl) .nil)) (fun hp w W => c63 _ _ _ _ (by exact .old W (by assumption)))) rfl <| .z) fun a w S => ?_)))))
   rw [rw_4] at S
   refine run S (.nt rfl <| .z) fun a w S => Zb (Za (hK2 _ _ (Zf S (.t rfl) (wp_skip (Za (hK1 _ _ (sg S (.ac rfl <| .z) fun a w S => wp_seq_k fun _ hK1 => sg S (.mv rfl <| .ln underlying82 rfl <| .mc rfl <| .z) fun a w S => wp_block ?_)))))))
   replace S := S.nil_ 77 3 Sm.enc none
   refine Yg S [6, 19] (X := Nat × Option Addr × Nat) (fun q => [(6, true, .slice q.2.1 (keysT T (l.take q.1)).length q.2.2), (19, true, .int .i64 (q.1 : Int))]) (fun q => [rowOf 77 3 Sm.enc q.2.1 q.2.2 (keysT T (l.take q.1))]) (fun q => q.1 ≤ l.length) (fun q => l.length - q.1) (0, none, 0) (Nat.zero_le _) ?_
   clear S
   rintro ⟨q, B, cB⟩ a w hq S
   dsimp only at hq S
   have hbt := keys_room T (l.take q) hl (by rw [List.length_take]; omega)
   by_cases hlt : q < l.length
   · obtain ⟨g3, o3, x, rfl, hx, hd, hc⟩ := Zv hA hlt
     have hxb := hmem x (List.mem_of_getElem? hx)
     obtain ⟨i, rfl⟩ : ∃ i : Nat, x = (i : Int) := ⟨x.toNat, by omega⟩
     have hi : i < 16 := by have h5 := hxb.2; have h6 : (2 : Int) ^ (4 : Int).toNat = 16 := by decide
                            rw [h6] at h5; omega
     have hst := keys_step (T := T) hx
     rw [Int.toNat_natCast] at hst
     generalize keysT T (l.take q) = M at *
     obtain ⟨A2, cap2, e2, hl2, hcap2, hA2⟩ := h.row
     cases e2
     obtain ⟨gr, o_, b, rfl, hb, hd2, hcx⟩ := Zv hA2 (show i < gs.length by omega)
     obtain ⟨o, ho, hC⟩ := h.maps i b hb
     have hpl := partT_len T i
     refine sg S (.lt (by omega) rfl rfl <| .z) fun a w S => wp_seq_k fun _ hK2 => Zd S (.t rfl) (wp_skip (Za (hK2 _ _ (wp_seq_k fun _ hK2 => wp_block (sg S (.ix underlying82 sizeOf3 (by omega) rfl rfl <| .yy (Zw ⟨isAgg3, sizeOf3⟩ (.t rfl) (fun _ => hc 0 _ rfl)) rfl <| .as rfl <| .z) fun a w S => wp_seq_k fun _ hK3 => wp_region_lit (run S (.mv rfl <| .yy (Zy (.t rfl)) rfl <| .fa underlying55 sizeOf53 0 rfl rfl rfl <| .mv rfl <| .z) fun a w S => ?_))))))
     (refine Zi (Zq S call97 (.cons (.t rfl) (.cons (.t rfl) .nil)) (c97 _ _ _ _ _ _ _ (by exact .old S.wd (by assumption)) (by assumption) (by assumption) (by omega)) rfl ?_); clear S a w; rintro _ _ ⟨B1, c1, rfl, rfl⟩ a w S)
     refine run S (.ln underlying58 rfl <| .mc rfl <| .z) fun a w S => Zb (Za (hK3 _ _ (wp_block ?_)))
     rw [show M = M ++ ((partT T i).take 0).map (smP i) by simp] at S
     refine Yg S [6, 29] (X := Nat × Option Addr × Nat) (fun j => [(6, true, .slice j.2.1 (M ++ ((partT T i).take j.1).map (smP i)).length j.2.2), (29, true, .int .i64 (j.1 : Int))]) (fun j => [rowOf 77 3 Sm.enc j.2.1 j.2.2 (M ++ ((partT T i).take j.1).map (smP i)), rowOf 9 1 encS' B1 c1 ((partT T i).map (·.1))]) (fun j => j.1 ≤ (partT T i).length) (fun j => (partT T i).length - j.1) (0, B, cB) (Nat.zero_le _) ?_
     clear S
     rintro ⟨j, B2, cB2⟩ a w hj S
     dsimp only at hj S
     have hml : ((partT T i).map (·.1)).length = (partT T i).length := List.length_map ..
     have hjl : (M ++ ((partT T i).take j).map (smP i)).length = M.length + min j (partT T i).length := by rw [List.length_append, List.length_map, List.length_take]
     by_cases hjt : j < (partT T i).length
     · obtain ⟨y, hy⟩ : ∃ y, (partT T i)[j]? = some y := ⟨_, List.getElem?_eq_getElem hjt⟩
       obtain ⟨ga, rfl⟩ := S.wd.row_at (k := 1) rfl (by have := (S.wd.room (k := 1) rfl).1; omega)
       have hy1 : ((partT T i).map (·.1))[j]? = some y.1 := by rw [List.getElem?_map, hy]; rfl
       have hmx : (y.1, y.2) ∈ partT T i := List.mem_of_getElem? hy
       have hyl := name_len (hT.name y (Yz.1 hmx).1)
       have hst2 : M ++ ((partT T i).take (j + 1)).map (smP i) = (M ++ ((partT T i).take j).map (smP i)) ++ [⟨i, y.1, y.2⟩] := by rw [List.take_add_one, hy, Option.toList_some, List.map_append, List.append_assoc]; rfl
       generalize M ++ ((partT T i).take j).map (smP i) = M2 at *
       refine sg S (.lt (by omega) rfl rfl <| .z) fun a w S => wp_seq_k fun _ hK3 => Zd S (.t rfl) (wp_skip (Za (hK3 _ _ (wp_seq_k fun _ hK3 => wp_block (sg S (.ix underlying58 sizeOf9 (by omega) rfl rfl <| .yy (ys_ldW0 ⟨isAgg9, sizeOf9⟩ (.t rfl) (k := 1) rfl hy1 (fun _ => rfl) rfl) rfl <| .as rfl <| .z) fun a w S => wp_region_lit (run S (.mv rfl <| .mv rfl <| .mv rfl <| .mv rfl <| .yy (Zy (.t rfl)) rfl <| .fa underlying55 sizeOf53 0 rfl rfl rfl <| .fa underlying53 sizeOf51 0 rfl rfl rfl <| .yy (Zw ⟨isAgg51, sizeOf51⟩ (.t rfl) (fun _ => hkeys)) rfl <| .mv rfl <| .ix underlying51 sizeOf146 (by omega) rfl rfl <| .yy (Zw ⟨isAgg146, sizeOf146⟩ (.t rfl) (fun _ => hcx 0 _ rfl)) rfl <| .mv rfl <| .yy (ys_lookSO smT146 (.t rfl) (.t rfl) (by assumption) (by assumption) (by assumption)) rfl <| .yy (Yj (ps := [(0, Go.Operand.tmp 34), (1, Go.Operand.tmp 35), (2, Go.Operand.tmp 45)]) (us := [_, _, _]) bld77 (.cons (.t rfl) (.cons (.t rfl) (.cons (.t rfl) .nil))) rfl) rfl <| .z) fun a w S => Zi (Zp S underlying22 inf77 rfl rfl rfl (.t rfl) rfl rfl rfl fun g1 a w S => ?_)))))))
       refine Zi (Yc S underlying22 inf77 rfl (k := 1) (j := 0) rfl (.t rfl) (.t rfl) rfl Go.Fw.Sm.mkEnc rfl rfl (by first | omega | (simp only [List.length_append, List.length_cons, List.length_nil]; omega)) rfl rfl rfl fun A1 cap1 a w S => run S (.as rfl <| .z) fun a w S => Zb (Zj (Za (hK3 _ _ (wp_region_lit (run S (.ad (by unfold I64; omega) rfl <| .mv rfl <| .z) fun a w S => Zb (Za ?_)))))))
       exact ⟨(j + 1, A1, cap1), by dsimp only; omega, by dsimp only; omega, by dsimp only; rw [hst2]; exact S.pk⟩
     obtain rfl : j = (partT T i).length := by omega
     rw [List.take_length, ← hst] at S
     refine sg S (.ge (by omega) rfl rfl <| .z) fun a w S => wp_seq_k fun _ hK3 => Zf S (.t rfl) (wp_exit (Zc (Zc (Zs (Zj (Za (hK2 _ _ (wp_region_lit (run S (.ad (by unfold I64; omega) rfl <| .mv rfl <| .z) fun a w S => Zb (Za ?_))))))))))
     exact ⟨(q + 1, B2, cB2), by dsimp only; omega, by dsimp only; omega, S.pk⟩
   obtain rfl : q = l.length := by omega
   rw [List.take_length] at S
   refine sg S (.ge (by omega) rfl rfl <| .z) fun a w S => wp_seq_k fun _ hK2 => Zf S (.t rfl) (wp_exit (Zc (Zc (Zs (Za (hK1 _ _ (sg S (.mv rfl <| .as rfl <| .ac rfl <| .z) fun a w S => wp_ret (Zk S (results2 S results68 (Rv.tmp rfl) (Rv.tmp rfl)) ?_))))))))
   exact ⟨_, _, rfl, S.wd.pk, _, _, rfl, rfl⟩
theorem c73 (w0 : World) (g cap : Nat) (A : Option Addr) (T : List KH) (v2 : Value) (l : List Int) (h : DocAt w0 g A cap T) (hT : KhOk T) (hl : T.length ≤ 1048576) (h2 : Sl encI 1 w0 w0.heap.size v2 l) (hn : l.length ≤ 1048576) :
   Rets Tryz.prog 73 #[.pointer (some ⟨g, 0, none⟩), v2] w0 fun u L => ∃ B c, u = .tuple #[.slice B (keysA T l).1.length c, .int .i64 (keysA T l).2] ∧ L = [rowOf 77 3 Sm.enc B c (keysA T l).1] := by
 have h44 : (4 : Int) ≤ 4 := by omega
 cases hok : okP 4 4 l with
 | false =>
   have rw_4 := hok
   have e : keysA T l = ([], 80) := by unfold keysA; rw [hok]; rfl
   rw [e]
   unfold Go.Fw.Rets
   refine enter2 func73 rfl ntmps73 rfl fun a S => sg S (.ac rfl <| .ac rfl <| .z) fun a w S => wp_seq_k fun _ hK1 => wp_seq_k fun _ hK2 => wp_region_lit (run S (.mv rfl <| .xx (Zg call64 (.cons Ev.c (.cons Ev.c (.cons (.t rfl) .nil))) (fun hp w W => c64 _ _ _ _ _ (by exact .old W (by assumption)) (by assumption))) rfl <| .z) fun a w S => ?_)
   rw [rw_4] at S
   refine run S (.nt rfl <| .z) fun a w S => Zb (Za (hK2 _ _ (Zd S (.t rfl) (sg S (.ac rfl <| .ac rfl <| .z) fun a w S => wp_ret (Zh (Zk S (results2 S results73 (Rv.tmp rfl) (Rv.tmp rfl)) ?_))))))
   exact ⟨_, _, rfl, (S.nil_ 77 3 Sm.enc none).wd.pk, none, 0, rfl, rfl⟩
 | true =>
   have rw_4 := hok
   have e : keysA T l = (keysT T l, 0) := by unfold keysA; rw [if_pos hok]
   rw [e]
   have hmem := fun x hx => okP_mem (x := x) hok hx
   have h0 := h2
   obtain ⟨A', cap', rfl, hl', hcap', hA⟩ := h2
   unfold Go.Fw.Rets
   refine enter2 func73 rfl ntmps73 rfl fun a S => sg S (.ac rfl <| .ac rfl <| .z) fun a w S => wp_seq_k fun _ hK1 => wp_seq_k fun _ hK2 => wp_region_lit (run S (.mv rfl <| .xx (Zg call64 (.cons Ev.c (.cons Ev.c (.cons (.t rfl) .nil))) (fun hp w W => c64 _ _ _ _ _ (by exact .old W (by assumption)) (by assumption))) rfl <| .z) fun a w S => ?_)
   rw [rw_4] at S
   refine run S (.nt rfl <| .z) fun a w S => Zb (Za (hK2 _ _ (Zf S (.t rfl) (wp_skip (Za (hK1 _ _ (sg S (.ac rfl <| .z) fun a w S => wp_seq_k fun _ hK1 => sg S (.ac rfl <| .z) fun a w S => wp_block ?_)))))))
   replace S := S.nil_ 77 3 Sm.enc none
   refine Yg S [6, 7] (X := Nat × Option Addr × Nat) (fun q => [(6, true, .slice q.2.1 (keysT T (l.take q.1)).length q.2.2), (7, true, .int .i64 (q.1 : Int))]) (fun q => [rowOf 77 3 Sm.enc q.2.1 q.2.2 (keysT T (l.take q.1))]) (fun q => q.1 ≤ l.length) (fun q => l.length - q.1) (0, none, 0) (Nat.zero_le _) ?_
   clear S
   rintro ⟨q, B, cB⟩ a w hq S
   dsimp only at hq S
   have hbt := keys_room T (l.take q) hl (by rw [List.length_take]; omega)
   by_cases hlt : q < l.length
   · obtain ⟨g3, o3, x, rfl, hx, hd, hc⟩ := Zv hA hlt
     have hxb := hmem x (List.mem_of_getElem? hx)
     obtain ⟨i, rfl⟩ : ∃ i : Nat, x = (i : Int) := ⟨x.toNat, by omega⟩
     have hi : i < 16 := by have h5 := hxb.2; have h6 : (2 : Int) ^ (4 : Int).toNat = 16 := by decide
                            rw [h6] at h5; omega
     have hst := keys_step (T := T) hx
     rw [Int.toNat_natCast] at hst
     generalize keysT T (l.take q) = M at *
     have hpl := partT_len T i
     have hml : ((partT T i).map (smP i)).length = (partT T i).length := List.length_map ..
     refine wp_seq_k fun _ hK2 => sg S (.mv rfl <| .mv rfl <| .ln underlying82 rfl <| .lt (by omega) rfl rfl <| .z) fun a w S => Zd S (.t rfl) (wp_skip (Za (hK2 _ _ (wp_seq_k fun _ hK2 => wp_block (wp_region_lit (run S (.mv rfl <| .mv rfl <| .mv rfl <| .mv rfl <| .ix underlying82 sizeOf3 (by omega) rfl rfl <| .yy (Zw ⟨isAgg3, sizeOf3⟩ (.t rfl) (fun _ => hc 0 _ rfl)) rfl <| .z) fun a w S => ?_))))))
     (refine Zi (Zq S call93 (.cons (.t rfl) (.cons (.t rfl) .nil)) (c93 _ _ _ _ _ _ (by exact .old S.wd (by assumption)) (by assumption) (by omega) (by assumption)) rfl ?_); clear S a w; rintro _ _ ⟨B1, c1, rfl, rfl⟩ a w S)
     refine Zi (Xi _ S underlying22 underlying22 (.inr ⟨_, rfl⟩) inf77 rfl (k := 1) rfl (.t rfl) (.t rfl) (Src.row S.wd (k := 0) rfl (Go.Fw.flat_one Go.Fw.Sm.enc_one _)) (by first | omega | (simp only [List.length_append, List.length_cons, List.length_nil]; omega) | (simp; omega)) rfl rfl rfl fun A1 cap1 a w S => run S (.as rfl <| .z) fun a w S => Zb (Zj (Za (hK2 _ _ (wp_region_lit (run S (.mv rfl <| .ad (by unfold I64; omega) rfl <| .as rfl <| .z) fun a w S => Zb (Za ?_)))))))
     exact ⟨(q + 1, A1, cap1), by dsimp only; omega, by dsimp only; omega, by dsimp only; rw [hst]; exact S.pk⟩
   obtain rfl : q = l.length := by omega
   rw [List.take_length] at S
   refine wp_seq_k fun _ hK2 => sg S (.mv rfl <| .mv rfl <| .ln underlying82 rfl <| .ge (by omega) rfl rfl <| .z) fun a w S => Zf S (.t rfl) (wp_exit (Zc (Zc (Zs (Za (hK1 _ _ (sg S (.mv rfl <| .as rfl <| .ac rfl <| .z) fun a w S => wp_ret (Zk S (results2 S results73 (Rv.tmp rfl) (Rv.tmp rfl)) ?_))))))))
   exact ⟨_, _, rfl, S.wd.pk, _, _, rfl, rfl⟩
end Go.Proofs.YtbijdmfilmecbaaGreat
