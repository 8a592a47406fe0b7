/- Contracts and laws that the statement GossipNobody leans on, part 1. -/
import Derived.Ground.SlsfProg
import Derived.Lib.Overlaps
import Derived.MapKept
import Derived.Maps.RangeRun
import Derived.Shelf.GgSortFunc.InsertionK
import Derived.Shelf.SlGeneric
import Derived.Shelf.SlSortCmp.Insertion
import Derived.Shelf.SlSortCmp.NoneTotal
import Derived.Shelf.SlSortCmp.WholeK
import Derived.WideLaws
import Derived.WalkKit
import Derived.Below
import Derived.OrdersHeld
import Derived.Deep.Quiet
import Derived.Laws.StructEq
import Derived.Deep.MidRow
import Derived.Sort.Grow
import Derived.Test.YtjfeeiljinbmjaaRows
import Derived.ProofKit
import Derived.OpenShut
import Derived.JoinedCond
import Derived.Deep.Slices
import Derived.Deep.Fields
import Derived.ChangeSame
import Derived.Carry
import Derived.Lib.SmallJoins
import Derived.WalkSpells
import Derived.ScopeJumps
import Derived.LoopN
import Derived.Laws.Pointers
import Derived.Recover
import Derived.Test.YtjfeeiljinbmjaaProg
set_option linter.unusedVariables false
set_option linter.unusedSimpArgs false
namespace Go.Fw
open Go.RowKit
abbrev KL := List (Nat × Bool × Value)
def look : KL → Nat → Option (Bool × Value)
  | [], _ => none
  | (j, v) :: r, i => bif Nat.beq i j then some v else look r i
structure Kn (n : Nat) (K : KL) (a : Act) : Prop where
  defers : a.defers = []
  size : a.tmps.size = n
  slot : ∀ i g v, look K i = some (g, v) → a.tmps[i]? = some (bif g then v else undef)
def Ev (n : Nat) (b : Bool) (K : KL) (x : Operand) (v : Value) : Prop := ∀ a, b = true → Kn n K a → a.eval x = v
def EvL (n : Nat) (b : Bool) (K : KL) (xs : List Operand) (vs : List Value) : Prop := ∀ a, b = true → Kn n K a → xs.map a.eval = vs
section kn
variable {n : Nat} {K : KL} {a : Act} {b : Bool}
theorem Ev.t {t : Nat} {v : Value} (h : look K t = some (true, v)) : Ev n b K (.tmp t) v := fun a _ hk => by
  simp [Act.eval, hk.slot t true v h]
theorem Ev.g {t : Nat} {v : Value} (h : look K t = some (b, v)) : Ev n b K (.tmp t) v := fun a hb hk => by
  simp [Act.eval, hk.slot t b v h, hb]
theorem Ev.c {v : Value} : Ev n b K (.const v) v := fun _ _ _ => rfl
theorem Ev.f {f : Nat} : Ev n b K (.func f) (.func (.func f) #[] #[]) := fun _ _ _ => rfl
theorem EvL.nil : EvL n b K [] [] := fun _ _ _ => rfl
theorem EvL.cons {x : Operand} {xs : List Operand} {v : Value} {vs : List Value} (h : Ev n b K x v) (h' : EvL n b K xs vs) : EvL n b K (x :: xs) (v :: vs) := fun a hb hk => by
  simp only [List.map_cons, h a hb hk, h' a hb hk]
theorem Kn.putg (h : Kn n K a) {d : Nat} (hd : Nat.blt d n = true) (g : Bool) (v : Value) : Kn n ((d, g, v) :: K) (a.put (some d) (bif g then v else undef)) := by
  refine ⟨h.defers, by simp [Act.put, h.size], fun i g' u hu => ?_⟩
  have hdn : d < n := by simpa [Nat.blt_eq] using hd
  unfold look at hu
  by_cases hi : i = d
  · subst hi
    simp only [Nat.beq_refl, cond_true, Option.some.injEq, Prod.mk.injEq] at hu
    obtain ⟨rfl, rfl⟩ := hu
    simp [Act.put, h.size, hdn]
  · have : Nat.beq i d = false := by simpa [Nat.beq_eq_true_eq, ← Bool.not_eq_true] using hi
    simp only [this, cond_false] at hu
    simp only [Act.put]
    rw [Array.getElem?_setIfInBounds_ne (fun e => hi e.symm)]
    exact h.slot i g' u hu
theorem Kn.put (h : Kn n K a) {d : Nat} (hd : Nat.blt d n = true) (v : Value) : Kn n ((d, true, v) :: K) (a.put (some d) v) := h.putg hd true v
def Fits (sn : List Nat) (K : KL) : KL → Prop
  | [] => True
  | (i, g, v) :: r => (List.elem i sn = true ∨ look K i = some (g, v)) ∧ Fits (i :: sn) K r
theorem Fits.nil {sn : List Nat} {K : KL} : Fits sn K [] := trivial
theorem Fits.cons {sn : List Nat} {K r : KL} {i : Nat} {g : Bool} {v : Value} (h : Fw.look K i = some (g, v)) (h' : Fits (i :: sn) K r) : Fits sn K ((i, g, v) :: r) := ⟨.inr h, h'⟩
theorem Fits.skip {sn : List Nat} {K r : KL} {i : Nat} {g : Bool} {v : Value} (h : List.elem i sn = true) (h' : Fits (i :: sn) K r) : Fits sn K ((i, g, v) :: r) := ⟨.inl h, h'⟩
theorem Fits.look {K : KL} : ∀ {K' : KL} {sn : List Nat}, Fits sn K K' → ∀ i v, List.elem i sn = false → Fw.look K' i = some v → Fw.look K i = some v
  | [], _, _, i, v, _, h => by simp [Fw.look] at h
  | (j, g, u) :: r, sn, hf, i, v, hn, h => by
    obtain ⟨h1, h2⟩ := hf
    unfold Fw.look at h
    by_cases hi : i = j
    · subst hi
      simp only [Nat.beq_refl, cond_true, Option.some.injEq] at h
      rw [← h]
      rcases h1 with h1 | h1
      · rw [h1] at hn; cases hn
      · exact h1
    · have : Nat.beq i j = false := by simpa [Nat.beq_eq_true_eq, ← Bool.not_eq_true] using hi
      simp only [this, cond_false] at h
      refine Fits.look h2 i v ?_ h
      have hne : (i == j) = false := by simpa using hi
      simp only [List.elem, hne]
      exact hn
theorem Kn.fits (h : Kn n K a) {K' : KL} (hf : Fits [] K K') : Kn n K' a := ⟨h.defers, h.size, fun i g v hv => h.slot i g v (hf.look i (g, v) rfl hv)⟩
end kn
structure Bel (B : Nat) (w w' : World) : Prop extends Below B w w' where
  drawn : w.drawn ≤ w'.drawn
section bel
variable {B B' : Nat} {a b c : World}
theorem Bel.refl (B : Nat) (w : World) : Bel B w w := ⟨Below.refl B w, Nat.le_refl _⟩
theorem Bel.trans (h : Bel B a b) (k : Bel B b c) : Bel B a c := ⟨h.toBelow.trans k.toBelow, Nat.le_trans h.drawn k.drawn⟩
theorem Bel.mono (h : Bel B a b) (hB : B' ≤ B) : Bel B' a b := ⟨h.toBelow.mono hB, h.drawn⟩
theorem Bel.alloc (h : Bel B a b) (hb : B ≤ b.heap.size) (o : Obj) : Bel B a (b.alloc o) := ⟨h.toBelow.alloc hb o, h.drawn⟩
theorem Bel.drew (h : Bel B a b) : Bel B a b.drew := ⟨h.toBelow.drew, Nat.le_trans h.drawn (Nat.le_succ _)⟩
end bel
structure Turned (S : Nat → Prop) (w w' : World) : Prop where
  os : w'.os = w.os
  tape : w'.tape = w.tape
  output : w'.output = w.output
  size : w.heap.size ≤ w'.heap.size
  block : ∀ k, k < w.heap.size → ¬ S k → w'.heap[k]? = w.heap[k]?
  drawn : w.drawn ≤ w'.drawn
theorem Turned.bel {S : Nat → Prop} {B : Nat} {w w' : World} (h : Turned S w w') (hB : B ≤ w.heap.size) (hS : ∀ k, S k → B ≤ k) : Bel B w w' :=
  ⟨⟨h.os, h.tape, h.output, h.size, fun k hk => h.block k (Nat.lt_of_lt_of_le hk hB) fun e => by have := hS k e; omega⟩, h.drawn⟩
theorem Turned.mono {S S' : Nat → Prop} {w w' : World} (h : Turned S w w') (hS : ∀ k, S k → S' k) : Turned S' w w' :=
  ⟨h.os, h.tape, h.output, h.size, fun k hk hn => h.block k hk fun e => hn (hS k e), h.drawn⟩
def Owns (w : World) (B : Nat) (e size : Nat) (A : Option Addr) (n cap : Nat) (xs : List Value) : Prop :=
  xs.length = n * size ∧ ((n = 0 ∧ cap = 0) ∨ ∃ g cur, A = some ⟨g, 0, none⟩ ∧ 0 < cap ∧ B ≤ g ∧ w.heap[g]? = some (.cells cur e (0, 0)) ∧ n ≤ cap ∧ cap ≤ maxLen ∧ cur.size = cap * size ∧ cur.toList.take (n * size) = xs)
inductive Chunk where
  | blk (b : Nat) (o : Obj)
  | row (e size : Nat) (A : Option Addr) (n cap : Nat) (xs : List Value)
  | ice (w1 : World) (bs : List Nat)
def Chunk.holds (B : Nat) (w : World) : Chunk → Prop
  | .blk b o => B ≤ b ∧ w.heap[b]? = some o
  | .row e size A n cap xs => Owns w B e size A n cap xs
  | .ice w1 bs => ∀ b ∈ bs, B ≤ b ∧ b < w.heap.size ∧ w.heap[b]? = w1.heap[b]?
def Chunk.own : Chunk → Nat → Prop
  | .blk b _ => fun x => x = b
  | .row _ _ A _ cap _ => fun x => cap ≠ 0 ∧ A.map (·.block) = some x
  | .ice _ bs => fun x => x ∈ bs
def Chunk.apart (c d : Chunk) : Prop := ∀ b, c.own b → ¬ d.own b
theorem Chunk.apart.symm {c d : Chunk} (h : c.apart d) : d.apart c := fun b hd hc => h b hc hd
theorem Chunk.holds.lt {B : Nat} {w : World} {c : Chunk} (h : c.holds B w) {b : Nat} (hb : c.own b) : B ≤ b ∧ b < w.heap.size := by
  cases c with
  | blk b' o =>
    obtain ⟨h1, h2⟩ := h
    simp only [Chunk.own] at hb
    subst hb
    exact ⟨h1, (Array.getElem?_eq_some_iff.1 h2).1⟩
  | row e size A n cap xs =>
    obtain ⟨h0, hb⟩ := hb
    rcases h.2 with ⟨_, hc⟩ | ⟨g, cur, rfl, hp, hB, hg, _⟩
    · exact absurd hc h0
    · simp only [Option.map_some, Option.some.injEq] at hb
      subst hb
      exact ⟨hB, (Array.getElem?_eq_some_iff.1 hg).1⟩
  | ice w1 bs => exact ⟨(h b hb).1, (h b hb).2.1⟩
theorem Chunk.holds.keep {B : Nat} {w w' : World} {c : Chunk} (h : c.holds B w) (hs : w.heap.size ≤ w'.heap.size) (hk : ∀ b, c.own b → w'.heap[b]? = w.heap[b]?) : c.holds B w' := by
  cases c with
  | blk b o => exact ⟨h.1, (hk b rfl).trans h.2⟩
  | row e size A n cap xs =>
    refine ⟨h.1, ?_⟩
    rcases h.2 with hn | ⟨g, cur, rfl, hp, hb, hgg, rest⟩
    · exact .inl hn
    · exact .inr ⟨g, cur, rfl, hp, hb, (hk g ⟨Nat.pos_iff_ne_zero.1 hp, rfl⟩).trans hgg, rest⟩
  | ice w1 bs => exact fun b hb => ⟨(h b hb).1, Nat.lt_of_lt_of_le (h b hb).2.1 hs, (hk b hb).trans (h b hb).2.2⟩
theorem Chunk.holds.mono {B B' : Nat} {w : World} {c : Chunk} (h : c.holds B w) (hB : B' ≤ B) : c.holds B' w := by
  cases c with
  | blk b o => exact ⟨Nat.le_trans hB h.1, h.2⟩
  | row e size A n cap xs =>
    refine ⟨h.1, ?_⟩
    rcases h.2 with hn | ⟨g, cur, rfl, hp, hb, rest⟩
    · exact .inl hn
    · exact .inr ⟨g, cur, rfl, hp, Nat.le_trans hB hb, rest⟩
  | ice w1 bs => exact fun b hb => ⟨Nat.le_trans hB (h b hb).1, (h b hb).2⟩
structure Wd (w0 : World) (L : List Chunk) (w : World) : Prop where
  below : Bel w0.heap.size w0 w
  all : ∀ c ∈ L, c.holds w0.heap.size w
  apart : L.Pairwise Chunk.apart
section wd
variable {w0 : World} {L : List Chunk} {w w' : World}
theorem Wd.start (w : World) : Wd w [] w := ⟨Bel.refl _ _, (fun _ h => by cases h), List.Pairwise.nil⟩
theorem Wd.get (h : Wd w0 L w) {k : Nat} {c : Chunk} (hk : L[k]? = some c) : c.holds w0.heap.size w := h.all c (List.mem_of_getElem? hk)
theorem Wd.sub (h : Wd w0 L w) {L' : List Chunk} (hs : L'.Sublist L) : Wd w0 L' w :=
  ⟨h.below, fun c hc => h.all c (hs.subset hc), h.apart.sublist hs⟩
theorem Wd.perm (h : Wd w0 L w) {L' : List Chunk} (hp : L.Perm L') : Wd w0 L' w :=
  ⟨h.below, fun c hc => h.all c (hp.mem_iff.2 hc), (hp.pairwise_iff (fun h => h.symm)).1 h.apart⟩
theorem Wd.step (h : Wd w0 L w) (hb : Bel w.heap.size w w') : Wd w0 L w' :=
  ⟨h.below.trans (hb.mono h.below.size), fun c hc => (h.all c hc).keep hb.size fun b hbk => hb.block b ((h.all c hc).lt hbk).2, h.apart⟩
theorem Wd.more (h : Wd w0 L w) (hb : Bel w.heap.size w w') {c : Chunk} (hc : c.holds w.heap.size w') : Wd w0 (c :: L) w' := by
  have h' := h.step hb
  refine ⟨h'.below, fun d hd => ?_, List.Pairwise.cons (fun d hd b hcb hdb => ?_) h'.apart⟩
  · rcases List.mem_cons.1 hd with rfl | hd
    · exact hc.mono h.below.size
    · exact h'.all d hd
  · have h1 := (hc.lt hcb).1
    have h2 := ((h.all d hd).lt hdb).2
    omega
theorem Wd.drew (h : Wd w0 L w) : Wd w0 L w.drew := h.step (Bel.refl _ _).drew
theorem Wd.alloc (h : Wd w0 L w) (o : Obj) : Wd w0 (.blk w.heap.size o :: L) (w.alloc o) :=
  h.more ((Bel.refl _ _).alloc (Nat.le_refl _) o) ⟨Nat.le_refl _, heap_alloc_new w o⟩
theorem Wd.bare (h : Wd w0 L w) {c : Chunk} (hc : c.holds w0.heap.size w) (ho : ∀ b, ¬ c.own b) : Wd w0 (c :: L) w :=
  ⟨h.below, fun d hd => by rcases List.mem_cons.1 hd with rfl | hd; exact hc; exact h.all d hd, List.Pairwise.cons (fun d _ b hb _ => ho b hb) h.apart⟩
theorem Wd.change (h : Wd w0 L w) {k : Nat} {c c' : Chunk} (hk : L[k]? = some c) (hg : Turned c.own w w') (hc : c'.holds w0.heap.size w')
    (ho : ∀ b, c'.own b → c.own b ∨ w.heap.size ≤ b) : Wd w0 (L.set k c') w' := by
  have hlt : k < L.length := (List.getElem?_eq_some_iff.1 hk).1
  have hkk : L[k] = c := (List.getElem?_eq_some_iff.1 hk).2
  have hcB : ∀ b, c.own b → w0.heap.size ≤ b := fun b hb => ((h.get hk).lt hb).1
  have hap := List.pairwise_iff_getElem.1 h.apart
  have keep : ∀ i (hi : i < L.length), i ≠ k → L[i].holds w0.heap.size w' := fun i hi hne => by
    have hi' := h.all L[i] (List.getElem_mem hi)
    refine hi'.keep hg.size fun b hb => hg.block b (hi'.lt hb).2 (fun e => ?_)
    rcases Nat.lt_or_ge i k with hlt' | hge
    · exact hap i k hi hlt hlt' b hb (by rw [hkk]; exact e)
    · exact hap k i hlt hi (by omega) b (by rw [hkk]; exact e) hb
  refine ⟨h.below.trans (hg.bel h.below.size hcB), fun d hd => ?_, ?_⟩
  · obtain ⟨i, hi, rfl⟩ := List.getElem_of_mem hd
    rw [List.getElem_set]
    split
    · exact hc
    · exact keep i (by simpa using hi) (fun e => by omega)
  · refine List.pairwise_iff_getElem.2 fun i j hi hj hij => ?_
    have hi' : i < L.length := by simpa using hi
    have hj' : j < L.length := by simpa using hj
    have new : ∀ m (hm : m < L.length), m ≠ k → Chunk.apart c' L[m] := fun m hm hne b hb hb' => by
      rcases ho b hb with hb | hb
      · rcases Nat.lt_or_ge m k with hlt' | hge
        · exact hap m k hm hlt hlt' b hb' (by rw [hkk]; exact hb)
        · exact hap k m hlt hm (by omega) b (by rw [hkk]; exact hb) hb'
      · have h2 := ((h.all L[m] (List.getElem_mem hm)).lt hb').2
        omega
    rw [List.getElem_set, List.getElem_set]
    split
    · rename_i e
      rw [if_neg (by omega)]
      exact new j hj' (by omega)
    · split
      · exact (new i hi' (by omega)).symm
      · exact hap i j hi' hj' hij
end wd
structure St (n : Nat) (w0 : World) (K : KL) (L : List Chunk) (a : Act) (w : World) : Prop where
  kn : Kn n K a
  wd : Wd w0 L w
section code
variable {P : Program} {Q : Exit → Act → World → Prop} {n : Nat} {w0 : World} {K : KL} {L : List Chunk} {a : Act} {w : World}
theorem enter {f : FuncId} {fn : Func} {c : Code} {args : List Value} {w : World} {R : Ending → World → Prop} (hf : P.funcs[f]? = some fn) (hb : fn.body = some c)
    {n : Nat} {K : KL} (hn : fn.ntmps = n) (hsz : Nat.ble args.length n = true) (hK : ∀ i g v, look K i = some (g, v) → g = true ∧ args[i]? = some v)
    (h : ∀ a, St n w K [] a w → c.wp P (bodyPost P fn R) a w) : Calls P f args.toArray w R := by
  refine calls_of_wp hf hb (h _ ⟨⟨rfl, ?_, fun i g v hv => ?_⟩, Wd.start w⟩)
  · have := Nat.le_of_ble_eq_true hsz
    simp [hn]; omega
  · obtain ⟨rfl, h1⟩ := hK i g v hv
    have hi : i < args.length := (List.getElem?_eq_some_iff.1 h1).1
    simp [Array.getElem?_append, hi, (List.getElem?_eq_some_iff.1 h1).2]
section enters
def argsK : Nat → List Value → KL
  | _, [] => []
  | i, v :: vs => (i, true, v) :: argsK (i + 1) vs
theorem argsK_ok : ∀ (vs : List Value) (i j : Nat) (g : Bool) (v : Value), look (argsK i vs) j = some (g, v) → g = true ∧ i ≤ j ∧ vs[j - i]? = some v
  | [], i, j, g, v, h => by simp [argsK, look] at h
  | u :: us, i, j, g, v, h => by
    unfold argsK look at h
    by_cases hj : j = i
    · subst hj
      simp only [Nat.beq_refl, cond_true, Option.some.injEq, Prod.mk.injEq] at h
      obtain ⟨rfl, rfl⟩ := h
      exact ⟨rfl, Nat.le_refl _, by simp⟩
    · have : Nat.beq j i = false := by simpa [Nat.beq_eq_true_eq, ← Bool.not_eq_true] using hj
      simp only [this, cond_false] at h
      obtain ⟨h1, h2, h3⟩ := argsK_ok us (i + 1) j g v h
      refine ⟨h1, by omega, ?_⟩
      rw [show j - i = (j - (i + 1)) + 1 by omega]
      simpa using h3
theorem enterL {f : FuncId} {fn : Func} {c : Code} {args : List Value} {w : World} {R : Ending → World → Prop} (hf : P.funcs[f]? = some fn) (hb : fn.body = some c)
    {n : Nat} (hn : fn.ntmps = n) (hsz : Nat.ble args.length n = true) (h : ∀ a, St n w (argsK 0 args) [] a w → c.wp P (bodyPost P fn R) a w) : Calls P f args.toArray w R :=
  enter hf hb hn hsz (fun i g v hv => have h := argsK_ok args 0 i g v hv; ⟨h.1, by simpa using h.2.2⟩) h
variable {f : FuncId} {fn : Func} {c : Code} {R : Ending → World → Prop} {v0 v1 v2 v3 v4 v5 v6 v7 v8 : Value}
theorem enter1 (hf : P.funcs[f]? = some fn) (hb : fn.body = some c) {n : Nat} (hn : fn.ntmps = n) (hsz : Nat.ble 1 n = true)
    (h : ∀ a, St n w [(0, true, v0)] [] a w → c.wp P (bodyPost P fn R) a w) : Calls P f #[v0] w R := enterL (args := [v0]) hf hb hn hsz h
theorem enter2 (hf : P.funcs[f]? = some fn) (hb : fn.body = some c) {n : Nat} (hn : fn.ntmps = n) (hsz : Nat.ble 2 n = true)
    (h : ∀ a, St n w [(0, true, v0), (1, true, v1)] [] a w → c.wp P (bodyPost P fn R) a w) : Calls P f #[v0, v1] w R := enterL (args := [v0, v1]) hf hb hn hsz h
end enters
theorem st_cond {c : Operand} {x y : Code} {b : Bool} (S : St n w0 K L a w) (hc : Ev n true K c (.bool b)) (ht : b = true → x.wp P Q a w) (hf : b = false → y.wp P Q a w) : (Code.cond c x y).wp P Q a w :=
  wp_cond_split (hc a rfl S.kn) ht hf
theorem st_then {c : Operand} {x y : Code} (S : St n w0 K L a w) (hc : Ev n true K c (.bool true)) (ht : x.wp P Q a w) : (Code.cond c x y).wp P Q a w := wp_cond_true (hc a rfl S.kn) ht
theorem st_else {c : Operand} {x y : Code} (S : St n w0 K L a w) (hc : Ev n true K c (.bool false)) (hf : y.wp P Q a w) : (Code.cond c x y).wp P Q a w := wp_cond_false (hc a rfl S.kn) hf
def Ys (P : Program) (o : Oper) (n : Nat) (K : KL) (w0 : World) (L : List Chunk) (b : Bool) (v : Value) : Prop :=
  ∀ a w, b = true → Kn n K a → Wd w0 L w → Oper.quietUpon P (Wd w0 L) w v ((execOp a.eval o).run P w)
def Yr (P : Program) (o : Oper) (n : Nat) (K : KL) (w0 : World) (L : List Chunk) (b : Bool) (v : Value) : Prop :=
  ∀ a w, b = true → Kn n K a → Wd w0 L w → (execOp a.eval o).run P w = .ok (.value v) w
theorem Yr.ys {o : Oper} {b : Bool} {v : Value} (h : Yr P o n K w0 L b v) : Ys P o n K w0 L b v := fun a w hb hk hw => by
  rw [h a w hb hk hw]; exact ⟨rfl, rfl⟩
theorem Ys.wp {o : Oper} {v : Value} (hy : Ys P o n K w0 L true v) (S : St n w0 K L a w) {K' : Act → World → Prop} (h : ∀ w', Wd w0 L w' → K' (a.put o.dst v) w') : o.wp P a w K' Q := by
  have h3 := hy a w rfl S.kn S.wd
  unfold Oper.wp
  generalize (execOp a.eval o).run P w = r at *
  cases r with
  | ok x w' =>
    cases x <;> simp only [Oper.quietUpon] at h3 <;> simp only [Oper.upon]
    case value u => obtain ⟨rfl, rfl⟩ := h3; exact h _ S.wd
    case skip => obtain ⟨rfl, rfl⟩ := h3; exact h _ S.wd
    case enter f args =>
      obtain ⟨rfl, hc⟩ := h3
      exact hc.mono fun e w'' ⟨he, hw''⟩ => by subst he; exact h _ hw''
  | halt x w' => simp only [Oper.quietUpon] at h3
section list
variable {ops : Array Oper} {rest : List Oper} {op : Op} {ty : TypeId} {pos : String} {aft : Array Edge} {v : Value} {d t j : Nat} {p : Bool}
theorem st_nil (h : Q .normal a w) : wpList P ops Q [] a w := h
theorem st_m {d : Option Tmp} (h : Oper.wp P ⟨d, op, ty, pos, aft, none⟩ a w (wpList P ops Q rest) Q) : wpList P ops Q (⟨d, op, ty, pos, aft, none⟩ :: rest) a w :=
  wpList_plain rfl fun _ hK => Oper.wp_mono hK h
theorem st_y (S : St n w0 K L a w) (hy : Ys P ⟨some d, op, ty, pos, aft, none⟩ n K w0 L true v) (hd : Nat.blt d n = true)
    (next : ∀ a w, St n w0 ((d, true, v) :: K) L a w → wpList P ops Q rest a w) : wpList P ops Q (⟨some d, op, ty, pos, aft, none⟩ :: rest) a w :=
  st_m (hy.wp S fun _ hw => next _ _ ⟨S.kn.put hd v, hw⟩)
theorem yielded_of {a : Act} {g b : Bool} (hk : Kn n K a) (hj : (ops[j]?).bind (·.dst) = some t) (hl : look K t = some (g, .bool b)) : yielded ops a.tmps j = bif g then some b else none := by
  unfold yielded
  rw [hj]
  simp only [Option.bind_some, hk.slot t g _ hl]
  cases g <;> simp [undef]
theorem st_yg (S : St n w0 K L a w) (hj : (ops[j]?).bind (·.dst) = some t) (hl : look K t = some (true, .bool p)) (hy : Ys P ⟨some d, op, ty, pos, aft, some (j, true)⟩ n K w0 L p v) (hd : Nat.blt d n = true)
    (next : ∀ a w, St n w0 ((d, p, v) :: K) L a w → wpList P ops Q rest a w) : wpList P ops Q (⟨some d, op, ty, pos, aft, some (j, true)⟩ :: rest) a w := by
  refine wpList_step fun K' hK => ?_
  have hyd := yielded_of S.kn hj hl
  cases p with
  | true =>
    rw [if_pos (by simp [Region.wanted, hyd])]
    exact hy.wp S fun _ hw => hK _ _ (next _ _ ⟨S.kn.putg hd true v, hw⟩)
  | false =>
    rw [if_neg (by simp [Region.wanted, hyd])]
    exact hK _ _ (next _ _ ⟨S.kn.putg hd false v, S.wd⟩)
variable {Z : Act → Prop} {C : World → Prop}
end list
section held
variable {ops : Array Oper} {Lr : List Chunk} {fuel i : Nat} {listed : Array Bool} {op : Op} {ty : TypeId} {pos : String} {aft : Array Edge} {gd : Option (Nat × Bool)} {v : Value} {d t j : Nat} {p : Bool} {md : Region.Mode}
theorem st_mg {rest : List Oper} (S : St n w0 K L a w) (hj : (ops[j]?).bind (·.dst) = some t) (hl : look K t = some (true, .bool p))
    (h : Oper.wp P ⟨some d, op, ty, pos, aft, some (j, p)⟩ a w (wpList P ops Q rest) Q) : wpList P ops Q (⟨some d, op, ty, pos, aft, some (j, p)⟩ :: rest) a w := by
  have hyd := yielded_of S.kn hj hl
  simp only [wpList, Region.wanted, hyd, cond_true]
  simpa using Or.inl h
theorem st_skip {q : Bool} {rest : List Oper} (S : St n w0 K L a w) (hj : (ops[j]?).bind (·.dst) = some t) (hl : look K t = some (true, .bool p)) (hpq : q = !p) (hd : Nat.blt d n = true)
    (next : ∀ a w, St n w0 ((d, false, undef) :: K) L a w → wpList P ops Q rest a w) : wpList P ops Q (⟨some d, op, ty, pos, aft, some (j, q)⟩ :: rest) a w := by
  have hyd := yielded_of S.kn hj hl
  have h := next (a.put (some d) undef) w ⟨S.kn.putg hd false undef, S.wd⟩
  simp only [wpList, Region.wanted, hyd, cond_true]
  subst hpq
  cases p <;> simpa using h
end held
end code
end Go.Fw
set_option linter.unusedVariables false
set_option linter.unusedSimpArgs false
namespace Go.Fw
open Go.RowKit
def I64 (x : Int) : Prop := -9223372036854775808 ≤ x ∧ x ≤ 9223372036854775807
theorem wrap_i64 {x : Int} (h : I64 x) : IntKind.i64.wrap x = x := by
  obtain ⟨h1, h2⟩ := h
  rw [IntKind.wrap_i64]; omega
section ops
variable {P : Program} {n : Nat} {w0 : World} {K : KL} {L : List Chunk} {b : Bool} {dst : Option Tmp} {ty : TypeId} {pos : String} {aft : Array Edge} {gd : Option (Nat × Bool)}
theorem ys_move {x : Operand} {v : Value} (hx : Ev n b K x v) : Yr P ⟨dst, .move x, ty, pos, aft, gd⟩ n K w0 L b v := fun a w hb hk _ => by
  simp [execOp, hx a hb hk]
theorem ys_assign {x : Operand} {v : Value} (hx : Ev n b K x v) : Yr P ⟨dst, .assign x, ty, pos, aft, gd⟩ n K w0 L b v := fun a w hb hk _ => by
  simp [execOp, hx a hb hk]
theorem ys_and {x y z : Operand} {p q : Bool} (hx : Ev n b K x (.bool p)) (hy : Ev n p K y (.bool q)) (hz : Ev n b K z (.bool false)) : Yr P ⟨dst, .pick x y z, ty, pos, aft, gd⟩ n K w0 L b (.bool (p && q)) := fun a w hb hk _ => by
  simp only [execOp, hx a hb hk, hz a hb hk]
  cases p with
  | true => simp [asBool, hy a rfl hk]
  | false => simp [asBool]
def One (P : Program) (t : TypeId) : Prop := (∀ w, (isAgg t).run P w = .ok false w) ∧ ∀ w, (sizeOf t).run P w = .ok 1 w
def Many (P : Program) (t : TypeId) (k : Nat) : Prop := (∀ w, (isAgg t).run P w = .ok true w) ∧ ∀ w, (sizeOf t).run P w = .ok k w
def Size (P : Program) (t : TypeId) (k : Nat) : Prop := ∀ w, (sizeOf t).run P w = .ok k w
def nth : List Value → Nat → Option Value
  | [], _ => none
  | v :: _, 0 => some v
  | _ :: r, i + 1 => nth r i
theorem nth_eq : ∀ (cs : List Value) (i : Nat), nth cs i = cs[i]?
  | [], i => by simp [nth]
  | v :: r, 0 => by simp [nth]
  | v :: r, i + 1 => by simp [nth, nth_eq r i]
def upto : List Value → Nat → Option (List Value)
  | _, 0 => some []
  | [], _ + 1 => none
  | v :: r, k + 1 => match upto r k with
    | some l => some (v :: l)
    | none => none
def cellsAt : List Value → Nat → Nat → Option (List Value)
  | cs, 0, k => upto cs k
  | [], _ + 1, _ => none
  | _ :: r, i + 1, k => cellsAt r i k
theorem upto_eq : ∀ {cs : List Value} {k : Nat} {vs : List Value}, upto cs k = some vs → vs.length = k ∧ vs = cs.take k
  | cs, 0, vs, h => by cases cs <;> simp [upto] at h <;> simp [h]
  | [], k + 1, vs, h => by simp [upto] at h
  | v :: r, k + 1, vs, h => by
    unfold upto at h
    split at h
    · rename_i l hl
      obtain ⟨h1, h2⟩ := upto_eq hl
      simp only [Option.some.injEq] at h
      subst h
      exact ⟨by simp [h1], by simp [← h2]⟩
    · cases h
theorem cellsAt_eq : ∀ {cs : List Value} {i k : Nat} {vs : List Value}, cellsAt cs i k = some vs → vs.length = k ∧ vs = (cs.drop i).take k
  | cs, 0, k, vs, h => by cases cs <;> exact upto_eq h
  | [], i + 1, k, vs, h => by simp [cellsAt] at h
  | v :: r, i + 1, k, vs, h => by simpa using cellsAt_eq (cs := r) (i := i) h
theorem run_load_one {t : TypeId} (h1 : One P t) {w : World} {ad : Addr} {v : Value} (hc : w.cell? ad = some v) : (loadVar t ad).run P w = .ok v w := by
  simp [loadVar, Sem.run_bind, h1.1, run_load, hc]
theorem run_load_many {t : TypeId} {k : Nat} (h1 : Many P t k) {w : World} {ad : Addr} {vs : List Value} (hl : vs.length = k) (hc : ∀ j u, vs[j]? = some u → w.cell? (ad.add j) = some u) :
    (loadVar t ad).run P w = .ok (.agg vs.toArray) w := by
  have h := run_loadCells_list (P := P) w ad vs hc
  rw [hl] at h
  simp [loadVar, Sem.run_bind, h1.1, h1.2, h]
theorem ys_ld {t : TypeId} {x : Operand} {g i k : Nat} {cs : List Value} {e : TypeId} {fr : Nat × Nat} {v : Value} (h1 : One P t) (hx : Ev n b K x (.pointer (some ⟨g, i, none⟩)))
    (hk : L[k]? = some (.blk g (.cells cs.toArray e fr))) (hc : nth cs i = some v) : Yr P ⟨dst, .load t x, ty, pos, aft, gd⟩ n K w0 L b v := fun a w hb hkn hw => by
  have hg := (hw.get hk).2
  simp [execOp, hx a hb hkn, Instr.loadAt, Instr.sureAddr, run_load_one h1 (ad := ⟨g, i, none⟩) ((cell_of_row w g i _ e fr hg).trans (by rw [nth_eq] at hc; simpa using hc))]
theorem Owns.cell {w : World} {B e size n cap g : Nat} {xs : List Value} (h : Owns w B e size (some ⟨g, 0, none⟩) n cap xs) {j : Nat} {u : Value} (hj : xs[j]? = some u) : w.cell? ⟨g, j, none⟩ = some u := by
  rcases h.2 with ⟨h0, _⟩ | ⟨g', cur, hA, _, _, hg, _, _, _, ht⟩
  · have h1 := h.1
    rw [h0] at h1
    have : xs = [] := List.eq_nil_of_length_eq_zero (by simpa using h1)
    subst this; simp at hj
  · simp only [Option.some.injEq, Addr.mk.injEq] at hA
    obtain ⟨rfl, _, _⟩ := hA
    rw [cell_of_row w _ j cur e (0, 0) hg]
    rw [← ht, List.getElem?_take] at hj
    split at hj
    · simpa using hj
    · cases hj
def FieldT (P : Program) (s : TypeId) (f o : Nat) : Prop := ∀ w ad, (Instr.fieldAt s (.pointer (some ad)) f).run P w = .ok (.pointer (some (ad.add o))) w
theorem FieldT.mk {s f : Nat} {fs : Array Field} {nm : String} {tt o : Nat} {em : Bool} {tg pp : String} {bo : Nat} {m : Nat} (hu : P.underlying s = some (.struct fs)) (hf : fs[f]? = some ⟨nm, tt, o, em, tg, pp, bo⟩) (hz : ∀ w, (sizeOf tt).run P w = .ok m w) (hm : Nat.blt 0 m = true) : FieldT P s f o := fun w ad => by
  have hm' : m ≠ 0 := by have := Nat.le_of_ble_eq_true hm; omega
  simp [Instr.fieldAt, run_underlying hu, hf, Instr.sureAddr, fieldPlace, hz, hm']
theorem ys_field {s f o : Nat} {x : Operand} {g i : Nat} (h1 : FieldT P s f o) (hx : Ev n b K x (.pointer (some ⟨g, i, none⟩))) : Yr P ⟨dst, .fieldAddr s x f, ty, pos, aft, gd⟩ n K w0 L b (.pointer (some ⟨g, i + o, none⟩)) := fun a w hb hkn _ => by
  have h := h1 w ⟨g, i, none⟩
  rw [Addr.add_mid] at h
  simp [execOp, hx a hb hkn, h]
theorem ys_fieldN {s f o : Nat} {x : Operand} {g i i' : Nat} (h1 : FieldT P s f o) (hx : Ev n b K x (.pointer (some ⟨g, i, none⟩))) (hi : i + o = i') : Yr P ⟨dst, .fieldAddr s x f, ty, pos, aft, gd⟩ n K w0 L b (.pointer (some ⟨g, i', none⟩)) := hi ▸ ys_field h1 hx
def SliceT (P : Program) (t e : TypeId) : Prop := P.underlying t = some (.slice e)
theorem ys_ixS {t e sz : Nat} {x y : Operand} {g o len cap j : Nat} {ik : IntKind} (h1 : SliceT P t e) (h2 : Size P e sz) (hx : Ev n b K x (.slice (some ⟨g, o, none⟩) len cap)) (hy : Ev n b K y (.int ik (j : Int))) (h : b = true → j < len) :
    Yr P ⟨dst, .indexAddr t x y, ty, pos, aft, gd⟩ n K w0 L b (.pointer (some ⟨g, o + j * sz, none⟩)) := fun a w hb hkn _ => by
  have h' := h hb
  simp [execOp, hx a hb hkn, hy a hb hkn, Instr.indexAt, run_underlying h1, asIntOf, h2 w, Addr.add_mid]
  intro h4; omega
theorem ys_add {t t' : TypeId} {x y : Operand} {k : IntKind} {p q : Int} (hx : Ev n b K x (.int k p)) (hy : Ev n b K y (.int k q)) : Yr P ⟨dst, .binOp .add t x y t', ty, pos, aft, gd⟩ n K w0 L b (.int k (k.wrap (p + q))) := fun a w hb hkn _ => by
  simp only [execOp, hx a hb hkn, hy a hb hkn]
  simp [eqGuard, binOp, Op.intArith]
theorem Yr.of_imp {o : Oper} {v u : Value} (h : b = true → v = u) (hy : Yr P o n K w0 L b v) : Yr P o n K w0 L b u := fun a w hb hk hw => by
  rw [← h hb]; exact hy a w hb hk hw
theorem ys_addI {t t' : TypeId} {x y : Operand} {p q : Int} (hx : Ev n b K x (.int .i64 p)) (hy : Ev n b K y (.int .i64 q)) (h : b = true → I64 (p + q)) : Yr P ⟨dst, .binOp .add t x y t', ty, pos, aft, gd⟩ n K w0 L b (.int .i64 (p + q)) :=
  Yr.of_imp (fun hb => by rw [wrap_i64 (h hb)]) (ys_add hx hy)
section cmp
variable {t t' : TypeId} {x y : Operand} {k : IntKind} {p q : Int} (hx : Ev n b K x (.int k p)) (hy : Ev n b K y (.int k q))
include hx hy
theorem ys_lss : Yr P ⟨dst, .binOp .lss t x y t', ty, pos, aft, gd⟩ n K w0 L b (.bool (decide (p < q))) := fun a w hb hkn _ => by
  simp only [execOp, hx a hb hkn, hy a hb hkn]
  simp [eqGuard, binOp, Op.intCmp]
theorem ys_gtr : Yr P ⟨dst, .binOp .gtr t x y t', ty, pos, aft, gd⟩ n K w0 L b (.bool (decide (q < p))) := fun a w hb hkn _ => by
  simp only [execOp, hx a hb hkn, hy a hb hkn]
  simp [eqGuard, binOp, Op.intCmp]
theorem ys_geq : Yr P ⟨dst, .binOp .geq t x y t', ty, pos, aft, gd⟩ n K w0 L b (.bool (decide (q ≤ p))) := fun a w hb hkn _ => by
  simp only [execOp, hx a hb hkn, hy a hb hkn]
  simp [eqGuard, binOp, Op.intCmp]
theorem ys_eql : Yr P ⟨dst, .binOp .eql t x y t', ty, pos, aft, gd⟩ n K w0 L b (.bool (decide (p = q))) := fun a w hb hkn _ => by
  simp only [execOp, hx a hb hkn, hy a hb hkn]
  simp [eqGuard, binOp, Op.intCmp]; rfl
theorem ys_neq : Yr P ⟨dst, .binOp .neq t x y t', ty, pos, aft, gd⟩ n K w0 L b (.bool (decide (p ≠ q))) := fun a w hb hkn _ => by
  simp only [execOp, hx a hb hkn, hy a hb hkn]
  simp [eqGuard, binOp, Op.intCmp]
  rw [Bool.eq_iff_iff]; simp
end cmp
def EqT (P : Program) (t : TypeId) (vs us : List Value) (r : Bool) : Prop :=
  ∀ w, (eqGuard .eql t (.tmp 0) (.tmp 0) (.agg vs.toArray) (.agg us.toArray)).run P w = .ok () w ∧ (Op.equalIn 10000 t (.agg vs.toArray) (.agg us.toArray)).run P w = .ok r w
theorem ys_not {t : TypeId} {x : Operand} {p : Bool} (hx : Ev n b K x (.bool p)) : Yr P ⟨dst, .unOp .not t x, ty, pos, aft, gd⟩ n K w0 L b (.bool (!p)) := fun a w hb hkn _ => by
  simp [execOp, hx a hb hkn, Op.unary]
theorem ys_lenS {t t' e : TypeId} {x : Operand} {A : Option Addr} {m c : Nat} (h1 : SliceT P t e) (hx : Ev n b K x (.slice A m c)) : Yr P ⟨dst, .call ⟨.builtin .len, #[x], #[t]⟩, t', pos, aft, gd⟩ n K w0 L b (.int .i64 (m : Int)) := fun a w hb hkn _ => by
  simp [execOp, resolve, invoke, builtin, Builtin.len_, hx a hb hkn, run_underlying h1, goInt]
theorem ys_ext {x : Operand} {i : Nat} {vs : List Value} {v : Value} (hx : Ev n b K x (.tuple vs.toArray)) (h : vs[i]? = some v) : Yr P ⟨dst, .extract x i, ty, pos, aft, gd⟩ n K w0 L b v := fun a w hb hkn _ => by
  simp [execOp, hx a hb hkn, Instr.extract, h]
theorem ys_build {t : TypeId} {ps : List (Nat × Operand)} {vs : List Value} {v : Value} (hx : EvL n b K (ps.map (·.2)) vs) (hr : ∀ w, (Instr.build t ((ps.map (·.1)).zip vs).toArray).run P w = .ok v w) :
    Yr P ⟨dst, .build t ps.toArray, ty, pos, aft, gd⟩ n K w0 L b v := fun a w hb hkn _ => by
  have h := hx a hb hkn
  have e : (ps.toArray.map fun (i, x) => (i, a.eval x)) = ((ps.map (·.1)).zip vs).toArray := by
    rw [← h]
    simp only [List.map_toArray, List.map_map, List.zip_map', Function.comp_def]
  simp only [execOp, e]
  simp [hr]
def lay (cs : List Value) : Nat → List Value → List Value
  | _, [] => cs
  | i, v :: vs => lay (cs.set i v) (i + 1) vs
theorem lay_len : ∀ (vs cs : List Value) (i : Nat), (lay cs i vs).length = cs.length
  | [], cs, i => rfl
  | v :: vs, cs, i => by rw [lay, lay_len vs]; simp
def fillL (places : Nat → Option (Nat × Nat)) (zs : List Value) : List (Nat × Value) → Option (List Value)
  | [] => some zs
  | (i, v) :: rest => match places i with
    | none => none
    | some (off, size) => bif Nat.beq v.cells.toList.length size && Nat.ble (off + size) zs.length then fillL places (lay zs off v.cells.toList) rest else none
theorem foldl_lay : ∀ (vs : List Value) (off j : Nat) (zs : List Value), (vs.zipIdx j).foldl (fun cs (x : Value × Nat) => cs.setIfInBounds (off + x.2) x.1) zs.toArray = (lay zs (off + j) vs).toArray
  | [], off, j, zs => rfl
  | v :: vs, off, j, zs => by
    simp only [List.zipIdx_cons, List.foldl_cons, lay]
    rw [List.setIfInBounds_toArray, foldl_lay vs off (j + 1)]
    rfl
theorem fill_of : ∀ {places : Nat → Option (Nat × Nat)} {parts : List (Nat × Value)} {zs us : List Value}, fillL places zs parts = some us → Instr.fill places zs.toArray parts = some us.toArray
  | places, [], zs, us, h => by simp [fillL] at h; simp [Instr.fill, h]
  | places, (i, v) :: rest, zs, us, h => by
    unfold fillL at h
    unfold Instr.fill
    split at h
    · cases h
    · rename_i off size hp
      simp only [hp]
      cases hc : (Nat.beq v.cells.toList.length size && Nat.ble (off + size) zs.length) with
      | false => rw [hc] at h; simp at h
      | true =>
        rw [hc] at h
        simp only [cond_true] at h
        simp only [Bool.and_eq_true, Nat.ble_eq] at hc
        obtain ⟨h1, h2⟩ := hc
        have h1' : v.cells.size = size := by simpa using h1
        have h3 : (decide (v.cells.size ≠ size) || decide (off + v.cells.size > zs.toArray.size)) = false := by
          simp [h1']; omega
        have h4 : v.cells.zipIdx.foldl (fun cs (x : Value × Nat) => cs.setIfInBounds (off + x.2) x.1) zs.toArray = (lay zs off v.cells.toList).toArray := by
          have := foldl_lay v.cells.toList off 0 zs
          rw [← Array.foldl_toList, Array.toList_zipIdx]
          simpa using this
        rw [if_neg (by rw [h3]; simp)]
        have h5 := fill_of (places := places) (parts := rest) h
        rw [← h4] at h5
        exact h5
def BuildT (P : Program) (t : TypeId) (zs : List Value) (places : List (Nat × Nat)) : Prop :=
  (∃ z, (∀ w, (zeroValue t).run P w = .ok z w) ∧ z.cells = zs.toArray) ∧ ∃ fs, P.underlying t = some (.struct fs) ∧ ∀ w, (fs.mapM (fun f => do pure (f.offset, ← sizeOf f.type)) : Sem (Array (Nat × Nat))).run P w = .ok places.toArray w
theorem BuildT.run {t : TypeId} {zs : List Value} {places : List (Nat × Nat)} (h : BuildT P t zs places) {parts : List (Nat × Value)} {us : List Value} (hf : fillL (places[·]?) zs parts = some us) (w : World) : (Instr.build t parts.toArray).run P w = .ok (.agg us.toArray) w := by
  obtain ⟨⟨z, hz, hc⟩, fs, hu, hm⟩ := h
  have h1 : Instr.fill (fun x => places[x]?) zs.toArray parts = some us.toArray := fill_of hf
  simp only [Instr.build, Sem.run_bind, hz, Result.andThen_ok, run_underlying hu, hm, hc]
  simp [h1]
theorem ys_bld {t : TypeId} {ps : List (Nat × Operand)} {vs zs us : List Value} {places : List (Nat × Nat)} (h : BuildT P t zs places) (hx : EvL n b K (ps.map (·.2)) vs) (hr : fillL (places[·]?) zs ((ps.map (·.1)).zip vs) = some us) :
    Yr P ⟨dst, .build t ps.toArray, ty, pos, aft, gd⟩ n K w0 L b (.agg us.toArray) := ys_build hx (h.run hr)
theorem ys_call {f : FuncId} {xs : List Operand} {ts : Array TypeId} {vs : List Value} {v : Value} (hf : ∀ args w, (callFunc f args).run P w = .ok (.enter f args) w) (hx : EvL n b K xs vs)
    (hc : b = true → ∀ w, Wd w0 L w → Calls P f vs.toArray w fun e w' => e = .returned v ∧ Bel w.heap.size w w') : Ys P ⟨dst, .call ⟨.value (.func f), xs.toArray, ts⟩, ty, pos, aft, gd⟩ n K w0 L b v := fun a w hb hkn hw => by
  have e : (xs.toArray.map a.eval) = vs.toArray := by rw [List.map_toArray, hx a hb hkn]
  have hrun : (execOp a.eval ⟨dst, .call ⟨.value (.func f), xs.toArray, ts⟩, ty, pos, aft, gd⟩).run P w = .ok (.enter f vs.toArray) w := by
    simp only [execOp, resolve, e]
    simp [Act.eval, Deferred.ofValue, invoke, hf]
  rw [hrun]
  exact ⟨rfl, (hc hb w hw).mono fun e w' ⟨he, hbl⟩ => ⟨he, hw.step hbl⟩⟩
end ops
section movers
variable {P : Program} {n : Nat} {w0 : World} {K : KL} {L : List Chunk} {ty : TypeId} {pos : String} {aft : Array Edge} {gd : Option (Nat × Bool)} {a : Act} {w : World} {Z : Act → World → Prop} {Q : Exit → Act → World → Prop} {d : Nat}
theorem run_wp {o : Oper} {v : Value} {w' : World} (hr : (execOp a.eval o).run P w = .ok (.value v) w') (h : Z (a.put o.dst v) w') : o.wp P a w Z Q := by
  unfold Oper.wp; rw [hr]; exact h
theorem run_wp0 {o : Oper} {w' : World} (hr : (execOp a.eval o).run P w = .ok .skip w') (h : Z (a.put o.dst undef) w') : o.wp P a w Z Q := by
  unfold Oper.wp; rw [hr]; exact h
theorem op_box {t : TypeId} {x : Operand} {vs : List Value} (S : St n w0 K L a w) (hx : Ev n true K x (.agg vs.toArray)) (hd : Nat.blt d n = true)
    (next : ∀ g a w, St n w0 ((d, true, .pointer (some ⟨g, 0, none⟩)) :: K) (.blk g (.cells vs.toArray t) :: L) a w → Z a w) : Oper.wp P ⟨some d, .box t x, ty, pos, aft, gd⟩ a w Z Q := by
  refine run_wp (v := .pointer (some ⟨w.heap.size, 0, none⟩)) (w' := w.alloc (.cells vs.toArray t)) ?_ (next _ _ _ ⟨S.kn.put hd _, S.wd.alloc _⟩)
  simp [execOp, hx a rfl S.kn, Instr.box, newVar, newRow, Value.cells]
theorem op_alloc {t : TypeId} {v : Value} {cs : List Value} (S : St n w0 K L a w) (hz : ∀ w, (zeroValue t).run P w = .ok v w) (hcs : v.cells = cs.toArray) (hd : Nat.blt d n = true)
    (next : ∀ g a w, St n w0 ((d, true, .pointer (some ⟨g, 0, none⟩)) :: K) (.blk g (.cells cs.toArray t) :: L) a w → Z a w) : Oper.wp P ⟨some d, .alloc t, ty, pos, aft, gd⟩ a w Z Q := by
  refine run_wp (v := .pointer (some ⟨w.heap.size, 0, none⟩)) (w' := w.alloc (.cells cs.toArray t)) ?_ (next _ _ _ ⟨S.kn.put hd _, S.wd.alloc _⟩)
  simp [execOp, Instr.alloc, hz, newVar, newRow, hcs]
theorem run_store_cells {g : Nat} {t : TypeId} : ∀ (vs : List Value) (i j : Nat) (cs : List Value) (w : World), w.heap[g]? = some (.cells cs.toArray t (0, 0)) → i + j + vs.length ≤ cs.length → (∀ v ∈ vs, v.oneCell' = true) →
    ∃ w', (storeCells ⟨g, i, none⟩ vs j).run P w = .ok () w' ∧ w'.heap[g]? = some (.cells (lay cs (i + j) vs).toArray t (0, 0)) ∧ Turned (fun x => x = g) w w'
  | [], i, j, cs, w, hg, _, _ => ⟨w, rfl, hg, ⟨rfl, rfl, rfl, Nat.le_refl _, fun _ _ _ => rfl, Nat.le_refl _⟩⟩
  | v :: vs, i, j, cs, w, hg, hlen, h1 => by
    have hlt : i + j < cs.length := by simp at hlen; omega
    have hc : w.cell? ⟨g, i + j, none⟩ = some cs[i + j] := by rw [cell_of_row w g (i + j) _ t (0, 0) hg]; simp [hlt]
    have hfz := frozen_of_row w g (i + j) _ t hg
    have hs : (store ((⟨g, i, none⟩ : Addr).add j) v).run P w = .ok () (w.setCell ⟨g, i + j, none⟩ v) := by
      rw [Addr.add_mid, run_store P w _ v _ (h1 v (by simp))]
      simp [hc, hfz]
    have hg' : (w.setCell ⟨g, i + j, none⟩ v).heap[g]? = some (.cells (cs.set (i + j) v).toArray t (0, 0)) := by
      rw [heap_setCell_same w g (i + j) _ t v hg]; simp
    obtain ⟨w', hr, hh, hb⟩ := run_store_cells vs i (j + 1) (cs.set (i + j) v) _ hg' (by simp at hlen ⊢; omega) (fun u hu => h1 u (by simp [hu]))
    refine ⟨w', ?_, by rw [lay]; exact hh, ?_⟩
    · rw [storeCells]
      simp only [Sem.run_bind, hs, Result.andThen_ok]
      exact hr
    · exact ⟨hb.os, hb.tape, hb.output, by have := hb.size; simpa using this, fun k hk hne => (hb.block k (by simpa using hk) hne).trans (heap_setCell_other w _ k v (fun e => hne (by simpa using e))), hb.drawn⟩
theorem op_st {t : TypeId} {x y : Operand} {g i k : Nat} {cs : List Value} {e : TypeId} {v : Value} (S : St n w0 K L a w) (h1 : Size P t 1) (hx : Ev n true K x (.pointer (some ⟨g, i, none⟩))) (hy : Ev n true K y v)
    (hk : L[k]? = some (.blk g (.cells cs.toArray e))) (hv : v.oneCell' = true) (hi : i < cs.length)
    (next : ∀ a w, St n w0 K (L.set k (.blk g (.cells (cs.set i v).toArray e))) a w → Z a w) : Oper.wp P ⟨none, .store t x y, ty, pos, aft, gd⟩ a w Z Q := by
  have hg := (S.wd.get hk).2
  obtain ⟨w', hr, hh, hb⟩ := run_store_cells (P := P) [v] i 0 cs w hg (by simp; omega) (by simpa using hv)
  have hvc : v.cells = #[v] := by cases v <;> simp_all [Value.cells, Value.oneCell']
  refine run_wp0 (w' := w') ?_ (next _ _ ⟨S.kn, S.wd.change hk hb ⟨(S.wd.get hk).1, by simpa [lay] using hh⟩ (fun _ h => .inl h)⟩)
  simp [execOp, hx a rfl S.kn, hy a rfl S.kn, Instr.storeAt, Instr.sureAddr, storeVar, h1 w, hvc, hr]
theorem op_call {f : FuncId} {xs : List Operand} {ts : Array TypeId} {vs : List Value} {dst : Option Tmp} {R : Ending → World → Prop} (S : St n w0 K L a w) (hf : ∀ args w, (callFunc f args).run P w = .ok (.enter f args) w) (hx : EvL n true K xs vs)
    (hc : Calls P f vs.toArray w R) (next : ∀ e w', R e w' → ∃ v, e = .returned v ∧ Z (a.put dst v) w') : Oper.wp P ⟨dst, .call ⟨.value (.func f), xs.toArray, ts⟩, ty, pos, aft, gd⟩ a w Z Q := by
  have e : (xs.toArray.map a.eval) = vs.toArray := by rw [List.map_toArray, hx a rfl S.kn]
  have hrun : (execOp a.eval ⟨dst, .call ⟨.value (.func f), xs.toArray, ts⟩, ty, pos, aft, gd⟩).run P w = .ok (.enter f vs.toArray) w := by
    simp only [execOp, resolve, e]
    simp [Act.eval, Deferred.ofValue, invoke, hf]
  unfold Oper.wp
  rw [hrun]
  exact hc.mono fun e w' h => by obtain ⟨v, rfl, hz⟩ := next e w' h; exact hz
end movers
section ends
variable {P : Program} {n : Nat} {w0 : World} {K : KL} {L : List Chunk} {a : Act} {w : World} {fn : Func} {R : Ending → World → Prop} {t : Nat} {v : Value}
theorem st_ret (S : St n w0 K L a w) (hr : (results fn a.tmps).run P w = .ok v w) (h : R (.returned v) w) : bodyPost P fn R .ret a w := ⟨S.kn.defers, v, hr, h⟩
def res1 (tmps : Array Value) (r : ResultVar) : Sem Value := match r with
  | .tmp t => pure (tmps.getD t undef)
  | .cell a t => do loadVar t (← asAddr (tmps.getD a undef))
theorem results_eq (fn : Func) (tmps : Array Value) : results fn tmps = (do let vs ← fn.results.mapM (res1 tmps); pure (if h : vs.size = 1 then vs[0] else .tuple vs)) := rfl
def Rv (P : Program) (n : Nat) (w0 : World) (K : KL) (L : List Chunk) (r : ResultVar) (v : Value) : Prop :=
  ∀ a w, Kn n K a → Wd w0 L w → (res1 a.tmps r).run P w = .ok v w
theorem Rv.tmp (h : look K t = some (true, v)) : Rv P n w0 K L (.tmp t) v := fun a w hk _ => by
  simp [res1, hk.slot t true v h]
theorem Rv.cell {ty m : Nat} {g k : Nat} {cs : List Value} {e : TypeId} {fr : Nat × Nat} (h1 : Many P ty m) (h : look K t = some (true, .pointer (some ⟨g, 0, none⟩))) (hk : L[k]? = some (.blk g (.cells cs.toArray e fr))) (hm : cs.length = m) :
    Rv P n w0 K L (.cell t ty) (.agg cs.toArray) := fun a w hkn hw => by
  have hg := (hw.get hk).2
  have h2 := run_load_many (P := P) (ad := ⟨g, 0, none⟩) h1 hm (w := w) (fun j u hj => by
    rw [Addr.add_mid, cell_of_row w g (0 + j) _ e fr hg]; simpa using hj)
  simp [res1, hkn.slot t true _ h, asAddr, h2]
theorem results1 {fn : Func} {r : ResultVar} (S : St n w0 K L a w) (h : fn.results = #[r]) (hv : Rv P n w0 K L r v) : (results fn a.tmps).run P w = .ok v w := by
  have h1 := hv a w S.kn S.wd
  simp [results_eq, h, h1]
theorem results2 {fn : Func} {r r' : ResultVar} {v' : Value} (S : St n w0 K L a w) (h : fn.results = #[r, r']) (hv : Rv P n w0 K L r v) (hv' : Rv P n w0 K L r' v') : (results fn a.tmps).run P w = .ok (.tuple #[v, v']) w := by
  have h1 := hv a w S.kn S.wd
  have h2 := hv' a w S.kn S.wd
  simp [results_eq, h, h1, h2]
end ends
end Go.Fw
namespace Go.Fw
open Go.RowKit
theorem then_normal {K : Act → World → Prop} {Q : Exit → Act → World → Prop} {a : Act} {w : World} (h : K a w) : Exit.then K Q .normal a w := h
section exits
variable {K : Act → World → Prop} {Q : Exit → Act → World → Prop} {a : Act} {w : World} {i j : Nat}
theorem then_ret (h : Q .ret a w) : Exit.then K Q .ret a w := h
theorem then_exit (h : Q (.exit i) a w) : Exit.then K Q (.exit i) a w := h
theorem in_normal (h : Q .normal a w) : Exit.inBlock i Q .normal a w := h
theorem in_here (h : Q .normal a w) : Exit.inBlock i Q (.exit i) a w := by simp [Exit.inBlock, h]
end exits
def Sl {α : Type} (enc : α → List Value) (size : Nat) (w : World) (B : Nat) (v : Value) (l : List α) : Prop :=
  ∃ A cap, v = .slice A l.length cap ∧ l.length ≤ cap ∧ cap ≤ 9223372036854775807 ∧
    (0 < l.length → ∃ g o, A = some ⟨g, o, none⟩ ∧ g < B ∧ ∀ k x, l[k]? = some x → ∀ j u, (enc x)[j]? = some u → w.cell? ⟨g, o + k * size + j, none⟩ = some u)
section sl
variable {α : Type} {enc : α → List Value} {size : Nat} {w w' w0 : World} {B B' : Nat} {v : Value} {l : List α} {L : List Chunk}
theorem Sl.keep (h : Sl enc size w B v l) (hk : Below B w w') : Sl enc size w' B v l := by
  obtain ⟨A, cap, rfl, h1, h2, h3⟩ := h
  refine ⟨A, cap, rfl, h1, h2, fun hl => ?_⟩
  obtain ⟨g, o, hA, hg, hc⟩ := h3 hl
  exact ⟨g, o, hA, hg, fun k x hx j u hu => (hk.cell (p := ⟨g, o + k * size + j, none⟩) hg).trans (hc k x hx j u hu)⟩
theorem Sl.mono (h : Sl enc size w B v l) (hB : B ≤ B') : Sl enc size w B' v l := by
  obtain ⟨A, cap, rfl, h1, h2, h3⟩ := h
  refine ⟨A, cap, rfl, h1, h2, fun hl => ?_⟩
  obtain ⟨g, o, hA, hg, hc⟩ := h3 hl
  exact ⟨g, o, hA, by omega, hc⟩
theorem Sl.old (W : Wd w0 L w) (h : Sl enc size w0 w0.heap.size v l) : Sl enc size w w.heap.size v l := (h.keep W.below.toBelow).mono W.below.size
end sl
end Go.Fw
set_option linter.unusedVariables false
set_option linter.unusedSimpArgs false
namespace Go.Fw
open Go.RowKit
def InfoT (P : Program) (e : TypeId) (z : Value) (size bytes : Nat) : Prop := (P.info? e).map (fun i => (i.zero, i.size, i.bytes)) = some (some z, size, bytes)
theorem InfoT.parts {P : Program} {e : TypeId} {z : Value} {size bytes : Nat} (h : InfoT P e z size bytes) : ∃ i, P.info? e = some i ∧ i.zero = some z ∧ i.size = size ∧ i.bytes = bytes := by
  unfold InfoT at h
  cases hi : P.info? e with
  | none => rw [hi] at h; simp at h
  | some i => rw [hi] at h; simp at h; exact ⟨i, rfl, h⟩
structure Src (P : Program) (w : World) (size : Nat) (x : Value) (m : Nat) (news : List Value) : Prop where
  len : ∀ W, (Builtin.lenOf x).run P W = .ok m W
  here : (Builtin.firstCells size m x).run P w = .ok news.toArray w
  drew : (Builtin.firstCells size m x).run P w.drew = .ok news.toArray w.drew
  length : news.length = m * size
  one : ∀ u ∈ news, u.oneCell' = true
section src
variable {P : Program} {w : World} {size m : Nat} {news : List Value}
theorem Src.at_ {g o c : Nat} (hl : news.length = m * size) (h1 : ∀ u ∈ news, u.oneCell' = true) (h : ∀ j u, news[j]? = some u → w.cell? ⟨g, o + j, none⟩ = some u) : Src P w size (.slice (some ⟨g, o, none⟩) m c) m news :=
  ⟨fun W => by simp [Builtin.lenOf],
   run_firstCells_some (P := P) w size m ⟨g, o, none⟩ m c news hl (fun j u hj => by rw [Addr.add_mid]; exact h j u hj),
   run_firstCells_some (P := P) w.drew size m ⟨g, o, none⟩ m c news hl (fun j u hj => by rw [Addr.add_mid]; exact h j u hj), hl, h1⟩
theorem Src.none_ {A : Option Addr} {c : Nat} : Src P w size (.slice A 0 c) 0 [] := by
  cases A with
  | none => exact ⟨fun W => by simp [Builtin.lenOf], by simp [Builtin.firstCells], by simp [Builtin.firstCells], by simp, by simp⟩
  | some a => exact ⟨fun W => by simp [Builtin.lenOf], by simp [Builtin.firstCells, loadCells, loadCellsFrom], by simp [Builtin.firstCells, loadCells, loadCellsFrom], by simp, by simp⟩
theorem Src.blk {L : List Chunk} {w0 : World} (hw : Wd w0 L w) {k g c : Nat} {e : TypeId} {fr : Nat × Nat} (hk : L[k]? = some (.blk g (.cells news.toArray e fr))) (hl : news.length = m * size) (h1 : ∀ u ∈ news, u.oneCell' = true) : Src P w size (.slice (some ⟨g, 0, none⟩) m c) m news :=
  Src.at_ hl h1 (fun j u hj => by rw [cell_of_row w g (0 + j) _ e fr (hw.get hk).2]; simpa using hj)
theorem Src.row {L : List Chunk} {w0 : World} (hw : Wd w0 L w) {k e cap c : Nat} {A : Option Addr} (hk : L[k]? = some (.row e size A m cap news)) (h1 : ∀ u ∈ news, u.oneCell' = true) : Src P w size (.slice A m c) m news := by
  have h := hw.get hk
  rcases h.2 with ⟨rfl, _⟩ | ⟨g, cur, rfl, _⟩
  · have : news = [] := List.eq_nil_of_length_eq_zero (by simpa using h.1)
    subst this
    exact Src.none_
  · exact Src.at_ h.1 h1 (fun j u hj => by rw [Nat.zero_add]; exact Owns.cell h hj)
theorem Src.sl {α : Type} {enc : α → List Value} {B : Nat} {A : Option Addr} {l : List α} {cap c : Nat} (h : Sl enc size w B (.slice A l.length cap) l) (hsz : 0 < size) (he : ∀ x, (enc x).length = size) (h1 : ∀ x, ∀ u ∈ enc x, u.oneCell' = true) :
    Src P w size (.slice A l.length c) l.length (l.flatMap enc) := by
  have hlen : ∀ l : List α, (l.flatMap enc).length = l.length * size := by
    intro l
    induction l with
    | nil => simp
    | cons x r ih => simp [he, ih, Nat.add_mul, Nat.add_comm]
  have hget : ∀ (l : List α) (j : Nat) (u : Value), (l.flatMap enc)[j]? = some u → ∃ x, l[j / size]? = some x ∧ (enc x)[j % size]? = some u := by
    intro l
    induction l with
    | nil => intro j u hj; simp at hj
    | cons x r ih =>
      intro j u hj
      rw [List.flatMap_cons, List.getElem?_append] at hj
      split at hj
      · rename_i hlt
        rw [he] at hlt
        exact ⟨x, by simp [Nat.div_eq_of_lt hlt], by rw [Nat.mod_eq_of_lt hlt]; exact hj⟩
      · rename_i hge
        rw [he] at hge hj
        obtain ⟨y, h2, h3⟩ := ih _ _ hj
        have hge' : size ≤ j := by omega
        refine ⟨y, ?_, ?_⟩
        · rw [show j / size = (j - size) / size + 1 from Nat.div_eq_sub_div hsz hge']
          simpa using h2
        · rw [Nat.mod_eq_sub_mod hge']; exact h3
  obtain ⟨A', cap', hv, h2, h3, h4⟩ := h
  simp only [Value.slice.injEq] at hv
  obtain ⟨rfl, _, rfl⟩ := hv
  rcases Nat.eq_zero_or_pos l.length with h0 | hp
  · have : l = [] := List.eq_nil_of_length_eq_zero h0
    subst this
    exact Src.none_
  · obtain ⟨g, o, rfl, hg, hc⟩ := h4 hp
    refine Src.at_ (hlen l) (fun u hu => ?_) (fun j u hj => ?_)
    · obtain ⟨x, _, hx⟩ := List.mem_flatMap.1 hu
      exact h1 x u hx
    · obtain ⟨x, h5, h6⟩ := hget l j u hj
      have := hc _ x h5 _ u h6
      rw [show o + j = o + j / size * size + j % size by rw [Nat.add_assoc, Nat.mul_comm, Nat.div_add_mod]]
      exact this
end src
theorem nextcap_le {need old : Nat} (h : old < need) : Builtin.nextslicecap need old ≤ need + need / 4 + 512 := by
  unfold Builtin.nextslicecap
  split
  · omega
  · split
    · omega
    · rw [growBy_four]
      repeat' split
      all_goals omega
section app
variable {P : Program} {w : World}
theorem run_append {B t ty e n cap m bytes size : Nat} {ts : List TypeId} {z : Value} {A : Option Addr} {x : Value} {xs news : List Value} (ht : P.underlying t = some (.slice e)) (hts : ∃ t2 d2, ts = [t, t2] ∧ P.underlying t2 = some d2 ∧ (d2 = .string ∨ ∃ e2, d2 = .slice e2)) (hi : InfoT P e z size bytes) (hzs : z.cells.size = size) (hbase : B ≤ w.heap.size)
    (hown : Owns w B e size A n cap xs) (hsrc : Src P w size x m news) (hbytes : (n + m) * bytes ≤ 200000000000000) (hb1 : 0 < bytes) (hb2 : bytes ≤ 65536) :
    ∃ A' cap' w', (Builtin.append_ ts.toArray ty #[.slice A n cap, x]).run P w = .ok (.slice A' (n + m) cap') w' ∧ Owns w' B e size A' (n + m) cap' (xs ++ news) ∧ Turned (Chunk.own (.row e size A n cap xs)) w w' ∧
      (∀ b, Chunk.own (.row e size A' (n + m) cap' (xs ++ news)) b → Chunk.own (.row e size A n cap xs) b ∨ w.heap.size ≤ b) ∧ cap ≤ cap' := by
  obtain ⟨t2, d2, rfl, ht2, hd2⟩ := hts
  obtain ⟨i, hi1, hi2, hi3, hi4⟩ := hi.parts
  subst hi3; subst hi4
  have hlen : (xs ++ news).length = (n + m) * i.size := by rw [List.length_append, hown.1, hsrc.length, Nat.add_mul]
  have hnm : n + m ≤ 200000000000000 := by
    have := Nat.le_mul_of_pos_right (n + m) hb1
    omega
  have hlx := hsrc.len w
  have holds : (Builtin.firstCells i.size n (.slice A n cap)).run P w.drew = .ok xs.toArray w.drew := by
    rcases hown.2 with ⟨rfl, rfl⟩ | ⟨g, cur, rfl, hp, hB, hg, hnc, hcm, hcs, htake⟩
    · have hx : xs = [] := List.eq_nil_of_length_eq_zero (by simpa using hown.1)
      subst hx
      cases A <;> simp [Builtin.firstCells, loadCells, loadCellsFrom]
    · exact run_firstCells_some (P := P) w.drew i.size n ⟨g, 0, none⟩ n cap xs hown.1 (fun j u hj => by
        rw [Addr.add_mid, Nat.zero_add]; simpa using Owns.cell hown hj)
  by_cases hroom : n + m ≤ cap
  · rcases hown.2 with ⟨rfl, rfl⟩ | ⟨g, cur, rfl, hp, hB, hg, hnc, hcm, hcs, htake⟩
    · have hm : m = 0 := by omega
      subst hm
      have hx : xs = [] := List.eq_nil_of_length_eq_zero (by simpa using hown.1)
      have hn : news = [] := List.eq_nil_of_length_eq_zero (by simpa using hsrc.length)
      subst hx; subst hn
      refine ⟨A, 0, w, ?_, hown, ⟨rfl, rfl, rfl, Nat.le_refl _, fun _ _ _ => rfl, Nat.le_refl _⟩, fun _ h => .inl h, Nat.le_refl _⟩
      have hh := hsrc.here
      cases A with
      | none => rcases hd2 with rfl | ⟨e2, rfl⟩ <;> simp [Builtin.append_, run_underlying ht, run_underlying ht2, sizeOf, typeInfo, hi1, hlx, hh]
      | some a => rcases hd2 with rfl | ⟨e2, rfl⟩ <;> simp [Builtin.append_, run_underlying ht, run_underlying ht2, sizeOf, typeInfo, hi1, hlx, hh, storeCells]
    · have hcl : cur.toList.length = cap * i.size := by simpa using hcs
      obtain ⟨w', hr, hh, hb⟩ := run_store_cells (P := P) (g := g) (t := e) news (n * i.size) 0 cur.toList w (by simpa using hg) (by
        rw [hsrc.length, hcl, Nat.add_zero, ← Nat.add_mul]; exact Nat.mul_le_mul_right _ hroom) hsrc.one
      refine ⟨_, cap, w', ?_, ⟨hlen, .inr ⟨g, _, rfl, hp, hB, hh, hroom, hcm, by simp [lay_len, hcs], ?_⟩⟩, hb.mono (fun x hx => ⟨Nat.pos_iff_ne_zero.1 hp, by simp [hx]⟩), fun _ h => .inl h, Nat.le_refl _⟩
      · have hh := hsrc.here
        rcases hd2 with rfl | ⟨e2, rfl⟩ <;> simp [Builtin.append_, run_underlying ht, run_underlying ht2, sizeOf, typeInfo, hi1, hlx, hh, hroom, Addr.add_mid, hr]
      · have key : ∀ (vs cs : List Value) (i : Nat), i + vs.length ≤ cs.length → (lay cs i vs).take (i + vs.length) = cs.take i ++ vs := by
          intro vs
          induction vs with
          | nil => intro cs i h; simp [lay]
          | cons v vs ih =>
            intro cs i h
            simp at h
            rw [lay, show i + (v :: vs).length = i + 1 + vs.length by simp; omega, ih _ _ (by simp; omega)]
            have e : (cs.set i v).take (i + 1) = cs.take i ++ [v] := by
              rw [List.take_succ_eq_append_getElem (by simp; omega)]
              simp [List.take_set]
              exact List.set_eq_of_length_le (by simp; omega)
            rw [e]; simp
        have := key news cur.toList (n * i.size) (by rw [hsrc.length, hcl, ← Nat.add_mul]; exact Nat.mul_le_mul_right _ hroom)
        rw [hsrc.length, ← Nat.add_mul, htake] at this
        simpa using this
  · have h63 : ¬ (9223372036854775807 < ((n : Int) + (m : Int))) := by omega
    have hnc := nextcap_le (need := n + m) (old := cap) (by omega)
    have hfit : Builtin.nextslicecap (n + m) cap * i.bytes ≤ 281474976710656 := by
      have h1 : Builtin.nextslicecap (n + m) cap * i.bytes ≤ (n + m + (n + m) / 4 + 512) * i.bytes := Nat.mul_le_mul_right _ hnc
      have h2 : (n + m + (n + m) / 4 + 512) * i.bytes = (n + m) * i.bytes + (n + m) / 4 * i.bytes + 512 * i.bytes := by rw [Nat.add_mul, Nat.add_mul]
      have h3 : (n + m) / 4 * i.bytes * 4 ≤ (n + m) * i.bytes := by
        rw [Nat.mul_right_comm]; exact Nat.mul_le_mul_right _ (Nat.div_mul_le_self _ _)
      omega
    have hfit' : ¬ (281474976710656 < Builtin.nextslicecap (n + m) cap * i.bytes) := by omega
    have hge := grownCap_ge w (n + m) cap e
    have hcm : grownCap w (n + m) cap e ≤ maxLen := grownCap_le_maxLen w (n + m) cap e (by simp only [maxLen]; omega)
    refine ⟨some ⟨w.heap.size, 0, none⟩, grownCap w (n + m) cap e, w.drew.alloc (.cells (xs.toArray ++ news.toArray ++ Builtin.zeroCells z.cells (grownCap w (n + m) cap e - (n + m))) e), ?_, ?_, ?_, ?_, by omega⟩
    · have hh := hsrc.drew
      have ea : ∀ Z : Array Value, xs.toArray ++ (news.toArray ++ Z) = (xs ++ news).toArray ++ Z := fun Z => by rw [← List.append_toArray, Array.append_assoc]
      rcases hd2 with rfl | ⟨e2, rfl⟩ <;> simp [Builtin.append_, run_underlying ht, run_underlying ht2, sizeOf, typeInfo, hi1, hi2, hlx, hh, hroom, h63, hfit', holds, zeroValue, Question.forced, newRow, grownCap] <;> rw [ea]
    · refine ⟨hlen, .inr ⟨w.heap.size, _, rfl, by omega, hbase, heap_alloc_new w.drew _, hge, hcm, ?_, ?_⟩⟩
      · simp only [Array.size_append, List.size_toArray, size_zeroCells, hzs, hown.1, hsrc.length, ← Nat.add_mul]
        congr 1
        omega
      · simp only [Array.toList_append]
        rw [← hlen]
        exact List.take_left
    · exact ⟨rfl, rfl, rfl, by simp, fun k hk _ => Below.heap_alloc w.drew _ k hk, by show _ ≤ w.drawn + 1; omega⟩
    · intro b hb
      obtain ⟨_, hb⟩ := hb
      simp at hb
      right; omega
end app
end Go.Fw
set_option linter.unusedVariables false
set_option linter.unusedSimpArgs false
namespace Go.Fw
open Go.RowKit
abbrev rowOf {α : Type} (e size : Nat) (enc : α → List Value) (A : Option Addr) (cap : Nat) (l : List α) : Chunk := .row e size A l.length cap (l.flatMap enc)
theorem Wd.join {w0 w w' : World} {L L' : List Chunk} (h : Wd w0 L w) (h' : Wd w L' w') : Wd w0 (L' ++ L) w' := by
  have hk := h.step h'.below
  refine ⟨hk.below, fun c hc => ?_, List.pairwise_append.2 ⟨h'.apart, hk.apart, fun c hc d hd b hcb hdb => ?_⟩⟩
  · rcases List.mem_append.1 hc with hc | hc
    · exact (h'.all c hc).mono h.below.size
    · exact hk.all c hc
  · have h1 := ((h'.all c hc).lt hcb).1
    have h2 := ((h.all d hd).lt hdb).2
    omega
def Rets (P : Program) (f : FuncId) (args : Array Value) (w : World) (R : Value → List Chunk → Prop) : Prop :=
  Calls P f args w fun e w' => ∃ v L, e = .returned v ∧ Wd w L w' ∧ R v L
theorem Sl.of_own {α : Type} {enc : α → List Value} {size e cap k : Nat} {w w0 : World} {L : List Chunk} {A : Option Addr} {l : List α} (W : Wd w0 L w) (hk : L[k]? = some (rowOf e size enc A cap l)) (he : ∀ x, (enc x).length = size) : Sl enc size w w.heap.size (.slice A l.length cap) l := by
  have h := W.get hk
  rcases h.2 with ⟨h0, rfl⟩ | ⟨g, cur, rfl, hp, hB, hg, hn, hm, hc, ht⟩
  · exact ⟨A, 0, rfl, by omega, by omega, fun hl => by omega⟩
  · refine ⟨_, cap, rfl, hn, hm, fun _ => ⟨g, 0, rfl, (Array.getElem?_eq_some_iff.1 hg).1, fun i x hx j u hu => ?_⟩⟩
    rw [Nat.zero_add]
    refine Owns.cell h ?_
    have key : ∀ (l : List α) (i : Nat), l[i]? = some x → (l.flatMap enc)[i * size + j]? = some u := by
      intro l
      induction l with
      | nil => intro i hi; simp at hi
      | cons y r ih =>
        intro i hi
        rw [List.flatMap_cons]
        match i, hi with
        | 0, hi =>
          simp only [List.getElem?_cons_zero, Option.some.injEq] at hi
          subst hi
          have hlt : j < (enc y).length := (List.getElem?_eq_some_iff.1 hu).1
          rw [Nat.zero_mul, Nat.zero_add, List.getElem?_append_left hlt]; exact hu
        | i + 1, hi =>
          rw [List.getElem?_append_right (by rw [he, Nat.add_mul]; omega), he, show (i + 1) * size + j - size = i * size + j by rw [Nat.add_mul]; omega]
          exact ih i (by simpa using hi)
    exact key l i hx
section ldw
variable {P : Program} {n : Nat} {w0 : World} {K : KL} {L : List Chunk} {b : Bool} {dst : Option Tmp} {ty : TypeId} {pos : String} {aft : Array Edge} {gd : Option (Nat × Bool)}
end ldw
section movers
variable {P : Program} {n : Nat} {w0 : World} {K : KL} {L : List Chunk} {ty : TypeId} {pos : String} {aft : Array Edge} {gd : Option (Nat × Bool)} {a : Act} {w : World} {Z : Act → World → Prop} {Q : Exit → Act → World → Prop} {d : Nat}
theorem op_calls {f : FuncId} {xs : List Operand} {ts : Array TypeId} {vs : List Value} {R : Value → List Chunk → Prop} (S : St n w0 K L a w) (hf : ∀ args w, (callFunc f args).run P w = .ok (.enter f args) w) (hx : EvL n true K xs vs)
    (hc : Rets P f vs.toArray w R) (hd : Nat.blt d n = true) (next : ∀ v L', R v L' → ∀ a w', St n w0 ((d, true, v) :: K) (L' ++ L) a w' → Z a w') : Oper.wp P ⟨some d, .call ⟨.value (.func f), xs.toArray, ts⟩, ty, pos, aft, gd⟩ a w Z Q :=
  op_call S hf hx hc fun e w' ⟨v, L', he, hw, hr⟩ => ⟨v, he, next v L' hr _ _ ⟨S.kn.put hd v, S.wd.join hw⟩⟩
theorem St.nil_ (S : St n w0 K L a w) {α : Type} (e size : Nat) (enc : α → List Value) (A : Option Addr) : St n w0 K (rowOf e size enc A 0 [] :: L) a w :=
  ⟨S.kn, S.wd.bare ⟨by simp, .inl ⟨rfl, rfl⟩⟩ (fun b h => h.1 rfl)⟩
theorem op_append {t t2 e bytes size m cap q k : Nat} {d2 : TypeDesc} {z : Value} {A : Option Addr} {s x : Operand} {xv : Value} {xs news : List Value} (S : St n w0 K L a w) (ht : P.underlying t = some (.slice e)) (ht2 : P.underlying t2 = some d2) (hd2 : d2 = .string ∨ ∃ e2, d2 = .slice e2)
    (hi : InfoT P e z size bytes) (hzs : z.cells.size = size) (hs : Ev n true K s (.slice A m cap)) (hx : Ev n true K x xv) (hk : L[k]? = some (.row e size A m cap xs)) (hsrc : Src P w size xv q news) (hb : (m + q) * bytes ≤ 200000000000000) (hb1 : Nat.blt 0 bytes = true) (hb2 : Nat.ble bytes 65536 = true) (hd : Nat.blt d n = true)
    (next : ∀ A' cap' a w, cap ≤ cap' → St n w0 ((d, true, .slice A' (m + q) cap') :: K) (L.set k (.row e size A' (m + q) cap' (xs ++ news))) a w → Z a w) :
    Oper.wp P ⟨some d, .call ⟨.builtin .append, #[s, x], #[t, t2]⟩, ty, pos, aft, gd⟩ a w Z Q := by
  obtain ⟨A', cap', w', hr, ho, hg, hown, hcc⟩ := run_append (P := P) (w := w) (ts := [t, t2]) (ty := ty) ht ⟨t2, d2, rfl, ht2, hd2⟩ hi hzs S.wd.below.size (S.wd.get hk) hsrc hb (Nat.le_of_ble_eq_true hb1) (Nat.le_of_ble_eq_true hb2)
  refine run_wp (v := .slice A' (m + q) cap') (w' := w') ?_ (next A' cap' _ _ hcc ⟨S.kn.put hd _, S.wd.change hk hg ho hown⟩)
  simp only [execOp, resolve, invoke, builtin, Sem.run_bind, Sem.run_pure, Result.andThen_ok, List.map_toArray, List.map_cons, List.map_nil, hs a rfl S.kn, hx a rfl S.kn, hr]
theorem op_bslice {t e sz len : Nat} {z : Value} {ps : List (Nat × Operand)} {vs us : List Value} (zs : List Value) (S : St n w0 K L a w) (ht : P.underlying t = some (.slice e)) (hsz : ∀ w, (sizeOf e).run P w = .ok sz w) (hz : ∀ w, (zeroValue e).run P w = .ok z w)
    (hzs : (Array.range (len * sz)).map (fun i => (if len * sz = 0 then #[] else z.cells)[i % (if len * sz = 0 then (#[] : Array Value) else z.cells).size]!) = zs.toArray) (hmax : Nat.ble (len * sz) 16777216 = true)
    (hx : EvL n true K (ps.map (·.2)) vs) (hr : fillL (fun i => some (i * sz, sz)) zs ((ps.map (·.1)).zip vs) = some us) (hd : Nat.blt d n = true)
    (next : ∀ g a w, St n w0 ((d, true, .slice (some ⟨g, 0, none⟩) len len) :: K) (.blk g (.cells us.toArray e) :: L) a w → Z a w) :
    Oper.wp P ⟨some d, .buildSlice t len ps.toArray, ty, pos, aft, gd⟩ a w Z Q := by
  refine run_wp (v := .slice (some ⟨w.heap.size, 0, none⟩) len len) (w' := w.alloc (.cells us.toArray e)) ?_ (next _ _ _ ⟨S.kn.put hd _, S.wd.alloc _⟩)
  have h := hx a rfl S.kn
  have e : (ps.toArray.map fun (i, x) => (i, a.eval x)) = ((ps.map (·.1)).zip vs).toArray := by
    rw [← h]
    simp only [List.map_toArray, List.map_map, List.zip_map', Function.comp_def]
  have hf := fill_of hr
  have hm : ¬ (2 ^ 24 < len * sz) := by have := Nat.le_of_ble_eq_true hmax; omega
  simp only [execOp, e, Instr.buildSlice, Sem.run_bind, run_underlying ht, Result.andThen_ok, hsz]
  by_cases h0 : len * sz = 0
  · simp only [h0, if_true, Array.range_zero', List.map_toArray, List.map_nil] at hzs
    have hz0 : zs = [] := by simpa using hzs.symm
    subst hz0
    simp [hm, h0, hf, newRow, Array.range_zero']
  · simp only [h0, if_false] at hzs
    simp [hm, h0, hz, hzs, hf, newRow]
end movers
section ops
variable {P : Program} {n : Nat} {w0 : World} {K : KL} {L : List Chunk} {b : Bool} {dst : Option Tmp} {ty : TypeId} {pos : String} {aft : Array Edge} {gd : Option (Nat × Bool)}
end ops
section eq
variable {P : Program}
def FEq (P : Program) (k : Nat) (xs ys : List Value) (fs : List Field) (r : Bool) : Prop := ∀ d w, (Op.eqFields (d + k) xs.toArray ys.toArray fs).run P w = .ok r w
section fields
variable {xs ys : List Value} {nm : String} {tt o : Nat} {em : Bool} {tg pp : String} {bo : Nat} {fs : List Field} {r : Bool} {k : Nat}
theorem FEq.nil : FEq P k xs ys [] true := fun d w => by simp [Op.eqFields]
theorem FEq.int {ik ik' : IntKind} {p q : Int} (hn : (nm != "_") = true) (ht : P.underlying tt = some (.int ik')) (ha : ∀ w, (isAgg tt).run P w = .ok false w) (hx : nth xs o = some (.int ik p)) (hy : nth ys o = some (.int ik q)) (h : FEq P (k + 1) xs ys fs r) :
    FEq P (k + 1) xs ys (⟨nm, tt, o, em, tg, pp, bo⟩ :: fs) (decide (p = q) && r) := fun d w => by
  have hn' : nm ≠ "_" := by simpa using hn
  rw [nth_eq] at hx hy
  have hpq : (p == q) = decide (p = q) := rfl
  have hh := run_equalIn_int (P := P) w (d + k) tt ik ik' p q ht
  rw [Nat.add_assoc] at hh
  simp only [Op.eqFields, ne_eq, hn', not_false_eq_true, if_true, Sem.run_bind, part, ha, Result.andThen_ok]
  simp [hx, hy, hh, hpq]
  by_cases e : p = q <;> simp [e, h d w]
theorem FEq.bool {p q : Bool} (hn : (nm != "_") = true) (ht : P.underlying tt = some .bool) (ha : ∀ w, (isAgg tt).run P w = .ok false w) (hx : nth xs o = some (.bool p)) (hy : nth ys o = some (.bool q)) (h : FEq P (k + 1) xs ys fs r) :
    FEq P (k + 1) xs ys (⟨nm, tt, o, em, tg, pp, bo⟩ :: fs) (decide (p = q) && r) := fun d w => by
  have hn' : nm ≠ "_" := by simpa using hn
  rw [nth_eq] at hx hy
  have hpq : (p == q) = decide (p = q) := by cases p <;> cases q <;> rfl
  have hh := run_equalIn_bool' (P := P) w (d + k) tt p q ht
  rw [Nat.add_assoc] at hh
  simp only [Op.eqFields, ne_eq, hn', not_false_eq_true, if_true, Sem.run_bind, part, ha, Result.andThen_ok]
  simp [hx, hy, hh, hpq]
  by_cases e : p = q <;> simp [e, h d w]
theorem FEq.agg {fs' : List Field} {m : Nat} {us vs : List Value} {r' : Bool} (hn : (nm != "_") = true) (ht : P.underlying tt = some (.struct fs'.toArray)) (hp : P.stoodInHeld tt = false) (ha : ∀ w, (isAgg tt).run P w = .ok true w) (hz : ∀ w, (sizeOf tt).run P w = .ok m w) (hx : cellsAt xs o m = some us) (hy : cellsAt ys o m = some vs)
    (h' : FEq P k us vs fs' r') (h : FEq P (k + 1) xs ys fs r) : FEq P (k + 1) xs ys (⟨nm, tt, o, em, tg, pp, bo⟩ :: fs) (r' && r) := fun d w => by
  have hn' : nm ≠ "_" := by simpa using hn
  have e1 : xs.toArray.extract o (o + m) = us.toArray := by
    rw [(cellsAt_eq hx).2]; simp [List.extract_eq_take_drop, List.extract_toArray]
  have e2 : ys.toArray.extract o (o + m) = vs.toArray := by
    rw [(cellsAt_eq hy).2]; simp [List.extract_eq_take_drop, List.extract_toArray]
  have hh := run_equalIn_struct (P := P) w (d + k) tt us.toArray vs.toArray (by simp [Program.fieldsOf, ht]) hp
  rw [Nat.add_assoc] at hh
  have hf := h' d w
  simp only [Op.eqFields, ne_eq, hn', not_false_eq_true, if_true, Sem.run_bind, part, ha, hz, Result.andThen_ok, Sem.run_pure, e1, e2, hh, Program.fieldsOf, ht, hf]
  cases r' <;> simp [h d w]
end fields
theorem EqT.mk {t k d : Nat} {fs : List Field} {xs ys : List Value} {r r' : Bool} (hu : P.underlying t = some (.struct fs.toArray)) (hs : P.stoodInHeld t = false) (hg : P.eqGuardType P.depth t = false) (hk : d + k = 9999) (h : FEq P k xs ys fs r) (hr : r = r') : EqT P t xs ys r' := fun w => by
  subst hr
  refine ⟨by simp [eqGuard, hg], ?_⟩
  rw [run_equalIn_struct w 9999 t _ _ (by simp [Program.fieldsOf, hu]) hs]
  simp only [Program.fieldsOf, hu]
  rw [← hk]
  exact h d w
end eq
end Go.Fw
set_option linter.unusedVariables false
set_option linter.unusedSimpArgs false
namespace Go.Fw
open Go.RowKit
section ops
variable {P : Program} {n : Nat} {w0 : World} {K : KL} {L : List Chunk} {b : Bool} {dst : Option Tmp} {ty : TypeId} {pos : String} {aft : Array Edge} {gd : Option (Nat × Bool)}
theorem ys_T {o : Oper} {p : Prop} [Decidable p] (h : p) (hy : Yr P o n K w0 L b (.bool (decide p))) : Yr P o n K w0 L b (.bool true) := Yr.of_imp (fun _ => by rw [decide_eq_true h]) hy
theorem ys_F {o : Oper} {p : Prop} [Decidable p] (h : ¬ p) (hy : Yr P o n K w0 L b (.bool (decide p))) : Yr P o n K w0 L b (.bool false) := Yr.of_imp (fun _ => by rw [decide_eq_false h]) hy
theorem ys_pickT {x y z : Operand} {u : Value} (hx : Ev n b K x (.bool true)) (hy : Ev n b K y u) : Yr P ⟨dst, .pick x y z, ty, pos, aft, gd⟩ n K w0 L b u := fun a w hb hk _ => by
  simp [execOp, hx a hb hk, hy a hb hk, asBool]
theorem ys_pickF {x y z : Operand} {u : Value} (hx : Ev n b K x (.bool false)) (hz : Ev n b K z u) : Yr P ⟨dst, .pick x y z, ty, pos, aft, gd⟩ n K w0 L b u := fun a w hb hk _ => by
  simp [execOp, hx a hb hk, hz a hb hk, asBool]
end ops
section known
variable {P : Program} {Q : Exit → Act → World → Prop} {n : Nat} {w0 : World} {K : KL} {L Lr : List Chunk} {a : Act} {w : World} {ops : Array Oper} {rest : List Oper} {op : Op} {ty : TypeId} {pos : String} {aft : Array Edge} {v : Value} {d t j i fuel : Nat} {p q : Bool} {listed : Array Bool} {md : Region.Mode} {Z : Act → Prop}
theorem st_yt (S : St n w0 K L a w) (hj : (ops[j]?).bind (·.dst) = some t) (hl : look K t = some (true, .bool p)) (hy : Ys P ⟨some d, op, ty, pos, aft, some (j, p)⟩ n K w0 L true v) (hd : Nat.blt d n = true)
    (next : ∀ a w, St n w0 ((d, true, v) :: K) L a w → wpList P ops Q rest a w) : wpList P ops Q (⟨some d, op, ty, pos, aft, some (j, p)⟩ :: rest) a w :=
  st_mg S hj hl (hy.wp S fun w' hw => next _ _ ⟨S.kn.put hd v, hw⟩)
theorem st_skip0 (S : St n w0 K L a w) (hj : (ops[j]?).bind (·.dst) = some t) (hl : look K t = some (false, v)) (hd : Nat.blt d n = true)
    (next : ∀ a w, St n w0 ((d, false, undef) :: K) L a w → wpList P ops Q rest a w) : wpList P ops Q (⟨some d, op, ty, pos, aft, some (j, q)⟩ :: rest) a w := by
  have hyd : yielded ops a.tmps j = none := by
    unfold yielded
    rw [hj]
    simp [S.kn.slot t false v hl, undef]
  have h := next (a.put (some d) undef) w ⟨S.kn.putg hd false undef, S.wd⟩
  simp only [wpList, Region.wanted, hyd]
  simpa using h
end known
end Go.Fw
set_option linter.unusedVariables false
set_option linter.unusedSimpArgs false
namespace Go.Fw
open Go.RowKit
structure Dot where
  node : Int
  life : Int
  count : Int
deriving DecidableEq
abbrev Dot.enc (d : Dot) : List Value := [.int .i64 d.node, .int .i64 d.life, .int .i64 d.count]
structure Ctx where
  marks : List Dot
  cloud : List Dot
deriving DecidableEq
def markOf : List Dot → Int → Int → Int
  | [], _, _ => 0
  | m :: r, x, y => if m.node = x ∧ m.life = y then m.count else markOf r x y
def RdCtx (w : World) (B : Nat) (v1 v2 : Value) (C : Ctx) : Prop := Sl Dot.enc 3 w B v1 C.marks ∧ Sl Dot.enc 3 w B v2 C.cloud
theorem RdCtx.old {w0 w : World} {L : List Chunk} {v1 v2 : Value} {C : Ctx} (W : Wd w0 L w) (h : RdCtx w0 w0.heap.size v1 v2 C) : RdCtx w w.heap.size v1 v2 C := ⟨.old W h.1, .old W h.2⟩
def keep (x y : Int) (l : List Dot) : List Dot := l.filter fun d => !decide (d.node = x ∧ d.life = y)
def mayD (d : Dot) : Bool := decide (0 ≤ d.node ∧ d.node < 8 ∧ 1 ≤ d.life ∧ d.life ≤ 1099511627776 ∧ 1 ≤ d.count ∧ d.count ≤ 1099511627776)
end Go.Fw
set_option linter.unusedVariables false
set_option linter.unusedSimpArgs false
namespace Go.Fw
open Go.RowKit
theorem Sl.nil_ {α : Type} {enc : α → List Value} {size B : Nat} {w : World} : Sl enc size w B (.slice none 0 0) [] := ⟨none, 0, rfl, Nat.le_refl _, by omega, fun h => absurd h (by simp)⟩
end Go.Fw
set_option linter.unusedVariables false
set_option linter.unusedSimpArgs false
namespace Go.Proofs.Ytjfeeiljinbmjaa
open Go.Fw Go.Proofs Go.RowKit Go.ChangeShapes Go.WideShapes Go.ChangeAt Go.Deep Go.Joins
theorem bulk_one {H : Type} (d : DataW H) : 1 ≤ Rows.uptoBulk d := by
  cases d with
  | lit l => cases l <;> simp [Rows.uptoBulk]
  | nil => simp [Rows.uptoBulk]
  | ptr d => simp [Rows.uptoBulk]
  | slice elems spare => simp [Rows.uptoBulk]
  | agg parts => simp [Rows.uptoBulk]
  | iface t d => simp [Rows.uptoBulk]
  | map entries => simp [Rows.uptoBulk]
  | held h => simp [Rows.uptoBulk]
theorem bulk_len {H : Type} (l : List (DataW H)) : l.length ≤ Rows.uptoBulkAll l := by
  induction l with
  | nil => simp [Rows.uptoBulkAll]
  | cons x r ih => have := bulk_one x; simp only [Rows.uptoBulkAll, List.length_cons]; omega
theorem bulk_slice {H : Type} (elems spare : List (DataW H)) : elems.length + 1 ≤ Rows.uptoBulk (.slice elems spare) := by
  have h1 := bulk_len elems
  simp only [Rows.uptoBulk]
  omega
theorem bulk_part {H : Type} {d : DataW H} {l : List (DataW H)} (h : d ∈ l) : Rows.uptoBulk d ≤ Rows.uptoBulkAll l := by
  induction l with
  | nil => cases h
  | cons x r ih =>
    simp only [Rows.uptoBulkAll]
    cases List.mem_cons.1 h with
    | inl e => subst e; omega
    | inr e => have := ih e; omega
theorem list_of {α : Type} {Q : Nat → α → Prop} : ∀ {n : Nat}, (∀ i, i < n → ∃ x, Q i x) → ∃ l : List α, l.length = n ∧ ∀ k x, l[k]? = some x → Q k x
  | 0, _ => ⟨[], rfl, fun k x h => by simp at h⟩
  | n + 1, h => by
    obtain ⟨l, h1, h2⟩ := list_of (n := n) fun i hi => h i (by omega)
    obtain ⟨y, hy⟩ := h n (by omega)
    refine ⟨l ++ [y], by simp [h1], fun k x hk => ?_⟩
    rw [List.getElem?_append] at hk
    split at hk
    · exact h2 k x hk
    · rename_i hge
      have : k = n := by
        have := (List.getElem?_eq_some_iff.1 hk).1
        simp at this; omega
      subst this
      rw [h1, Nat.sub_self] at hk
      simp at hk
      subst hk
      exact hy
section
variable {H : Type} {enc : TypeId × Value → H} {P : Program} {w : World}
theorem open_slice_cells {base : Nat} {spare : Nat → Bool} {held : Bool} {t e : TypeId} {fs : Array Field} {fuel : Nat} {cs : List Value} {x : DataW H × List MemPlace} (ht : P.underlying t = some (.slice e)) (he : P.underlying e = some (.struct fs))
    (hone : oneCellFields P fs = true) (hC : P.cellsOf e = fs.size) (h : DataW.trod enc P w base spare held fuel t cs = some x) :
    (cs = [.slice none 0 0] ∧ x = (.nil, [])) ∨
    ∃ (a : Addr) (len cap m : Nat) (D : Nat → DataW H) (r : List (DataW H)) (Pl : List MemPlace), cs = [.slice (some a) len cap] ∧ len ≤ cap ∧ cap ≤ maxLen ∧ len ≤ m ∧
      x = (.slice ((List.range len).map D) r, Pl) ∧
      ∀ i, i < m → ∀ (j : Nat) (f : Field), fs[j]? = some f → ∃ (v : Value) (n : Nat) (y : DataW H × List MemPlace), w.cell? (a.add (i * fs.size + j)) = some v ∧ DataW.trod enc P w base spare held n f.type [v] = some y := by
  rcases open_slice ht h with h0 | ⟨a, len, cap, m, n, D, Pl, hcs, hb, hl, hm, hmm, hx, hi⟩
  · exact .inl h0
  · refine .inr ⟨a, len, cap, m, D, _, _, hcs, hl, hm, by rw [hmm]; split <;> omega, hx, fun i him j f hj => ?_⟩
    obtain ⟨cs', hc, ht'⟩ := hi i him
    rw [hC] at hc
    obtain ⟨ys, n', hn', hy, hlen, hyl, hf⟩ := DataW.trod_struct he ht'
    obtain ⟨_, hcl, hat⟩ := World.cells?_some hc
    obtain ⟨ho, hk⟩ := hone_of hone j f hj
    have hjl : j < fs.size := (Array.getElem?_eq_some_iff.1 hj).1
    have hcell := hat j hjl
    have hv : cs'[j]? = some (cs'[j]'(by omega)) := List.getElem?_eq_getElem (by omega)
    have h1 := hf j f hj
    rw [ho, hk] at h1
    have hone' : (cs'.drop j).take 1 = [cs'[j]'(by omega)] := by
      rw [List.drop_eq_getElem_cons (by omega)]
      rfl
    rw [hone'] at h1
    have hys : ys[j]? = some (ys[j]'(by omega)) := List.getElem?_eq_getElem (by omega)
    refine ⟨_, _, _, ?_, h1.trans hys⟩
    rw [← Go.Deep.add_add, hcell, hv]
theorem read_dots {t e : TypeId} {f0 f1 f2 : Field} {v : Value} {d : DataW H} {p : List MemPlace} (ht : P.underlying t = some (.slice e)) (he : P.underlying e = some (.struct #[f0, f1, f2])) (hone : oneCellFields P #[f0, f1, f2] = true) (hC : P.cellsOf e = 3)
    (h0 : P.underlying f0.type = some (.int .i64)) (h1 : P.underlying f1.type = some (.int .i64)) (h2 : P.underlying f2.type = some (.int .i64)) (hv : ∃ A len cap, v = .slice A len cap) (h : DataW.Trod enc P w 0 (fun _ => true) true t v d p) :
    ∃ l, Sl Dot.enc 3 w w.heap.size v l ∧ l.length + 1 ≤ Rows.uptoBulk d := by
  obtain ⟨A, len, cap, rfl⟩ := hv
  obtain ⟨fuel, hf⟩ := h
  rcases open_slice_cells ht he hone hC hf with ⟨hcs, hx⟩ | ⟨a, len', cap', m, D, r, Pl, hcs, hl, hm, hmm, hx, hi⟩
  · simp [Value.cells] at hcs
    obtain ⟨rfl, rfl, rfl⟩ := hcs
    exact ⟨[], Sl.nil_, bulk_one _⟩
  · simp [Value.cells] at hcs
    obtain ⟨rfl, rfl, rfl⟩ := hcs
    simp only [Prod.mk.injEq] at hx
    have key : ∀ i, i < len → ∃ x : Dot, ∀ j u, (Dot.enc x)[j]? = some u → w.cell? (a.add (i * 3 + j)) = some u := fun i hil => by
      obtain ⟨u0, n0, y0, c0, t0⟩ := hi i (by omega) 0 f0 rfl
      obtain ⟨u1, n1, y1, c1, t1⟩ := hi i (by omega) 1 f1 rfl
      obtain ⟨u2, n2, y2, c2, t2⟩ := hi i (by omega) 2 f2 rfl
      obtain ⟨k0, e0, _⟩ := DataW.trod_int h0 t0
      obtain ⟨k1, e1, _⟩ := DataW.trod_int h1 t1
      obtain ⟨k2, e2, _⟩ := DataW.trod_int h2 t2
      simp only [List.cons.injEq, and_true] at e0 e1 e2
      subst e0; subst e1; subst e2
      refine ⟨⟨k0, k1, k2⟩, fun j u hj => ?_⟩
      match j, hj with
      | 0, hj => simp [Dot.enc] at hj; subst hj; exact c0
      | 1, hj => simp [Dot.enc] at hj; subst hj; exact c1
      | 2, hj => simp [Dot.enc] at hj; subst hj; exact c2
      | j + 3, hj => simp [Dot.enc] at hj
    obtain ⟨l, rfl, hl2⟩ := list_of key
    refine ⟨l, ⟨some a, cap, rfl, hl, by simpa [maxLen] using hm, fun hp => ?_⟩, ?_⟩
    · obtain ⟨b, off, spot⟩ := a
      have hc := hl2 0 l[0] (by simp [hp]) 0 (.int .i64 l[0].node) rfl
      have hspot : spot = none := by simpa [Addr.add] using World.cell?_spot hc
      subst hspot
      refine ⟨b, off, rfl, World.block_lt_of_cell? w _ hc, fun k x hx j u hu => ?_⟩
      have := hl2 k x hx j u hu
      rw [Addr.add_mid, ← Nat.add_assoc] at this
      exact this
    · rw [hx.1]
      have := bulk_slice ((List.range l.length).map D) r
      simpa using this
end
end Go.Proofs.Ytjfeeiljinbmjaa
set_option linter.unusedVariables false
set_option linter.unusedSimpArgs false
namespace Go.Fw
open Go.RowKit
def RetsO (P : Program) (f : FuncId) (args : Array Value) (w0 w : World) (R : Value → List Chunk → Prop) : Prop :=
  Calls P f args w fun e w' => ∃ v L, e = .returned v ∧ Wd w0 L w' ∧ R v L
section
variable {P : Program} {f : FuncId} {fn : Func} {c : Code} {R : Ending → World → Prop} {w0 w : World} {L : List Chunk} {v0 v1 v2 v3 v4 v5 v6 v7 v8 : Value}
theorem enterW {args : List Value} (W : Wd w0 L w) (hf : P.funcs[f]? = some fn) (hb : fn.body = some c)
    {n : Nat} (hn : fn.ntmps = n) (hsz : Nat.ble args.length n = true) (h : ∀ a, St n w0 (argsK 0 args) L a w → c.wp P (bodyPost P fn R) a w) : Calls P f args.toArray w R :=
  enterL hf hb hn hsz fun a S => h a ⟨S.kn, W⟩
theorem enterW1 (W : Wd w0 L w) (hf : P.funcs[f]? = some fn) (hb : fn.body = some c) {n : Nat} (hn : fn.ntmps = n) (hsz : Nat.ble 1 n = true)
    (h : ∀ a, St n w0 [(0, true, v0)] L a w → c.wp P (bodyPost P fn R) a w) : Calls P f #[v0] w R := enterW (args := [v0]) W hf hb hn hsz h
theorem enterW2 (W : Wd w0 L w) (hf : P.funcs[f]? = some fn) (hb : fn.body = some c) {n : Nat} (hn : fn.ntmps = n) (hsz : Nat.ble 2 n = true)
    (h : ∀ a, St n w0 [(0, true, v0), (1, true, v1)] L a w → c.wp P (bodyPost P fn R) a w) : Calls P f #[v0, v1] w R := enterW (args := [v0, v1]) W hf hb hn hsz h
theorem enterW4 (W : Wd w0 L w) (hf : P.funcs[f]? = some fn) (hb : fn.body = some c) {n : Nat} (hn : fn.ntmps = n) (hsz : Nat.ble 4 n = true)
    (h : ∀ a, St n w0 [(0, true, v0), (1, true, v1), (2, true, v2), (3, true, v3)] L a w → c.wp P (bodyPost P fn R) a w) : Calls P f #[v0, v1, v2, v3] w R := enterW (args := [v0, v1, v2, v3]) W hf hb hn hsz h
end
section
variable {P : Program} {n : Nat} {w0 : World} {K : KL} {L : List Chunk} {ty : TypeId} {pos : String} {aft : Array Edge} {gd : Option (Nat × Bool)} {a : Act} {w : World} {Z : Act → World → Prop} {Q : Exit → Act → World → Prop} {d : Nat} {c c' c'' c3 : Chunk}
theorem op_callO {f : FuncId} {xs : List Operand} {ts : Array TypeId} {vs : List Value} {R : Value → List Chunk → Prop} (S : St n w0 K L a w) (hf : ∀ args w, (callFunc f args).run P w = .ok (.enter f args) w) (hx : EvL n true K xs vs)
    (hc : RetsO P f vs.toArray w0 w R) (hd : Nat.blt d n = true) (next : ∀ v L', R v L' → ∀ a w', St n w0 ((d, true, v) :: K) L' a w' → Z a w') : Oper.wp P ⟨some d, .call ⟨.value (.func f), xs.toArray, ts⟩, ty, pos, aft, gd⟩ a w Z Q :=
  op_call S hf hx hc fun e w' ⟨v, L', he, hw, hr⟩ => ⟨v, he, next v L' hr _ _ ⟨S.kn.put hd v, hw⟩⟩
theorem St.perm (S : St n w0 K L a w) {L' : List Chunk} (h : L.Perm L') : St n w0 K L' a w := ⟨S.kn, S.wd.perm h⟩
theorem St.swap (S : St n w0 K (c :: c' :: L) a w) : St n w0 K (c' :: c :: L) a w := S.perm (.swap _ _ _)
end
end Go.Fw
set_option linter.unusedVariables false
set_option linter.unusedSimpArgs false
namespace Go.Fw
open Go.RowKit
section ops
variable {P : Program} {n : Nat} {w0 : World} {K : KL} {L : List Chunk} {b : Bool} {dst : Option Tmp} {ty : TypeId} {pos : String} {aft : Array Edge} {gd : Option (Nat × Bool)}
theorem ys_sNil {t t' e : TypeId} {x y : Operand} {A : Option Addr} {l c l' c' : Nat} (ht : P.underlying t = some (.slice e)) (hx : Ev n b K x (.slice A l c)) (hy : Ev n b K y (.slice none l' c')) : Yr P ⟨dst, .binOp .eql t x y t', ty, pos, aft, gd⟩ n K w0 L b (.bool A.isNone) := fun a w hb hkn _ => by
  have h := Lib.run_eql_slice_nil (P := P) w t e A l c l' c' ht
  simp only [execOp, hx a hb hkn, hy a hb hkn]
  simp [eqGuard, h]
end ops
section
variable {P : Program} {n : Nat} {w0 : World} {K : KL} {L : List Chunk} {ty : TypeId} {pos : String} {aft : Array Edge} {gd : Option (Nat × Bool)} {a : Act} {w : World} {Z : Act → World → Prop} {Q : Exit → Act → World → Prop} {d : Nat}
theorem op_bslice0 {t e sz : Nat} (S : St n w0 K L a w) (ht : P.underlying t = some (.slice e)) (hsz : ∀ w, (sizeOf e).run P w = .ok sz w) (hd : Nat.blt d n = true)
    (next : ∀ g a w, St n w0 ((d, true, .slice (some ⟨g, 0, none⟩) 0 0) :: K) L a w → Z a w) : Oper.wp P ⟨some d, .buildSlice t 0 #[], ty, pos, aft, gd⟩ a w Z Q := by
  refine run_wp (v := .slice (some ⟨w.heap.size, 0, none⟩) 0 0) (w' := w.alloc (.cells #[] e)) ?_ (next _ _ _ ⟨S.kn.put hd _, (S.wd.alloc _).sub (List.sublist_cons_self _ _)⟩)
  have hf := fill_of (places := fun i => some (i * sz, sz)) (parts := []) (zs := []) (us := []) rfl
  simp [execOp, Instr.buildSlice, run_underlying ht, hsz, newRow, Array.range_zero']
  try simp [hf]
end
end Go.Fw
set_option linter.unusedVariables false
set_option linter.unusedSimpArgs false
namespace Go.Fw
open Go.RowKit
abbrev bs (l : List UInt8) : ByteArray := ⟨l.toArray⟩
section ops
variable {P : Program} {n : Nat} {w0 : World} {K : KL} {L : List Chunk} {b : Bool} {dst : Option Tmp} {ty : TypeId} {pos : String} {aft : Array Edge} {gd : Option (Nat × Bool)}
end ops
section
variable {P : Program} {n : Nat} {w0 : World} {K : KL} {L : List Chunk} {ty : TypeId} {pos : String} {aft : Array Edge} {gd : Option (Nat × Bool)} {a : Act} {w : World} {Z : Act → World → Prop} {Q : Exit → Act → World → Prop} {d : Nat}
end
theorem Sl.first {P : Program} {w : World} {α : Type} {enc : α → List Value} {size B : Nat} {A : Option Addr} {l : List α} {cap : Nat} (h : Sl enc size w B (.slice A l.length cap) l) (m : Nat) (hm : m ≤ l.length) (hsz : 0 < size) (he : ∀ x, (enc x).length = size) :
    (Builtin.firstCells size m (.slice A l.length cap)).run P w = .ok ((l.take m).flatMap enc).toArray w := by
  have hflen : ∀ l : List α, (l.flatMap enc).length = l.length * size := by
    intro l
    induction l with
    | nil => simp
    | cons x r ih => simp [he, ih, Nat.add_mul, Nat.add_comm]
  obtain ⟨A', cap', hv, h2, h3, h4⟩ := h
  simp only [Value.slice.injEq, true_and] at hv
  obtain ⟨rfl, rfl⟩ := hv
  rcases Nat.eq_zero_or_pos l.length with h0 | hp
  · have : l = [] := List.eq_nil_of_length_eq_zero h0
    subst this
    have : m = 0 := by simpa using hm
    subst this
    cases A <;> simp [Builtin.firstCells, loadCells, loadCellsFrom]
  · obtain ⟨g, o, rfl, hg, hc⟩ := h4 hp
    have hs := Src.sl (P := P) (w := w) (enc := enc) (size := size) (B := B) (c := cap) (l := l.take m) (A := some ⟨g, o, none⟩) (cap := cap) ⟨_, _, rfl, by simp; omega, h3, fun _ => ⟨g, o, rfl, hg, fun k x hx => hc k x (by
      rw [List.getElem?_take] at hx
      split at hx
      · exact hx
      · cases hx)⟩⟩ hsz he
    have hlen : (l.take m).length = m := by simp; omega
    have e2 : (some (⟨g, o, none⟩ : Addr)) = some ⟨g, o, none⟩ := rfl
    refine run_firstCells_some (P := P) w size m ⟨g, o, none⟩ l.length cap _ (by rw [hflen, hlen]) (fun j u hj => ?_)
    rw [Addr.add_mid]
    have hget : ∀ (l : List α) (j : Nat) (u : Value), (l.flatMap enc)[j]? = some u → ∃ x, l[j / size]? = some x ∧ (enc x)[j % size]? = some u := by
      intro l
      induction l with
      | nil => intro j u hj; simp at hj
      | cons x r ih =>
        intro j u hj
        rw [List.flatMap_cons, List.getElem?_append] at hj
        split at hj
        · rename_i hlt
          rw [he] at hlt
          exact ⟨x, by simp [Nat.div_eq_of_lt hlt], by rw [Nat.mod_eq_of_lt hlt]; exact hj⟩
        · rename_i hge
          rw [he] at hge hj
          obtain ⟨y, h2, h3⟩ := ih _ _ hj
          have hge' : size ≤ j := by omega
          refine ⟨y, ?_, ?_⟩
          · rw [show j / size = (j - size) / size + 1 from Nat.div_eq_sub_div hsz hge']
            simpa using h2
          · rw [Nat.mod_eq_sub_mod hge']; exact h3
    obtain ⟨x, h5, h6⟩ := hget _ j u hj
    rw [List.getElem?_take] at h5
    split at h5
    · have := hc _ x h5 _ u h6
      rw [show o + j = o + j / size * size + j % size by rw [Nat.add_assoc, Nat.mul_comm, Nat.div_add_mod]]
      exact this
    · cases h5
section
variable {P : Program} {n : Nat} {w0 : World} {K : KL} {L : List Chunk} {ty : TypeId} {pos : String} {aft : Array Edge} {gd : Option (Nat × Bool)} {a : Act} {w : World} {Z : Act → World → Prop} {Q : Exit → Act → World → Prop} {d : Nat}
end
section
variable {P : Program} {n : Nat} {w0 : World} {K : KL} {L : List Chunk} {ty : TypeId} {pos : String} {aft : Array Edge} {gd : Option (Nat × Bool)} {a : Act} {w : World} {Z : Act → World → Prop} {Q : Exit → Act → World → Prop} {d : Nat}
theorem op_extend {α : Type} {enc : α → List Value} {l : List α} (ys : List α) {t t2 e bytes size cap k : Nat} {d2 : TypeDesc} {z : Value} {A : Option Addr} {s x : Operand} {xv : Value} (S : St n w0 K L a w) (ht : P.underlying t = some (.slice e)) (ht2 : P.underlying t2 = some d2) (hd2 : d2 = .string ∨ ∃ e2, d2 = .slice e2)
    (hi : InfoT P e z size bytes) (hzs : z.cells.size = size) (hk : L[k]? = some (rowOf e size enc A cap l)) (hs : Ev n true K s (.slice A l.length cap)) (hx : Ev n true K x xv) (hsrc : Src P w size xv ys.length (ys.flatMap enc)) (hb : (l.length + ys.length) * bytes ≤ 200000000000000) (hb1 : Nat.blt 0 bytes = true) (hb2 : Nat.ble bytes 65536 = true) (hd : Nat.blt d n = true)
    (next : ∀ A' cap' a w, St n w0 ((d, true, .slice A' (l ++ ys).length cap') :: K) (L.set k (rowOf e size enc A' cap' (l ++ ys))) a w → Z a w) :
    Oper.wp P ⟨some d, .call ⟨.builtin .append, #[s, x], #[t, t2]⟩, ty, pos, aft, gd⟩ a w Z Q := by
  refine op_append S ht ht2 hd2 hi hzs hs hx hk hsrc hb hb1 hb2 hd (fun A' cap' a w _ S' => next A' cap' a w ?_)
  unfold rowOf
  rw [List.length_append, List.flatMap_append]; exact S'
end
section
variable {P : Program} {Q : Exit → Act → World → Prop} {J : Act → World → Prop} {l i : Nat} {a : Act} {w : World}
theorem st_rounds {c : Code} (n : Nat) (h : Code.rounds P c Q n a w) : (Code.loop c).wp P Q a w := wp_loop_rounds n h
theorem st_round {c : Code} {n : Nat} (h : c.wp P (Exit.then (fun a w => Code.rounds P c Q n a w) Q) a w) : Code.rounds P c Q (n + 1) a w := h
end
section ops
variable {P : Program} {n : Nat} {w0 : World} {K : KL} {L : List Chunk} {b : Bool} {dst : Option Tmp} {ty : TypeId} {pos : String} {aft : Array Edge} {gd : Option (Nat × Bool)}
end ops
end Go.Fw
set_option linter.unusedVariables false
set_option linter.unusedSimpArgs false
namespace Go.Proofs.Ytjfeeiljinbmjaa
open Go.Fw Go.Proofs Go.RowKit Go.ChangeShapes Go.WideShapes Go.ChangeAt Go.Deep Go.Joins
section
variable {H : Type} {enc : TypeId × Value → H} {P : Program} {w : World}
theorem read_int {t : TypeId} {k : IntKind} {v : Value} {n : Nat} {x : DataW H × List MemPlace} (ht : P.underlying t = some (.int k)) (h : DataW.trod enc P w 0 (fun _ => true) true n t [v] = some x) : ∃ n, v = .int k n ∧ (Lit.int k n).wf = true := by
  obtain ⟨n, e, _, hw⟩ := DataW.trod_int ht h
  simp only [List.cons.injEq, and_true] at e
  exact ⟨n, e, hw⟩
theorem top_cell {t : TypeId} {v : Value} {d : DataW H} {p : List MemPlace} (hv : v.cells.toList = [v]) (h : DataW.Trod enc P w 0 (fun _ => true) true t v d p) : ∃ n, DataW.trod enc P w 0 (fun _ => true) true n t [v] = some (d, p) := by
  obtain ⟨m, hm⟩ := h
  rw [hv] at hm
  exact ⟨m, hm⟩
theorem top_int {t : TypeId} {k : IntKind} {v : Value} {base : Nat} {d : DataW H} {p : List MemPlace} (ht : P.underlying t = some (.int k)) (hv : Value.okWide P w .any base t v) (h : DataW.Trod enc P w 0 (fun _ => true) true t v d p) : ∃ n, v = .int k n ∧ (Lit.int k n).wf = true := by
  obtain ⟨n, rfl⟩ := okWide_int ht hv
  obtain ⟨m, hm⟩ := top_cell rfl h
  exact read_int ht hm
end
end Go.Proofs.Ytjfeeiljinbmjaa
set_option linter.unusedVariables false
set_option linter.unusedSimpArgs false
namespace Go.Fw
open Go.RowKit
def ltM (a b : Dot) : Prop := a.node < b.node ∨ (a.node = b.node ∧ a.life < b.life)
def ltC (a b : Dot) : Prop := a.node < b.node ∨ (a.node = b.node ∧ (a.life < b.life ∨ (a.life = b.life ∧ a.count < b.count)))
structure Nf (C : Ctx) : Prop where
  marks : C.marks.Pairwise ltM
  cloud : C.cloud.Pairwise ltC
  mayM : ∀ x ∈ C.marks, mayD x = true
  mayC : ∀ x ∈ C.cloud, mayD x = true
  gap : ∀ x ∈ C.cloud, markOf C.marks x.node x.life + 1 < x.count
end Go.Fw
set_option linter.unusedVariables false
set_option linter.unusedSimpArgs false
namespace Go.Fw
open Go.RowKit
theorem flat_len {α : Type} {enc : α → List Value} {size : Nat} (he : ∀ x, (enc x).length = size) (l : List α) : (l.flatMap enc).length = l.length * size := by
  induction l with
  | nil => simp
  | cons x r ih => simp [he, ih, Nat.add_mul, Nat.add_comm]
theorem flat_get {α : Type} {enc : α → List Value} {size : Nat} (he : ∀ x, (enc x).length = size) (hs : 0 < size) : ∀ (l : List α) (j : Nat) (x : α), l[j / size]? = some x → (l.flatMap enc)[j]? = (enc x)[j % size]?
  | [], j, x, h => by simp at h
  | y :: r, j, x, h => by
    rw [List.flatMap_cons, List.getElem?_append, he]
    split
    · rename_i hlt
      rw [Nat.div_eq_of_lt hlt] at h
      simp at h
      subst h
      rw [Nat.mod_eq_of_lt hlt]
    · rename_i hge
      have hge' : size ≤ j := by omega
      rw [show j / size = (j - size) / size + 1 from Nat.div_eq_sub_div hs hge'] at h
      rw [Nat.mod_eq_sub_mod hge']
      exact flat_get he hs r (j - size) x (by simpa using h)
section
variable {w0 w w' : World} {L : List Chunk}
end
end Go.Fw
set_option linter.unusedVariables false
set_option linter.unusedSimpArgs false
namespace Go.Fw
open Go.RowKit
section ops
variable {P : Program} {n : Nat} {w0 : World} {K : KL} {L : List Chunk} {b : Bool} {dst : Option Tmp} {ty : TypeId} {pos : String} {aft : Array Edge} {gd : Option (Nat × Bool)}
end ops
section
variable {n : Nat} {w0 : World} {K : KL} {L : List Chunk} {a : Act} {w : World} {c : Chunk}
theorem perm_pull {α : Type} : ∀ {L : List α} {k : Nat} {c : α}, L[k]? = some c → L.Perm (c :: L.eraseIdx k)
  | [], k, c, h => by simp at h
  | x :: r, 0, c, h => by simp at h; subst h; exact List.Perm.refl _
  | x :: r, k + 1, c, h => by
    have := perm_pull (L := r) (k := k) (by simpa using h)
    exact (this.cons x).trans (List.Perm.swap _ _ _)
theorem Wd.pull (W : Wd w0 L w) (k : Nat) (hk : L[k]? = some c) : Wd w0 (c :: L.eraseIdx k) w := W.perm (perm_pull hk)
theorem St.pull (S : St n w0 K L a w) (k : Nat) (hk : L[k]? = some c) : St n w0 K (c :: L.eraseIdx k) a w := ⟨S.kn, S.wd.pull k hk⟩
end
theorem Wd.cell {w0 w : World} {L : List Chunk} (W : Wd w0 L w) {k g i : Nat} {cs : List Value} {e : TypeId} {fr : Nat × Nat} {v : Value} (hk : L[k]? = some (.blk g (.cells cs.toArray e fr))) (hc : nth cs i = some v) : w.cell? ⟨g, i, none⟩ = some v := by
  rw [cell_of_row w g i _ e fr (W.get hk).2]
  rw [nth_eq] at hc
  simpa using hc
section split
variable {P : Program} {Q : Exit → Act → World → Prop} {n : Nat} {w0 : World} {K : KL} {L Lr : List Chunk} {a : Act} {w : World} {ops : Array Oper} {fuel : Nat} {listed : Array Bool} {md : Region.Mode}
end split
def zrep (len : Nat) (z : Value) : List Value := (List.replicate len ()).flatMap fun _ => z.cells.toList
theorem zrep_eq {z : Value} {sz : Nat} (len : Nat) (hz : z.cells.size = sz) : (Array.range (len * sz)).map (fun i => (if len * sz = 0 then #[] else z.cells)[i % (if len * sz = 0 then (#[] : Array Value) else z.cells).size]!) = (zrep len z).toArray := by
  have hl : (zrep len z).length = len * sz := by
    unfold zrep
    rw [flat_len (size := sz) (fun _ => by simpa using hz)]; simp
  apply Array.ext
  · simp [hl]
  · intro i h1 h2
    have hi : i < len * sz := by simpa using h1
    have hs : 0 < sz := by rcases Nat.eq_zero_or_pos sz with h | h; rw [h] at hi; simp at hi; exact h
    have hx : (List.replicate len ())[i / sz]? = some () := by
      rw [List.getElem?_replicate, if_pos ((Nat.div_lt_iff_lt_mul hs).2 hi)]
    have h3 := flat_get (enc := fun (_ : Unit) => z.cells.toList) (size := sz) (fun _ => by simpa using hz) hs (List.replicate len ()) i () hx
    have h4 : i % sz < z.cells.size := by rw [hz]; exact Nat.mod_lt _ hs
    rw [Array.getElem_map, Array.getElem_range, if_neg (by omega), hz, getElem!_pos z.cells _ h4]
    have h5 : (zrep len z)[i]? = some z.cells[i % sz] := by
      unfold zrep
      rw [h3, Array.getElem?_toList, Array.getElem?_eq_getElem h4]
    rw [List.getElem_toArray]
    exact (Option.some.inj ((List.getElem?_eq_getElem (by rw [hl]; exact hi)).symm.trans h5)).symm
section
variable {P : Program} {n : Nat} {w0 : World} {K : KL} {L : List Chunk} {ty : TypeId} {pos : String} {aft : Array Edge} {gd : Option (Nat × Bool)} {a : Act} {w : World} {Z : Act → World → Prop} {Q : Exit → Act → World → Prop} {d : Nat}
theorem op_bsliceZ {t e sz len : Nat} {z : Value} {ps : List (Nat × Operand)} {vs us : List Value} (S : St n w0 K L a w) (ht : P.underlying t = some (.slice e)) (hsz : ∀ w, (sizeOf e).run P w = .ok sz w) (hz : ∀ w, (zeroValue e).run P w = .ok z w)
    (hzc : z.cells.size = sz) (hmax : Nat.ble (len * sz) 16777216 = true) (hx : EvL n true K (ps.map (·.2)) vs) (hr : fillL (fun i => some (i * sz, sz)) (zrep len z) ((ps.map (·.1)).zip vs) = some us) (hd : Nat.blt d n = true)
    (next : ∀ g a w, St n w0 ((d, true, .slice (some ⟨g, 0, none⟩) len len) :: K) (.blk g (.cells us.toArray e) :: L) a w → Z a w) :
    Oper.wp P ⟨some d, .buildSlice t len ps.toArray, ty, pos, aft, gd⟩ a w Z Q := op_bslice (zrep len z) S ht hsz hz (zrep_eq len hzc) hmax hx hr hd next
end
end Go.Fw
set_option linter.unusedVariables false
set_option linter.unusedSimpArgs false
namespace Go.Fw
open Go.Proofs Go.RowKit
section
variable {P : Program} {n : Nat} {w0 : World} {K : KL} {L : List Chunk} {ty : TypeId} {pos : String} {aft : Array Edge} {gd : Option (Nat × Bool)} {dst : Option Tmp} {b : Bool}
theorem ys_mkFunc {f : Fn} {cs : List Operand} {vs : List Value} (hx : EvL n b K cs vs) : Yr P ⟨dst, .makeFunc f #[] cs.toArray, ty, pos, aft, gd⟩ n K w0 L b (.func f #[] vs.toArray) := fun a w hb hk _ => by
  have e : (cs.toArray.map a.eval) = vs.toArray := by rw [List.map_toArray, hx a hb hk]
  simp only [execOp, e]
  simp [Instr.makeFunc]
end
section
variable {P : Program} {n : Nat} {w0 : World} {K : KL} {L : List Chunk} {ty : TypeId} {pos : String} {aft : Array Edge} {gd : Option (Nat × Bool)} {a : Act} {w : World} {Z : Act → World → Prop} {Q : Exit → Act → World → Prop} {d : Nat}
end
end Go.Fw
set_option linter.unusedVariables false
set_option linter.unusedSimpArgs false
namespace Go.Fw
open Go.Proofs Go.RowKit
section
variable {P : Program} {n : Nat} {w0 : World} {K : KL} {L : List Chunk} {ty : TypeId} {pos : String} {aft : Array Edge} {gd : Option (Nat × Bool)} {a : Act} {w : World} {Z : Act → World → Prop} {Q : Exit → Act → World → Prop} {d : Nat} {dst : Option Tmp} {b : Bool}
theorem ys_nilc {x : Operand} {A : Addr} (hx : Ev n b K x (.pointer (some A))) : Yr P ⟨dst, .nilCheck x, ty, pos, aft, gd⟩ n K w0 L b (.pointer (some A)) := fun a w hb hk _ => by
  simp [execOp, hx a hb hk]
theorem ys_pNil {t t' e : TypeId} {x y : Operand} {A : Option Addr} (ht : P.underlying t = some (.pointer e)) (hx : Ev n b K x (.pointer A)) (hy : Ev n b K y (.pointer none)) : Yr P ⟨dst, .binOp .eql t x y t', ty, pos, aft, gd⟩ n K w0 L b (.bool A.isNone) := fun a w hb hkn _ => by
  have h := run_eql_pointer_nil (P := P) w t A (by unfold Program.pointee; rw [ht])
  simp only [execOp, hx a hb hkn, hy a hb hkn]
  simp [eqGuard, h]
end
end Go.Fw
set_option linter.unusedVariables false
set_option linter.unusedSimpArgs false
set_option maxRecDepth 100000
namespace Go.Fw
open Go.Proofs Go.RowKit
inductive Picks : List Chunk → List Chunk → Prop
  | nil {L : List Chunk} : Picks L []
  | rest {L L' : List Chunk} : L'.Sublist L → Picks L L'
  | take {L L' : List Chunk} {c : Chunk} (k : Nat) : L[k]? = some c → Picks (L.eraseIdx k) L' → Picks L (c :: L')
theorem Picks.perm {L L' : List Chunk} (h : Picks L L') : ∃ R, L.Perm (L' ++ R) := by
  induction h with
  | @nil L => exact ⟨L, List.Perm.refl _⟩
  | @rest L L' h => exact h.exists_perm_append
  | @take L L' c k hk _ ih =>
    obtain ⟨R, hR⟩ := ih
    exact ⟨R, (perm_pull hk).trans (hR.cons c)⟩
theorem Wd.picks {w0 w : World} {L L' : List Chunk} (W : Wd w0 L w) (h : Picks L L') : Wd w0 L' w := by
  obtain ⟨R, hR⟩ := h.perm
  exact (W.perm hR).sub (List.sublist_append_left _ _)
theorem St.picks {n : Nat} {w0 : World} {K K' : KL} {L L' : List Chunk} {a : Act} {w : World} (S : St n w0 K L a w) (hK : Fits [] K K') (h : Picks L L') : St n w0 K' L' a w := ⟨S.kn.fits hK, S.wd.picks h⟩
section split
variable {P : Program} {Q : Exit → Act → World → Prop} {n : Nat} {w0 : World} {K : KL} {L Lr : List Chunk} {a : Act} {w : World} {ops : Array Oper} {fuel : Nat} {listed : Array Bool} {md : Region.Mode}
end split
end Go.Fw
set_option linter.unusedVariables false
set_option linter.unusedSimpArgs false
namespace Go.Fw
open Go.Proofs Go.RowKit
section
variable {P : Program} {n : Nat} {w0 : World} {K : KL} {L : List Chunk} {ty : TypeId} {pos : String} {aft : Array Edge} {gd : Option (Nat × Bool)} {a : Act} {w : World} {Z : Act → World → Prop} {Q : Exit → Act → World → Prop} {d : Nat} {dst : Option Tmp} {b : Bool}
theorem ys_pNilS {t t' e : TypeId} {x y : Operand} {A : Addr} (ht : P.underlying t = some (.pointer e)) (hx : Ev n b K x (.pointer (some A))) (hy : Ev n b K y (.pointer none)) : Yr P ⟨dst, .binOp .eql t x y t', ty, pos, aft, gd⟩ n K w0 L b (.bool false) := ys_pNil ht hx hy
theorem ys_pNilN {t t' e : TypeId} {x y : Operand} (ht : P.underlying t = some (.pointer e)) (hx : Ev n b K x (.pointer none)) (hy : Ev n b K y (.pointer none)) : Yr P ⟨dst, .binOp .eql t x y t', ty, pos, aft, gd⟩ n K w0 L b (.bool true) := ys_pNil ht hx hy
variable {K' : Act → World → Prop} {i : Nat} {ps : List PanicEntry}
end
section
variable {P : Program} {f : FuncId} {fn : Func} {c : Code} {R : Ending → World → Prop} {w0 w : World} {L : List Chunk} {v0 v1 v2 v3 v4 v5 v6 v7 v8 : Value}
end
theorem Sl.sub {w : World} {α : Type} {enc : α → List Value} {size B : Nat} {A : Option Addr} {l : List α} {cap : Nat} (h : Sl enc size w B (.slice A l.length cap) l) (lo hi : Nat) (hlo : lo ≤ hi) (hhi : hi ≤ l.length) :
    Sl enc size w B (.slice (if cap = lo then A else A.map (·.add (lo * size))) (hi - lo) (cap - lo)) ((l.drop lo).take (hi - lo)) := by
  obtain ⟨A', cap', hv, h2, h3, h4⟩ := h
  simp only [Value.slice.injEq, true_and] at hv
  obtain ⟨rfl, rfl⟩ := hv
  have hl : ((l.drop lo).take (hi - lo)).length = hi - lo := by simp; omega
  refine ⟨if cap = lo then A else A.map (·.add (lo * size)), cap - lo, by rw [hl], by rw [hl]; omega, by omega, fun hp => ?_⟩
  rw [hl] at hp
  obtain ⟨g, o, rfl, hg, hc⟩ := h4 (by omega)
  rw [if_neg (by omega)]
  refine ⟨g, o + lo * size, by simp [Addr.add_mid], hg, fun k x hx j u hu => ?_⟩
  rw [List.getElem?_take] at hx
  split at hx
  · rw [List.getElem?_drop] at hx
    have := hc _ x hx j u hu
    rw [Nat.add_mul] at this
    rw [show o + lo * size + k * size + j = o + (lo * size + k * size) + j by omega]
    exact this
  · cases hx
theorem Src.subS {P : Program} {w : World} {α : Type} {enc : α → List Value} {size B : Nat} {A : Option Addr} {l : List α} {cap lo hi c : Nat} (h : Sl enc size w B (.slice A l.length cap) l) (hsz : 0 < size) (he : ∀ x, (enc x).length = size) (h1 : ∀ x, ∀ u ∈ enc x, u.oneCell' = true) (hlo : lo ≤ hi) (hhi : hi ≤ l.length) :
    Src P w size (.slice (if cap = lo then A else A.map (·.add (lo * size))) (hi - lo) c) ((l.drop lo).take (hi - lo)).length (((l.drop lo).take (hi - lo)).flatMap enc) := by
  have hl : ((l.drop lo).take (hi - lo)).length = hi - lo := by simp; omega
  have h' : Sl enc size w B (.slice (if cap = lo then A else A.map (·.add (lo * size))) ((l.drop lo).take (hi - lo)).length (cap - lo)) ((l.drop lo).take (hi - lo)) := by rw [hl]; exact h.sub lo hi hlo hhi
  have := Src.sl (P := P) (c := c) h' hsz he h1
  rw [hl] at this
  rw [hl]
  exact this
theorem Src.sub {P : Program} {α : Type} {enc : α → List Value} {size e cap k lo hi c : Nat} {w w0 : World} {L : List Chunk} {A : Option Addr} {l : List α} (W : Wd w0 L w) (hk : L[k]? = some (rowOf e size enc A cap l)) (hsz : 0 < size) (he : ∀ x, (enc x).length = size) (h1 : ∀ x, ∀ u ∈ enc x, u.oneCell' = true) (hlo : lo ≤ hi) (hhi : hi ≤ l.length) :
    Src P w size (.slice (if cap = lo then A else A.map (·.add (lo * size))) (hi - lo) c) ((l.drop lo).take (hi - lo)).length (((l.drop lo).take (hi - lo)).flatMap enc) :=
  Src.subS (Sl.of_own W hk he) hsz he h1 hlo hhi
end Go.Fw
set_option linter.unusedVariables false
set_option linter.unusedSimpArgs false
namespace Go.Fw
open Go.RowKit
structure Rum where
  p : Dot
  sent : Int
deriving DecidableEq
abbrev Rum.enc (r : Rum) : List Value := [.int .i64 r.p.node, .int .i64 r.p.life, .int .i64 r.p.count, .int .i64 r.sent]
theorem Rum.enc_len (r : Rum) : (Rum.enc r).length = 4 := rfl
theorem Rum.enc_one (r : Rum) : ∀ u ∈ Rum.enc r, u.oneCell' = true := fun u hu => by simp [Rum.enc] at hu; rcases hu with rfl | rfl | rfl | rfl <;> rfl
instance : Inhabited Rum := ⟨⟨⟨0, 0, 0⟩, 0⟩⟩
end Go.Fw
namespace Go.Proofs.Ytjfeeiljinbmjaa
open Go.Fw Go.Proofs Go.RowKit
set_option linter.unusedVariables false
set_option linter.unusedSimpArgs false
set_option maxRecDepth 100000
theorem bld56 : BuildT Try.prog 56 [Value.int .i64 0, Value.int .i64 0, Value.int .i64 0, Value.slice none 0 0] [(0, 1), (1, 1), (2, 1), (3, 1)] := ⟨⟨_, Try.zeroValue56, rfl⟩, _, Try.underlying56, fun w => by simp [Try.sizeOf3, Try.sizeOf54]⟩
theorem inf93 : InfoT Try.prog 93 (.agg #[Value.int .i64 0, Value.int .i64 0, Value.int .i64 0]) 3 24 := by unfold InfoT; kernel_rfl
theorem bld101 : BuildT Try.prog 101 [Value.int .i64 0, Value.slice none 0 0, Value.bool false, Value.int .i64 0, Value.int .i64 0, Value.bool false, Value.nilFunc] [(0, 1), (1, 1), (2, 1), (3, 1), (4, 1), (5, 1), (6, 1)] := ⟨⟨_, Try.zeroValue101, rfl⟩, _, Try.underlying101, fun w => by simp [Try.sizeOf3, Try.sizeOf4, Try.sizeOf98, Try.sizeOf99]⟩
end Go.Proofs.Ytjfeeiljinbmjaa
set_option linter.unusedVariables false
set_option linter.unusedSimpArgs false
set_option maxRecDepth 100000
namespace Go.Proofs.Ytjfeeiljinbmjaa
open Go.Fw Go.Proofs Go.RowKit
instance (a b : Dot) : Decidable (ltM a b) := inferInstanceAs (Decidable (_ ∨ _))
end Go.Proofs.Ytjfeeiljinbmjaa
set_option linter.unusedVariables false
set_option linter.unusedSimpArgs false
set_option maxRecDepth 100000
namespace Go.Proofs.Ytjfeeiljinbmjaa
open Go.Fw Go.Proofs Go.RowKit Go.Sort
abbrev MDot := {d : Dot // mayD d = true}
instance : Inhabited MDot := ⟨⟨⟨0, 1, 1⟩, rfl⟩⟩
abbrev MDot.enc (d : MDot) : List Value := Dot.enc d.1
end Go.Proofs.Ytjfeeiljinbmjaa
set_option linter.unusedVariables false
set_option linter.unusedSimpArgs false
set_option maxRecDepth 100000
namespace Go.Fw
theorem Dot.enc_len (x : Dot) : (Dot.enc x).length = 3 := rfl
theorem Dot.enc_one (x : Dot) : ∀ u ∈ Dot.enc x, u.oneCell' = true := fun u hu => by simp [Dot.enc] at hu; rcases hu with rfl | rfl | rfl <;> rfl
end Go.Fw
namespace Go.Proofs.Ytjfeeiljinbmjaa
open Go.Fw Go.Proofs Go.RowKit
end Go.Proofs.Ytjfeeiljinbmjaa
set_option linter.unusedVariables false
set_option linter.unusedSimpArgs false
set_option maxRecDepth 100000
set_option maxHeartbeats 4000000
namespace Go.Proofs.Ytjfeeiljinbmjaa
open Go.Fw Go.Proofs Go.RowKit
theorem c67 (w0 : World) (n : Int) : Calls Try.prog 67 #[.int .i64 n] w0 fun e w' => e = .returned (.bool (decide (0 ≤ n) && decide (n < 8))) ∧ Bel w0.heap.size w0 w' := by
  refine enter1 Try.func67 rfl Try.ntmps67 rfl fun a S => ?_
  refine wp_seq_k fun _ hK1 => ?_
  refine wp_region_lit ?_
  (refine st_y S (Yr.ys (ys_assign Ev.c)) rfl ?_; clear S a; intro a w S)
  refine st_nil ?_
  (refine (then_normal (hK1 _ _ ?_)); clear hK1)
  refine wp_seq_k fun _ hK1 => ?_
  refine wp_region_lit ?_
  (refine st_y S (Yr.ys (ys_move (Ev.t rfl))) rfl ?_; clear S a w; intro a w S)
  (refine st_y S (Yr.ys (ys_geq (Ev.t rfl) Ev.c)) rfl ?_; clear S a w; intro a w S)
  (refine st_y S (Yr.ys (ys_move (Ev.t rfl))) rfl ?_; clear S a w; intro a w S)
  (refine st_yg S rfl rfl (Yr.ys (ys_move (Ev.t rfl))) rfl ?_; clear S a w; intro a w S)
  (refine st_yg S rfl rfl (Yr.ys (ys_lss (Ev.g rfl) Ev.c)) rfl ?_; clear S a w; intro a w S)
  (refine st_y S (Yr.ys (ys_and (Ev.t rfl) (Ev.g rfl) Ev.c)) rfl ?_; clear S a w; intro a w S)
  (refine st_y S (Yr.ys (ys_assign (Ev.t rfl))) rfl ?_; clear S a w; intro a w S)
  refine st_nil ?_
  (refine (then_normal (hK1 _ _ ?_)); clear hK1)
  refine wp_ret ?_
  refine st_ret S (results1 S Try.results67 (Rv.tmp rfl)) ?_
  exact ⟨rfl, S.wd.below⟩
abbrev boxK (g gf : Nat) (s : Int) (A : Option Addr) (cap : Nat) (rl : List Rum) (told : Bool) (last to : Int) (L : List Chunk) : List Chunk :=
  .blk g (.cells #[.int .i64 s, .slice A rl.length cap, .bool told, .int .i64 last, .int .i64 to, .bool true, .func (.func 68) #[] #[.pointer (some ⟨gf, 0, none⟩)]] 101) ::
  .blk gf (.cells #[.pointer (some ⟨g, 0, none⟩)] 47) :: rowOf 125 4 Rum.enc A cap rl :: L
theorem c29 (w0 : World) (n : Int) (h : 0 ≤ n ∧ n < 8) : Rets Try.prog 29 #[.int .i64 n] w0 fun v L => ∃ g gf, v = .tuple #[.pointer (some ⟨g, 0, none⟩), .int .i64 0] ∧ L = boxK g gf n none 0 [] false 0 0 [] := by
  have rw_n : (decide (0 ≤ n) && decide (n < 8)) = true := by simp; omega
  unfold Go.Fw.Rets
  refine enter1 Try.func29 rfl Try.ntmps29 rfl fun a S => ?_
  refine wp_seq_k fun _ hK1 => ?_
  refine wp_region_lit ?_
  (refine st_y S (Yr.ys (ys_assign Ev.c)) rfl ?_; clear S a; intro a w S)
  (refine st_y S (Yr.ys (ys_assign Ev.c)) rfl ?_; clear S a w; intro a w S)
  refine st_nil ?_
  (refine (then_normal (hK1 _ _ ?_)); clear hK1)
  refine wp_seq_k fun _ hK1 => ?_
  refine wp_seq_k fun _ hK2 => ?_
  refine wp_region_lit ?_
  (refine st_y S (Yr.ys (ys_move (Ev.t rfl))) rfl ?_; clear S a w; intro a w S)
  (refine st_y S (ys_call Try.call67 (EvL.cons (Ev.t rfl) EvL.nil) (fun hp w W => c67 _ _)) rfl ?_; clear S a w; intro a w S)
  rw [rw_n] at S
  (refine st_y S (Yr.ys (ys_not (Ev.t rfl))) rfl ?_; clear S a w; intro a w S)
  refine st_nil ?_
  (refine (then_normal (hK2 _ _ ?_)); clear hK2)
  refine st_else S (Ev.t rfl) ?_
  refine wp_skip ?_
  (refine (then_normal (hK1 _ _ ?_)); clear hK1)
  refine wp_seq_k fun _ hK1 => ?_
  refine wp_region_lit ?_
  (refine st_y S (Yr.ys (ys_move (Ev.t rfl))) rfl ?_; clear S a w; intro a w S)
  (refine st_y S (Yr.ys (ys_bld (ps := [(0, Go.Operand.tmp 8), (5, _)]) (us := [_, _, _, _, _, _, _]) bld101 (EvL.cons (Ev.t rfl) (EvL.cons Ev.c EvL.nil)) rfl)) rfl ?_; clear S a w; intro a w S)
  (refine st_m (op_box S (Ev.t rfl) rfl ?_); clear S a w; intro g1 a w S)
  (refine st_m (op_alloc S Try.zeroValue47 (cs := _) rfl rfl ?_); clear S a w; intro g2 a w S)
  (refine st_m (op_st S Try.sizeOf47 (Ev.t rfl) (Ev.t rfl) (k := 0) rfl rfl (by simp) ?_); clear S a w; intro a w S)
  refine st_nil ?_
  (refine (then_normal (hK1 _ _ ?_)); clear hK1)
  refine wp_seq_k fun _ hK1 => ?_
  refine wp_region_lit ?_
  (refine st_y S (Yr.ys (ys_ld ⟨Try.isAgg47, Try.sizeOf47⟩ (Ev.t rfl) (k := 0) rfl rfl)) rfl ?_; clear S a w; intro a w S)
  (refine st_y S (Yr.ys (ys_mkFunc (EvL.cons (Ev.t rfl) EvL.nil))) rfl ?_; clear S a w; intro a w S)
  (refine st_y S (Yr.ys (ys_nilc (Ev.t rfl))) rfl ?_; clear S a w; intro a w S)
  (refine st_y S (Yr.ys (ys_fieldN (FieldT.mk Try.underlying101 rfl Try.sizeOf99 rfl) (Ev.t rfl) (i' := 6) rfl)) rfl ?_; clear S a w; intro a w S)
  (refine st_m (op_st S Try.sizeOf99 (Ev.t rfl) (Ev.t rfl) (k := 1) rfl rfl (by simp) ?_); clear S a w; intro a w S)
  refine st_nil ?_
  (refine (then_normal (hK1 _ _ ?_)); clear hK1)
  refine wp_seq_k fun _ hK1 => ?_
  refine wp_region_lit ?_
  (refine st_y S (Yr.ys (ys_ld ⟨Try.isAgg47, Try.sizeOf47⟩ (Ev.t rfl) (k := 0) rfl rfl)) rfl ?_; clear S a w; intro a w S)
  (refine st_y S (Yr.ys (ys_assign (Ev.t rfl))) rfl ?_; clear S a w; intro a w S)
  (refine st_y S (Yr.ys (ys_assign Ev.c)) rfl ?_; clear S a w; intro a w S)
  refine st_nil ?_
  (refine (then_normal (hK1 _ _ ?_)); clear hK1)
  refine wp_ret ?_
  refine st_ret S (results2 S Try.results29 (Rv.tmp rfl) (Rv.tmp rfl)) ?_
  exact ⟨_, _, rfl, (S.nil_ 125 4 Rum.enc none).wd.picks (by repeat (first | exact Picks.nil | (refine Picks.rest ?_; (repeat (first | exact List.Sublist.refl _ | refine List.Sublist.cons_cons _ ?_ | refine List.Sublist.cons _ ?_)); done) | refine Picks.take 0 rfl ?_ | refine Picks.take 1 rfl ?_ | refine Picks.take 2 rfl ?_ | refine Picks.take 3 rfl ?_ | refine Picks.take 4 rfl ?_ | refine Picks.take 5 rfl ?_ | refine Picks.take 6 rfl ?_ | refine Picks.take 7 rfl ?_ | refine Picks.take 8 rfl ?_ | refine Picks.take 9 rfl ?_ | refine Picks.take 10 rfl ?_ | refine Picks.take 11 rfl ?_)), _, _, rfl, rfl⟩
end Go.Proofs.Ytjfeeiljinbmjaa
set_option linter.unusedVariables false
set_option linter.unusedSimpArgs false
set_option maxRecDepth 100000
set_option maxHeartbeats 4000000
namespace Go.Proofs.Ytjfeeiljinbmjaa
open Go.Fw Go.Proofs Go.RowKit
abbrev ring0 : Value := .agg #[.int .i64 0, .int .i64 0, .int .i64 0, .slice none 0 0]
section tick
variable {w0 w : World} {L : List Chunk} {g gf cap : Nat} {A : Option Addr} {s last to now : Int} {rl : List Rum} {told : Bool} {v : Value} {l : List Int}
end tick
end Go.Proofs.Ytjfeeiljinbmjaa
set_option linter.unusedVariables false
set_option linter.unusedSimpArgs false
set_option maxRecDepth 100000
set_option maxHeartbeats 4000000
namespace Go.Proofs.Ytjfeeiljinbmjaa
open Go.Fw Go.Proofs Go.RowKit
theorem c47 (w0 : World) (v1 : Value) (l : List Dot) (h : Sl Dot.enc 3 w0 w0.heap.size v1 l) (hn : l.length ≤ 4194304) :
    Rets Try.prog 47 #[v1] w0 fun v L => ∃ A c, v = .slice A l.length c ∧ L = [rowOf 93 3 Dot.enc A c l] := by
  have h0 := h
  obtain ⟨A, cap, rfl, hl, hcap, hA⟩ := h
  unfold Go.Fw.Rets
  refine enter1 Try.func47 rfl Try.ntmps47 rfl fun a S => ?_
  refine wp_seq_k fun _ hK1 => ?_
  refine wp_region_lit ?_
  (refine st_y S (Yr.ys (ys_assign Ev.c)) rfl ?_; clear S a; intro a w S)
  refine st_nil ?_
  (refine (then_normal (hK1 _ _ ?_)); clear hK1)
  refine wp_seq_k fun _ hK1 => ?_
  refine wp_seq_k fun _ hK2 => ?_
  refine wp_region_lit ?_
  (refine st_y S (Yr.ys (ys_move (Ev.t rfl))) rfl ?_; clear S a w; intro a w S)
  (refine st_y S (Yr.ys (ys_sNil Try.underlying61 (Ev.t rfl) Ev.c)) rfl ?_; clear S a w; intro a w S)
  refine st_nil ?_
  (refine (then_normal (hK2 _ _ ?_)); clear hK2)
  refine st_cond S (Ev.t rfl) (fun h1 => ?_) (fun h1 => ?_)
  refine wp_seq_k fun _ hK2 => ?_
  refine wp_region_lit ?_
  (refine st_y S (Yr.ys (ys_assign Ev.c)) rfl ?_; clear S a w; intro a w S)
  refine st_nil ?_
  (refine (then_normal (hK2 _ _ ?_)); clear hK2)
  refine wp_ret ?_
  refine (then_ret ?_)
  refine st_ret S (results1 S Try.results47 (Rv.tmp rfl)) ?_
  rotate_left
  refine wp_skip ?_
  (refine (then_normal (hK1 _ _ ?_)); clear hK1)
  refine wp_seq_k fun _ hK1 => ?_
  refine wp_region_lit ?_
  (refine st_m (op_bslice0 S Try.underlying61 Try.sizeOf93 rfl ?_); clear S a w; intro g1 a w S)
  (refine st_y S (Yr.ys (ys_move (Ev.t rfl))) rfl ?_; clear S a w; intro a w S)
  (refine st_m (op_extend _ (S.nil_ 93 _ Go.Fw.Dot.enc _) Try.underlying61 Try.underlying61 (.inr ⟨_, rfl⟩) inf93 rfl (k := 0) rfl (Ev.t rfl) (Ev.t rfl) (Src.sl (Sl.old S.wd h0) (by decide) Go.Fw.Dot.enc_len Go.Fw.Dot.enc_one) (by first | omega | (simp only [List.length_append, List.length_cons, List.length_nil]; omega) | (simp; omega)) rfl rfl rfl ?_); clear S a w; intro A1 cap1 a w S)
  simp only [List.nil_append] at S
  (refine st_y S (Yr.ys (ys_assign (Ev.t rfl))) rfl ?_; clear S a w; intro a w S)
  refine st_nil ?_
  (refine (then_normal (hK1 _ _ ?_)); clear hK1)
  refine wp_ret ?_
  refine st_ret S (results1 S Try.results47 (Rv.tmp rfl)) ?_
  rotate_left
  · have hnil : l = [] := by
      refine List.eq_nil_of_length_eq_zero (Decidable.byContradiction fun hne => ?_)
      obtain ⟨g, o, rfl, _⟩ := hA (by omega)
      cases h1
    subst hnil
    exact ⟨_, _, rfl, (S.nil_ 93 3 Dot.enc none).wd.sub (by repeat (first | exact List.Sublist.refl _ | exact List.nil_sublist _ | refine .cons_cons _ ?_ | refine .cons _ ?_)), none, 0, rfl, rfl⟩
  · try simp only [List.nil_append] at S ⊢
    exact ⟨_, _, rfl, S.wd.sub (by repeat (first | exact List.Sublist.refl _ | exact List.nil_sublist _ | refine .cons_cons _ ?_ | refine .cons _ ?_)), _, _, rfl, rfl⟩
abbrev boxZ (g : Nat) (L : List Chunk) : List Chunk := .blk g (.cells #[.int .i64 0, .slice none 0 0, .bool false, .int .i64 0, .int .i64 0, .bool false, .nilFunc] 101) :: L
section nobody
variable {w0 w : World} {L : List Chunk} {g gf cap : Nat} {A : Option Addr} {s last to now : Int} {rl : List Rum} {told : Bool} {v r : Value} {l : List Int}
theorem o46 (W : Wd w0 L w) : RetsO Try.prog 46 #[.pointer none, v] w0 w fun u L' => u = .int .i64 8 ∧ L' = L := by
  unfold Go.Fw.RetsO
  refine enterW2 W Try.func46 rfl Try.ntmps46 rfl fun a S => ?_
  refine wp_seq_k fun _ hK1 => ?_
  refine wp_region_lit ?_
  (refine st_y S (Yr.ys (ys_assign Ev.c)) rfl ?_; clear S a; intro a w S)
  refine st_nil ?_
  (refine (then_normal (hK1 _ _ ?_)); clear hK1)
  refine wp_seq_k fun _ hK1 => ?_
  refine wp_seq_k fun _ hK2 => ?_
  refine wp_region_lit ?_
  (refine st_y S (Yr.ys (ys_move (Ev.t rfl))) rfl ?_; clear S a w; intro a w S)
  (refine st_y S (Yr.ys (ys_pNilN Try.underlying47 (Ev.t rfl) Ev.c)) rfl ?_; clear S a w; intro a w S)
  (refine st_y S (Yr.ys (ys_move (Ev.t rfl))) rfl ?_; clear S a w; intro a w S)
  (refine st_skip S rfl rfl rfl rfl ?_; clear S a w; intro a w S)
  (refine st_skip S rfl rfl rfl rfl ?_; clear S a w; intro a w S)
  (refine st_skip S rfl rfl rfl rfl ?_; clear S a w; intro a w S)
  (refine st_skip S rfl rfl rfl rfl ?_; clear S a w; intro a w S)
  (refine st_skip S rfl rfl rfl rfl ?_; clear S a w; intro a w S)
  (refine st_y S (Yr.ys (ys_pickT (Ev.t rfl) Ev.c)) rfl ?_; clear S a w; intro a w S)
  refine st_nil ?_
  (refine (then_normal (hK2 _ _ ?_)); clear hK2)
  refine st_then S (Ev.t rfl) ?_
  refine wp_seq_k fun _ hK2 => ?_
  refine wp_region_lit ?_
  (refine st_y S (Yr.ys (ys_assign Ev.c)) rfl ?_; clear S a w; intro a w S)
  refine st_nil ?_
  (refine (then_normal (hK2 _ _ ?_)); clear hK2)
  refine wp_ret ?_
  refine (then_ret ?_)
  refine st_ret S (results1 S Try.results46 (Rv.tmp rfl)) ?_
  exact ⟨_, _, rfl, S.wd, rfl, rfl⟩
theorem p46 (W : Wd w0 (boxZ g L) w) : RetsO Try.prog 46 #[.pointer (some ⟨g, 0, none⟩), v] w0 w fun u L' => u = .int .i64 8 ∧ L' = boxZ g L := by
  unfold Go.Fw.RetsO
  refine enterW2 W Try.func46 rfl Try.ntmps46 rfl fun a S => ?_
  refine wp_seq_k fun _ hK1 => ?_
  refine wp_region_lit ?_
  (refine st_y S (Yr.ys (ys_assign Ev.c)) rfl ?_; clear S a; intro a w S)
  refine st_nil ?_
  (refine (then_normal (hK1 _ _ ?_)); clear hK1)
  refine wp_seq_k fun _ hK1 => ?_
  refine wp_seq_k fun _ hK2 => ?_
  refine wp_region_lit ?_
  (refine st_y S (Yr.ys (ys_move (Ev.t rfl))) rfl ?_; clear S a w; intro a w S)
  (refine st_y S (Yr.ys (ys_pNilS Try.underlying47 (Ev.t rfl) Ev.c)) rfl ?_; clear S a w; intro a w S)
  (refine st_y S (Yr.ys (ys_move (Ev.t rfl))) rfl ?_; clear S a w; intro a w S)
  (refine st_yt S rfl rfl (Yr.ys (ys_move (Ev.t rfl))) rfl ?_; clear S a w; intro a w S)
  (refine st_yt S rfl rfl (Yr.ys (ys_nilc (Ev.t rfl))) rfl ?_; clear S a w; intro a w S)
  (refine st_yt S rfl rfl (Yr.ys (ys_fieldN (FieldT.mk Try.underlying101 rfl Try.sizeOf4 rfl) (Ev.t rfl) (i' := 5) rfl)) rfl ?_; clear S a w; intro a w S)
  (refine st_yt S rfl rfl (Yr.ys (ys_ld ⟨Try.isAgg4, Try.sizeOf4⟩ (Ev.t rfl) (k := 0) rfl rfl)) rfl ?_; clear S a w; intro a w S)
  (refine st_yt S rfl rfl (Yr.ys (ys_not (Ev.t rfl))) rfl ?_; clear S a w; intro a w S)
  (refine st_y S (Yr.ys (ys_pickF (Ev.t rfl) (Ev.t rfl))) rfl ?_; clear S a w; intro a w S)
  refine st_nil ?_
  (refine (then_normal (hK2 _ _ ?_)); clear hK2)
  refine st_then S (Ev.t rfl) ?_
  refine wp_seq_k fun _ hK2 => ?_
  refine wp_region_lit ?_
  (refine st_y S (Yr.ys (ys_assign Ev.c)) rfl ?_; clear S a w; intro a w S)
  refine st_nil ?_
  (refine (then_normal (hK2 _ _ ?_)); clear hK2)
  refine wp_ret ?_
  refine (then_ret ?_)
  refine st_ret S (results1 S Try.results46 (Rv.tmp rfl)) ?_
  exact ⟨_, _, rfl, S.wd, rfl, rfl⟩
theorem q46 (W : Wd w0 (boxK g gf s A cap rl told last to L) w) : RetsO Try.prog 46 #[.pointer (some ⟨g, 0, none⟩), .slice none 0 0] w0 w fun u L' => u = .int .i64 0 ∧ L' = boxK g gf s A cap rl told last to L := by
  unfold Go.Fw.RetsO
  refine enterW2 W Try.func46 rfl Try.ntmps46 rfl fun a S => ?_
  refine wp_seq_k fun _ hK1 => ?_
  refine wp_region_lit ?_
  (refine st_y S (Yr.ys (ys_assign Ev.c)) rfl ?_; clear S a; intro a w S)
  refine st_nil ?_
  (refine (then_normal (hK1 _ _ ?_)); clear hK1)
  refine wp_seq_k fun _ hK1 => ?_
  refine wp_seq_k fun _ hK2 => ?_
  refine wp_region_lit ?_
  (refine st_y S (Yr.ys (ys_move (Ev.t rfl))) rfl ?_; clear S a w; intro a w S)
  (refine st_y S (Yr.ys (ys_pNilS Try.underlying47 (Ev.t rfl) Ev.c)) rfl ?_; clear S a w; intro a w S)
  (refine st_y S (Yr.ys (ys_move (Ev.t rfl))) rfl ?_; clear S a w; intro a w S)
  (refine st_yt S rfl rfl (Yr.ys (ys_move (Ev.t rfl))) rfl ?_; clear S a w; intro a w S)
  (refine st_yt S rfl rfl (Yr.ys (ys_nilc (Ev.t rfl))) rfl ?_; clear S a w; intro a w S)
  (refine st_yt S rfl rfl (Yr.ys (ys_fieldN (FieldT.mk Try.underlying101 rfl Try.sizeOf4 rfl) (Ev.t rfl) (i' := 5) rfl)) rfl ?_; clear S a w; intro a w S)
  (refine st_yt S rfl rfl (Yr.ys (ys_ld ⟨Try.isAgg4, Try.sizeOf4⟩ (Ev.t rfl) (k := 0) rfl rfl)) rfl ?_; clear S a w; intro a w S)
  (refine st_yt S rfl rfl (Yr.ys (ys_not (Ev.t rfl))) rfl ?_; clear S a w; intro a w S)
  (refine st_y S (Yr.ys (ys_pickF (Ev.t rfl) (Ev.t rfl))) rfl ?_; clear S a w; intro a w S)
  refine st_nil ?_
  (refine (then_normal (hK2 _ _ ?_)); clear hK2)
  refine st_else S (Ev.t rfl) ?_
  refine wp_skip ?_
  (refine (then_normal (hK1 _ _ ?_)); clear hK1)
  refine wp_seq_k fun _ hK1 => ?_
  refine wp_seq_k fun _ hK2 => ?_
  refine wp_region_lit ?_
  (refine st_y S (Yr.ys (ys_move (Ev.t rfl))) rfl ?_; clear S a w; intro a w S)
  (refine st_y S (Yr.ys (ys_lenS Try.underlying61 (Ev.t rfl))) rfl ?_; clear S a w; intro a w S)
  (refine st_y S (Yr.ys (ys_move Ev.c)) rfl ?_; clear S a w; intro a w S)
  refine st_nil ?_
  (refine (then_normal (hK2 _ _ ?_)); clear hK2)
  refine wp_block ?_
  refine st_rounds 1 (st_round ?_)
  refine wp_seq_k fun _ hK2 => ?_
  refine wp_region_lit ?_
  (refine st_y S (Yr.ys (ys_F (by omega) (ys_lss (Ev.t rfl) (Ev.t rfl)))) rfl ?_; clear S a w; intro a w S)
  refine st_nil ?_
  (refine (then_normal (hK2 _ _ ?_)); clear hK2)
  refine wp_seq_k fun _ hK2 => ?_
  refine st_else S (Ev.t rfl) ?_
  refine wp_exit ?_
  (refine (then_exit (then_exit (in_here (then_normal (hK1 _ _ ?_))))); clear hK1)
  refine wp_seq_k fun _ hK1 => ?_
  refine wp_seq_k fun _ hK3 => ?_
  refine wp_region_lit ?_
  (refine st_y S (Yr.ys (ys_move (Ev.t rfl))) rfl ?_; clear S a w; intro a w S)
  (refine st_y S (Yr.ys (ys_lenS Try.underlying61 (Ev.t rfl))) rfl ?_; clear S a w; intro a w S)
  (refine st_y S (Yr.ys (ys_move Ev.c)) rfl ?_; clear S a w; intro a w S)
  refine st_nil ?_
  (refine (then_normal (hK3 _ _ ?_)); clear hK3)
  refine wp_block ?_
  refine st_rounds 1 (st_round ?_)
  refine wp_seq_k fun _ hK3 => ?_
  refine wp_region_lit ?_
  (refine st_y S (Yr.ys (ys_F (by omega) (ys_lss (Ev.t rfl) (Ev.t rfl)))) rfl ?_; clear S a w; intro a w S)
  refine st_nil ?_
  (refine (then_normal (hK3 _ _ ?_)); clear hK3)
  refine wp_seq_k fun _ hK3 => ?_
  refine st_else S (Ev.t rfl) ?_
  refine wp_exit ?_
  (refine (then_exit (then_exit (in_here (then_normal (hK1 _ _ ?_))))); clear hK1)
  refine wp_seq_k fun _ hK1 => ?_
  refine wp_region_lit ?_
  (refine st_y S (Yr.ys (ys_assign Ev.c)) rfl ?_; clear S a w; intro a w S)
  refine st_nil ?_
  (refine (then_normal (hK1 _ _ ?_)); clear hK1)
  refine wp_ret ?_
  refine st_ret S (results1 S Try.results46 (Rv.tmp rfl)) ?_
  exact ⟨_, _, rfl, S.wd.picks (by repeat (first | exact Picks.nil | (refine Picks.rest ?_; (repeat (first | exact List.Sublist.refl _ | refine List.Sublist.cons_cons _ ?_ | refine List.Sublist.cons _ ?_)); done) | refine Picks.take 0 rfl ?_ | refine Picks.take 1 rfl ?_ | refine Picks.take 2 rfl ?_ | refine Picks.take 3 rfl ?_ | refine Picks.take 4 rfl ?_ | refine Picks.take 5 rfl ?_ | refine Picks.take 6 rfl ?_ | refine Picks.take 7 rfl ?_ | refine Picks.take 8 rfl ?_ | refine Picks.take 9 rfl ?_ | refine Picks.take 10 rfl ?_ | refine Picks.take 11 rfl ?_)), rfl, rfl⟩
theorem o50 (W : Wd w0 L w) : RetsO Try.prog 50 #[.pointer none] w0 w fun u L' => u = .slice none 0 0 ∧ L' = L := by
  unfold Go.Fw.RetsO
  refine enterW1 W Try.func50 rfl Try.ntmps50 rfl fun a S => ?_
  refine wp_seq_k fun _ hK1 => ?_
  refine wp_region_lit ?_
  (refine st_y S (Yr.ys (ys_assign Ev.c)) rfl ?_; clear S a; intro a w S)
  refine st_nil ?_
  (refine (then_normal (hK1 _ _ ?_)); clear hK1)
  refine wp_seq_k fun _ hK1 => ?_
  refine wp_seq_k fun _ hK2 => ?_
  refine wp_region_lit ?_
  (refine st_y S (Yr.ys (ys_move (Ev.t rfl))) rfl ?_; clear S a w; intro a w S)
  (refine st_y S (Yr.ys (ys_pNilN Try.underlying47 (Ev.t rfl) Ev.c)) rfl ?_; clear S a w; intro a w S)
  (refine st_y S (Yr.ys (ys_move (Ev.t rfl))) rfl ?_; clear S a w; intro a w S)
  (refine st_skip S rfl rfl rfl rfl ?_; clear S a w; intro a w S)
  (refine st_skip S rfl rfl rfl rfl ?_; clear S a w; intro a w S)
  (refine st_skip S rfl rfl rfl rfl ?_; clear S a w; intro a w S)
  (refine st_skip S rfl rfl rfl rfl ?_; clear S a w; intro a w S)
  (refine st_skip S rfl rfl rfl rfl ?_; clear S a w; intro a w S)
  (refine st_y S (Yr.ys (ys_pickT (Ev.t rfl) Ev.c)) rfl ?_; clear S a w; intro a w S)
  refine st_nil ?_
  (refine (then_normal (hK2 _ _ ?_)); clear hK2)
  refine st_then S (Ev.t rfl) ?_
  refine wp_seq_k fun _ hK2 => ?_
  refine wp_region_lit ?_
  (refine st_y S (Yr.ys (ys_assign Ev.c)) rfl ?_; clear S a w; intro a w S)
  refine st_nil ?_
  (refine (then_normal (hK2 _ _ ?_)); clear hK2)
  refine wp_ret ?_
  refine (then_ret ?_)
  refine st_ret S (results1 S Try.results50 (Rv.tmp rfl)) ?_
  exact ⟨_, _, rfl, S.wd, rfl, rfl⟩
theorem p50 (W : Wd w0 (boxZ g L) w) : RetsO Try.prog 50 #[.pointer (some ⟨g, 0, none⟩)] w0 w fun u L' => u = .slice none 0 0 ∧ L' = boxZ g L := by
  unfold Go.Fw.RetsO
  refine enterW1 W Try.func50 rfl Try.ntmps50 rfl fun a S => ?_
  refine wp_seq_k fun _ hK1 => ?_
  refine wp_region_lit ?_
  (refine st_y S (Yr.ys (ys_assign Ev.c)) rfl ?_; clear S a; intro a w S)
  refine st_nil ?_
  (refine (then_normal (hK1 _ _ ?_)); clear hK1)
  refine wp_seq_k fun _ hK1 => ?_
  refine wp_seq_k fun _ hK2 => ?_
  refine wp_region_lit ?_
  (refine st_y S (Yr.ys (ys_move (Ev.t rfl))) rfl ?_; clear S a w; intro a w S)
  (refine st_y S (Yr.ys (ys_pNilS Try.underlying47 (Ev.t rfl) Ev.c)) rfl ?_; clear S a w; intro a w S)
  (refine st_y S (Yr.ys (ys_move (Ev.t rfl))) rfl ?_; clear S a w; intro a w S)
  (refine st_yt S rfl rfl (Yr.ys (ys_move (Ev.t rfl))) rfl ?_; clear S a w; intro a w S)
  (refine st_yt S rfl rfl (Yr.ys (ys_nilc (Ev.t rfl))) rfl ?_; clear S a w; intro a w S)
  (refine st_yt S rfl rfl (Yr.ys (ys_fieldN (FieldT.mk Try.underlying101 rfl Try.sizeOf4 rfl) (Ev.t rfl) (i' := 5) rfl)) rfl ?_; clear S a w; intro a w S)
  (refine st_yt S rfl rfl (Yr.ys (ys_ld ⟨Try.isAgg4, Try.sizeOf4⟩ (Ev.t rfl) (k := 0) rfl rfl)) rfl ?_; clear S a w; intro a w S)
  (refine st_yt S rfl rfl (Yr.ys (ys_not (Ev.t rfl))) rfl ?_; clear S a w; intro a w S)
  (refine st_y S (Yr.ys (ys_pickF (Ev.t rfl) (Ev.t rfl))) rfl ?_; clear S a w; intro a w S)
  refine st_nil ?_
  (refine (then_normal (hK2 _ _ ?_)); clear hK2)
  refine st_then S (Ev.t rfl) ?_
  refine wp_seq_k fun _ hK2 => ?_
  refine wp_region_lit ?_
  (refine st_y S (Yr.ys (ys_assign Ev.c)) rfl ?_; clear S a w; intro a w S)
  refine st_nil ?_
  (refine (then_normal (hK2 _ _ ?_)); clear hK2)
  refine wp_ret ?_
  refine (then_ret ?_)
  refine st_ret S (results1 S Try.results50 (Rv.tmp rfl)) ?_
  exact ⟨_, _, rfl, S.wd, rfl, rfl⟩
theorem q30 (W : Wd w0 L w) : RetsO Try.prog 30 #[.pointer none, .int .i64 now, ring0, v] w0 w fun u L' => u = .slice none 0 0 ∧ L' = L := by
  unfold Go.Fw.RetsO
  refine enterW4 W Try.func30 rfl Try.ntmps30 rfl fun a S => ?_
  refine wp_seq_k fun _ hK1 => ?_
  refine wp_region_lit ?_
  (refine st_m (op_box S (Ev.t rfl) rfl ?_); clear S a; intro g1 a w S)
  (refine st_y S (Yr.ys (ys_assign Ev.c)) rfl ?_; clear S a w; intro a w S)
  refine st_nil ?_
  (refine (then_normal (hK1 _ _ ?_)); clear hK1)
  refine wp_seq_k fun _ hK1 => ?_
  refine wp_seq_k fun _ hK2 => ?_
  refine wp_region_lit ?_
  (refine st_y S (Yr.ys (ys_move (Ev.t rfl))) rfl ?_; clear S a w; intro a w S)
  (refine st_y S (Yr.ys (ys_pNilN Try.underlying47 (Ev.t rfl) Ev.c)) rfl ?_; clear S a w; intro a w S)
  (refine st_y S (Yr.ys (ys_move (Ev.t rfl))) rfl ?_; clear S a w; intro a w S)
  (refine st_skip S rfl rfl rfl rfl ?_; clear S a w; intro a w S)
  (refine st_skip S rfl rfl rfl rfl ?_; clear S a w; intro a w S)
  (refine st_skip S rfl rfl rfl rfl ?_; clear S a w; intro a w S)
  (refine st_skip S rfl rfl rfl rfl ?_; clear S a w; intro a w S)
  (refine st_skip S rfl rfl rfl rfl ?_; clear S a w; intro a w S)
  (refine st_y S (Yr.ys (ys_pickT (Ev.t rfl) Ev.c)) rfl ?_; clear S a w; intro a w S)
  (refine st_y S (Yr.ys (ys_move (Ev.t rfl))) rfl ?_; clear S a w; intro a w S)
  (refine st_skip S rfl rfl rfl rfl ?_; clear S a w; intro a w S)
  (refine st_skip S rfl rfl rfl rfl ?_; clear S a w; intro a w S)
  (refine st_y S (Yr.ys (ys_pickT (Ev.t rfl) Ev.c)) rfl ?_; clear S a w; intro a w S)
  (refine st_y S (Yr.ys (ys_move (Ev.t rfl))) rfl ?_; clear S a w; intro a w S)
  (refine st_skip S rfl rfl rfl rfl ?_; clear S a w; intro a w S)
  (refine st_skip S rfl rfl rfl rfl ?_; clear S a w; intro a w S)
  (refine st_skip S rfl rfl rfl rfl ?_; clear S a w; intro a w S)
  (refine st_skip S rfl rfl rfl rfl ?_; clear S a w; intro a w S)
  (refine st_skip S rfl rfl rfl rfl ?_; clear S a w; intro a w S)
  (refine st_skip0 S rfl rfl rfl ?_; clear S a w; intro a w S)
  (refine st_skip0 S rfl rfl rfl ?_; clear S a w; intro a w S)
  (refine st_skip0 S rfl rfl rfl ?_; clear S a w; intro a w S)
  (refine st_skip0 S rfl rfl rfl ?_; clear S a w; intro a w S)
  (refine st_skip0 S rfl rfl rfl ?_; clear S a w; intro a w S)
  (refine st_skip0 S rfl rfl rfl ?_; clear S a w; intro a w S)
  (refine st_skip0 S rfl rfl rfl ?_; clear S a w; intro a w S)
  (refine st_skip S rfl rfl rfl rfl ?_; clear S a w; intro a w S)
  (refine st_y S (Yr.ys (ys_pickT (Ev.t rfl) Ev.c)) rfl ?_; clear S a w; intro a w S)
  refine st_nil ?_
  (refine (then_normal (hK2 _ _ ?_)); clear hK2)
  refine st_then S (Ev.t rfl) ?_
  refine wp_seq_k fun _ hK2 => ?_
  refine wp_region_lit ?_
  (refine st_y S (Yr.ys (ys_assign Ev.c)) rfl ?_; clear S a w; intro a w S)
  refine st_nil ?_
  (refine (then_normal (hK2 _ _ ?_)); clear hK2)
  refine wp_ret ?_
  refine (then_ret ?_)
  refine st_ret S (results1 S Try.results30 (Rv.tmp rfl)) ?_
  exact ⟨_, _, rfl, S.wd.picks (by repeat (first | exact Picks.nil | (refine Picks.rest ?_; (repeat (first | exact List.Sublist.refl _ | refine List.Sublist.cons_cons _ ?_ | refine List.Sublist.cons _ ?_)); done) | refine Picks.take 0 rfl ?_ | refine Picks.take 1 rfl ?_ | refine Picks.take 2 rfl ?_ | refine Picks.take 3 rfl ?_ | refine Picks.take 4 rfl ?_ | refine Picks.take 5 rfl ?_ | refine Picks.take 6 rfl ?_ | refine Picks.take 7 rfl ?_ | refine Picks.take 8 rfl ?_ | refine Picks.take 9 rfl ?_ | refine Picks.take 10 rfl ?_ | refine Picks.take 11 rfl ?_)), rfl, rfl⟩
theorem r30 (W : Wd w0 (boxZ g L) w) : RetsO Try.prog 30 #[.pointer (some ⟨g, 0, none⟩), .int .i64 now, ring0, v] w0 w fun u L' => u = .slice none 0 0 ∧ L' = boxZ g L := by
  unfold Go.Fw.RetsO
  refine enterW4 W Try.func30 rfl Try.ntmps30 rfl fun a S => ?_
  refine wp_seq_k fun _ hK1 => ?_
  refine wp_region_lit ?_
  (refine st_m (op_box S (Ev.t rfl) rfl ?_); clear S a; intro g1 a w S)
  (refine st_y S (Yr.ys (ys_assign Ev.c)) rfl ?_; clear S a w; intro a w S)
  refine st_nil ?_
  (refine (then_normal (hK1 _ _ ?_)); clear hK1)
  refine wp_seq_k fun _ hK1 => ?_
  refine wp_seq_k fun _ hK2 => ?_
  refine wp_region_lit ?_
  (refine st_y S (Yr.ys (ys_move (Ev.t rfl))) rfl ?_; clear S a w; intro a w S)
  (refine st_y S (Yr.ys (ys_pNilS Try.underlying47 (Ev.t rfl) Ev.c)) rfl ?_; clear S a w; intro a w S)
  (refine st_y S (Yr.ys (ys_move (Ev.t rfl))) rfl ?_; clear S a w; intro a w S)
  (refine st_yt S rfl rfl (Yr.ys (ys_move (Ev.t rfl))) rfl ?_; clear S a w; intro a w S)
  (refine st_yt S rfl rfl (Yr.ys (ys_nilc (Ev.t rfl))) rfl ?_; clear S a w; intro a w S)
  (refine st_yt S rfl rfl (Yr.ys (ys_fieldN (FieldT.mk Try.underlying101 rfl Try.sizeOf4 rfl) (Ev.t rfl) (i' := 5) rfl)) rfl ?_; clear S a w; intro a w S)
  (refine st_yt S rfl rfl (Yr.ys (ys_ld ⟨Try.isAgg4, Try.sizeOf4⟩ (Ev.t rfl) (k := 1) rfl rfl)) rfl ?_; clear S a w; intro a w S)
  (refine st_yt S rfl rfl (Yr.ys (ys_not (Ev.t rfl))) rfl ?_; clear S a w; intro a w S)
  (refine st_y S (Yr.ys (ys_pickF (Ev.t rfl) (Ev.t rfl))) rfl ?_; clear S a w; intro a w S)
  (refine st_y S (Yr.ys (ys_move (Ev.t rfl))) rfl ?_; clear S a w; intro a w S)
  (refine st_skip S rfl rfl rfl rfl ?_; clear S a w; intro a w S)
  (refine st_skip S rfl rfl rfl rfl ?_; clear S a w; intro a w S)
  (refine st_y S (Yr.ys (ys_pickT (Ev.t rfl) Ev.c)) rfl ?_; clear S a w; intro a w S)
  (refine st_y S (Yr.ys (ys_move (Ev.t rfl))) rfl ?_; clear S a w; intro a w S)
  (refine st_skip S rfl rfl rfl rfl ?_; clear S a w; intro a w S)
  (refine st_skip S rfl rfl rfl rfl ?_; clear S a w; intro a w S)
  (refine st_skip S rfl rfl rfl rfl ?_; clear S a w; intro a w S)
  (refine st_skip S rfl rfl rfl rfl ?_; clear S a w; intro a w S)
  (refine st_skip S rfl rfl rfl rfl ?_; clear S a w; intro a w S)
  (refine st_skip0 S rfl rfl rfl ?_; clear S a w; intro a w S)
  (refine st_skip0 S rfl rfl rfl ?_; clear S a w; intro a w S)
  (refine st_skip0 S rfl rfl rfl ?_; clear S a w; intro a w S)
  (refine st_skip0 S rfl rfl rfl ?_; clear S a w; intro a w S)
  (refine st_skip0 S rfl rfl rfl ?_; clear S a w; intro a w S)
  (refine st_skip0 S rfl rfl rfl ?_; clear S a w; intro a w S)
  (refine st_skip0 S rfl rfl rfl ?_; clear S a w; intro a w S)
  (refine st_skip S rfl rfl rfl rfl ?_; clear S a w; intro a w S)
  (refine st_y S (Yr.ys (ys_pickT (Ev.t rfl) Ev.c)) rfl ?_; clear S a w; intro a w S)
  refine st_nil ?_
  (refine (then_normal (hK2 _ _ ?_)); clear hK2)
  refine st_then S (Ev.t rfl) ?_
  refine wp_seq_k fun _ hK2 => ?_
  refine wp_region_lit ?_
  (refine st_y S (Yr.ys (ys_assign Ev.c)) rfl ?_; clear S a w; intro a w S)
  refine st_nil ?_
  (refine (then_normal (hK2 _ _ ?_)); clear hK2)
  refine wp_ret ?_
  refine (then_ret ?_)
  refine st_ret S (results1 S Try.results30 (Rv.tmp rfl)) ?_
  exact ⟨_, _, rfl, S.wd.picks (by repeat (first | exact Picks.nil | (refine Picks.rest ?_; (repeat (first | exact List.Sublist.refl _ | refine List.Sublist.cons_cons _ ?_ | refine List.Sublist.cons _ ?_)); done) | refine Picks.take 0 rfl ?_ | refine Picks.take 1 rfl ?_ | refine Picks.take 2 rfl ?_ | refine Picks.take 3 rfl ?_ | refine Picks.take 4 rfl ?_ | refine Picks.take 5 rfl ?_ | refine Picks.take 6 rfl ?_ | refine Picks.take 7 rfl ?_ | refine Picks.take 8 rfl ?_ | refine Picks.take 9 rfl ?_ | refine Picks.take 10 rfl ?_ | refine Picks.take 11 rfl ?_)), rfl, rfl⟩
end nobody
theorem c10 (w0 : World) (v : Value) (l : List Dot) (now : Int) (h : Sl Dot.enc 3 w0 w0.heap.size v l) (hn : l.length ≤ 1048576) :
    Calls Try.prog 10 #[v, .int .i64 now] w0 fun e w' => e = .returned (.bool true) ∧ Bel w0.heap.size w0 w' := by
  refine enter2 Try.func10 rfl Try.ntmps10 rfl fun a S => ?_
  refine wp_seq_k fun _ hK1 => ?_
  refine wp_region_lit ?_
  (refine st_y S (Yr.ys (ys_assign Ev.c)) rfl ?_; clear S a; intro a w S)
  refine st_nil ?_
  (refine (then_normal (hK1 _ _ ?_)); clear hK1)
  refine wp_seq_k fun _ hK1 => ?_
  refine wp_seq_k fun _ hK2 => ?_
  refine wp_region_lit ?_
  (refine st_y S (Yr.ys (ys_bld (ps := []) (us := [_, _, _, _, _, _, _]) bld101 EvL.nil rfl)) rfl ?_; clear S a w; intro a w S)
  (refine st_m (op_box S (Ev.t rfl) rfl ?_); clear S a w; intro g1 a w S)
  (refine st_m (op_bsliceZ (ps := [(0, _), (1, Go.Operand.tmp 10)]) (us := [_, _]) S Try.underlying102 Try.sizeOf47 Try.zeroValue47 rfl rfl (EvL.cons Ev.c (EvL.cons (Ev.t rfl) EvL.nil)) rfl rfl ?_); clear S a w; intro g2 a w S)
  (refine st_y S (Yr.ys (ys_lenS Try.underlying102 (Ev.t rfl))) rfl ?_; clear S a w; intro a w S)
  (refine st_y S (Yr.ys (ys_move Ev.c)) rfl ?_; clear S a w; intro a w S)
  refine st_nil ?_
  (refine (then_normal (hK2 _ _ ?_)); clear hK2)
  refine wp_block ?_
  refine st_rounds 3 (st_round ?_)
  refine wp_seq_k fun _ hK2 => ?_
  refine wp_region_lit ?_
  (refine st_y S (Yr.ys (ys_T (by omega) (ys_lss (Ev.t rfl) (Ev.t rfl)))) rfl ?_; clear S a w; intro a w S)
  refine st_nil ?_
  (refine (then_normal (hK2 _ _ ?_)); clear hK2)
  refine wp_seq_k fun _ hK2 => ?_
  refine st_then S (Ev.t rfl) ?_
  refine wp_skip ?_
  (refine (then_normal (hK2 _ _ ?_)); clear hK2)
  refine wp_seq_k fun _ hK2 => ?_
  refine wp_block ?_
  refine wp_seq_k fun _ hK3 => ?_
  refine wp_region_lit ?_
  (refine st_y S (Yr.ys (ys_ixS (j := 0) Try.underlying102 Try.sizeOf47 (Ev.t rfl) (Ev.t rfl) (fun _ => by omega))) rfl ?_; clear S a w; intro a w S)
  (refine st_y S (Yr.ys (ys_ld ⟨Try.isAgg47, Try.sizeOf47⟩ (Ev.t rfl) (k := 0) rfl rfl)) rfl ?_; clear S a w; intro a w S)
  (refine st_y S (Yr.ys (ys_assign (Ev.t rfl))) rfl ?_; clear S a w; intro a w S)
  refine st_nil ?_
  (refine (then_normal (hK3 _ _ ?_)); clear hK3)
  refine wp_seq_k fun _ hK3 => ?_
  refine wp_region_lit ?_
  (refine st_y S (Yr.ys (ys_move (Ev.t rfl))) rfl ?_; clear S a w; intro a w S)
  (refine st_y S (Yr.ys (ys_move (Ev.t rfl))) rfl ?_; clear S a w; intro a w S)
  (refine st_m (op_calls S Try.call47 (EvL.cons (Ev.t rfl) EvL.nil) (c47 _ _ _ (by exact .old S.wd (by assumption)) (by omega)) rfl ?_); clear S a w; rintro _ _ ⟨A1, c1, rfl, rfl⟩ a w S)
  (refine st_m (op_callO S Try.call46 (EvL.cons (Ev.t rfl) (EvL.cons (Ev.t rfl) EvL.nil)) (o46 S.wd) rfl ?_) <;> clear S a w)
  rintro _ _ ⟨rfl, rfl⟩ a w S
  (refine st_y S (Yr.ys (ys_F (by omega) (ys_neq (Ev.t rfl) Ev.c))) rfl ?_; clear S a w; intro a w S)
  (refine st_y S (Yr.ys (ys_move (Ev.t rfl))) rfl ?_; clear S a w; intro a w S)
  (refine st_yt S rfl rfl (Yr.ys (ys_move (Ev.t rfl))) rfl ?_; clear S a w; intro a w S)
  (refine st_mg S rfl rfl (op_callO S Try.call50 (EvL.cons (Ev.t rfl) EvL.nil) (o50 S.wd) rfl ?_) <;> clear S a w)
  rintro _ _ ⟨rfl, rfl⟩ a w S
  (refine st_yt S rfl rfl (Yr.ys (ys_lenS Try.underlying61 (Ev.t rfl))) rfl ?_; clear S a w; intro a w S)
  (refine st_yt S rfl rfl (Yr.ys (ys_F (by omega) (ys_gtr (Ev.t rfl) Ev.c))) rfl ?_; clear S a w; intro a w S)
  (refine st_y S (Yr.ys (ys_pickF (Ev.t rfl) (Ev.t rfl))) rfl ?_; clear S a w; intro a w S)
  (refine st_y S (Yr.ys (ys_move (Ev.t rfl))) rfl ?_; clear S a w; intro a w S)
  (refine st_yt S rfl rfl (Yr.ys (ys_move (Ev.t rfl))) rfl ?_; clear S a w; intro a w S)
  (refine st_yt S rfl rfl (Yr.ys (ys_move (Ev.t rfl))) rfl ?_; clear S a w; intro a w S)
  (refine st_yt S rfl rfl (Yr.ys (ys_bld (ps := []) (us := [_, _, _, _]) bld56 EvL.nil rfl)) rfl ?_; clear S a w; intro a w S)
  (refine st_mg S rfl rfl (op_bsliceZ (ps := [(0, _), (1, _)]) (us := [_, _]) S Try.underlying45 Try.sizeOf3 Try.zeroValue3 rfl rfl (EvL.cons Ev.c (EvL.cons Ev.c EvL.nil)) rfl rfl ?_); clear S a w; intro g3 a w S)
  (refine st_mg S rfl rfl (op_callO S Try.call30 (EvL.cons (Ev.t rfl) (EvL.cons (Ev.t rfl) (EvL.cons (Ev.t rfl) (EvL.cons (Ev.t rfl) EvL.nil)))) (q30 S.wd) rfl ?_) <;> clear S a w)
  rintro _ _ ⟨rfl, rfl⟩ a w S
  (refine st_yt S rfl rfl (Yr.ys (ys_lenS Try.underlying52 (Ev.t rfl))) rfl ?_; clear S a w; intro a w S)
  (refine st_yt S rfl rfl (Yr.ys (ys_F (by omega) (ys_gtr (Ev.t rfl) Ev.c))) rfl ?_; clear S a w; intro a w S)
  (refine st_y S (Yr.ys (ys_pickF (Ev.t rfl) (Ev.t rfl))) rfl ?_; clear S a w; intro a w S)
  refine st_nil ?_
  (refine (then_normal (hK3 _ _ ?_)); clear hK3)
  refine st_else S (Ev.t rfl) ?_
  refine wp_skip ?_
  (refine (in_normal (then_normal (hK2 _ _ ?_))); clear hK2)
  refine wp_region_lit ?_
  (refine st_y S (Yr.ys (ys_addI (Ev.t rfl) Ev.c (fun _ => by unfold I64; omega))) rfl ?_; clear S a w; intro a w S)
  (refine st_y S (Yr.ys (ys_move (Ev.t rfl))) rfl ?_; clear S a w; intro a w S)
  refine st_nil ?_
  refine (then_normal ?_)
  refine st_round ?_
  refine wp_seq_k fun _ hK2 => ?_
  refine wp_region_lit ?_
  (refine st_y S (Yr.ys (ys_T (by omega) (ys_lss (Ev.t rfl) (Ev.t rfl)))) rfl ?_; clear S a w; intro a w S)
  refine st_nil ?_
  (refine (then_normal (hK2 _ _ ?_)); clear hK2)
  refine wp_seq_k fun _ hK2 => ?_
  refine st_then S (Ev.t rfl) ?_
  refine wp_skip ?_
  (refine (then_normal (hK2 _ _ ?_)); clear hK2)
  refine wp_seq_k fun _ hK2 => ?_
  refine wp_block ?_
  refine wp_seq_k fun _ hK3 => ?_
  refine wp_region_lit ?_
  (refine st_y S (Yr.ys (ys_ixS (j := 1) Try.underlying102 Try.sizeOf47 (Ev.t rfl) (Ev.t rfl) (fun _ => by omega))) rfl ?_; clear S a w; intro a w S)
  (refine st_y S (Yr.ys (ys_ld ⟨Try.isAgg47, Try.sizeOf47⟩ (Ev.t rfl) (k := 2) rfl rfl)) rfl ?_; clear S a w; intro a w S)
  (refine st_y S (Yr.ys (ys_assign (Ev.t rfl))) rfl ?_; clear S a w; intro a w S)
  refine st_nil ?_
  (refine (then_normal (hK3 _ _ ?_)); clear hK3)
  refine wp_seq_k fun _ hK3 => ?_
  refine wp_region_lit ?_
  (refine st_y S (Yr.ys (ys_move (Ev.t rfl))) rfl ?_; clear S a w; intro a w S)
  (refine st_y S (Yr.ys (ys_move (Ev.t rfl))) rfl ?_; clear S a w; intro a w S)
  (refine st_m (op_calls S Try.call47 (EvL.cons (Ev.t rfl) EvL.nil) (c47 _ _ _ (by exact .old S.wd (by assumption)) (by omega)) rfl ?_); clear S a w; rintro _ _ ⟨A2, c2, rfl, rfl⟩ a w S)
  (replace S := S.pull 4 rfl; try simp only [List.set_cons_zero, List.set_cons_succ, List.eraseIdx_cons_succ, List.eraseIdx_cons_zero] at S; refine st_m (op_callO S Try.call46 (EvL.cons (Ev.t rfl) (EvL.cons (Ev.t rfl) EvL.nil)) (p46 S.wd) rfl ?_) <;> clear S a w)
  (refine st_m (op_callO S Try.call46 (EvL.cons (Ev.t rfl) (EvL.cons (Ev.t rfl) EvL.nil)) (p46 S.wd) rfl ?_) <;> clear S a w)
  rintro _ _ ⟨rfl, rfl⟩ a w S
  (refine st_y S (Yr.ys (ys_F (by omega) (ys_neq (Ev.t rfl) Ev.c))) rfl ?_; clear S a w; intro a w S)
  (refine st_y S (Yr.ys (ys_move (Ev.t rfl))) rfl ?_; clear S a w; intro a w S)
  (refine st_yt S rfl rfl (Yr.ys (ys_move (Ev.t rfl))) rfl ?_; clear S a w; intro a w S)
  (refine st_mg S rfl rfl (op_callO S Try.call50 (EvL.cons (Ev.t rfl) EvL.nil) (p50 S.wd) rfl ?_) <;> clear S a w)
  rintro _ _ ⟨rfl, rfl⟩ a w S
  (refine st_yt S rfl rfl (Yr.ys (ys_lenS Try.underlying61 (Ev.t rfl))) rfl ?_; clear S a w; intro a w S)
  (refine st_yt S rfl rfl (Yr.ys (ys_F (by omega) (ys_gtr (Ev.t rfl) Ev.c))) rfl ?_; clear S a w; intro a w S)
  (refine st_y S (Yr.ys (ys_pickF (Ev.t rfl) (Ev.t rfl))) rfl ?_; clear S a w; intro a w S)
  (refine st_y S (Yr.ys (ys_move (Ev.t rfl))) rfl ?_; clear S a w; intro a w S)
  (refine st_yt S rfl rfl (Yr.ys (ys_move (Ev.t rfl))) rfl ?_; clear S a w; intro a w S)
  (refine st_yt S rfl rfl (Yr.ys (ys_move (Ev.t rfl))) rfl ?_; clear S a w; intro a w S)
  (refine st_yt S rfl rfl (Yr.ys (ys_bld (ps := []) (us := [_, _, _, _]) bld56 EvL.nil rfl)) rfl ?_; clear S a w; intro a w S)
  (refine st_mg S rfl rfl (op_bsliceZ (ps := [(0, _), (1, _)]) (us := [_, _]) S Try.underlying45 Try.sizeOf3 Try.zeroValue3 rfl rfl (EvL.cons Ev.c (EvL.cons Ev.c EvL.nil)) rfl rfl ?_); clear S a w; intro g4 a w S)
  (replace S := S.pull 1 rfl; try simp only [List.set_cons_zero, List.set_cons_succ, List.eraseIdx_cons_succ, List.eraseIdx_cons_zero] at S; refine st_mg S rfl rfl (op_callO S Try.call30 (EvL.cons (Ev.t rfl) (EvL.cons (Ev.t rfl) (EvL.cons (Ev.t rfl) (EvL.cons (Ev.t rfl) EvL.nil)))) (r30 S.wd) rfl ?_) <;> clear S a w)
  rintro _ _ ⟨rfl, rfl⟩ a w S
  (refine st_yt S rfl rfl (Yr.ys (ys_lenS Try.underlying52 (Ev.t rfl))) rfl ?_; clear S a w; intro a w S)
  (refine st_yt S rfl rfl (Yr.ys (ys_F (by omega) (ys_gtr (Ev.t rfl) Ev.c))) rfl ?_; clear S a w; intro a w S)
  (refine st_y S (Yr.ys (ys_pickF (Ev.t rfl) (Ev.t rfl))) rfl ?_; clear S a w; intro a w S)
  refine st_nil ?_
  (refine (then_normal (hK3 _ _ ?_)); clear hK3)
  refine st_else S (Ev.t rfl) ?_
  refine wp_skip ?_
  (refine (in_normal (then_normal (hK2 _ _ ?_))); clear hK2)
  refine wp_region_lit ?_
  (refine st_y S (Yr.ys (ys_addI (Ev.t rfl) Ev.c (fun _ => by unfold I64; omega))) rfl ?_; clear S a w; intro a w S)
  (refine st_y S (Yr.ys (ys_move (Ev.t rfl))) rfl ?_; clear S a w; intro a w S)
  refine st_nil ?_
  refine (then_normal ?_)
  refine st_round ?_
  refine wp_seq_k fun _ hK2 => ?_
  refine wp_region_lit ?_
  (refine st_y S (Yr.ys (ys_F (by omega) (ys_lss (Ev.t rfl) (Ev.t rfl)))) rfl ?_; clear S a w; intro a w S)
  refine st_nil ?_
  (refine (then_normal (hK2 _ _ ?_)); clear hK2)
  refine wp_seq_k fun _ hK2 => ?_
  refine st_else S (Ev.t rfl) ?_
  refine wp_exit ?_
  (refine (then_exit (then_exit (in_here (then_normal (hK1 _ _ ?_))))); clear hK1)
  refine wp_seq_k fun _ hK1 => ?_
  refine wp_region_lit ?_
  (refine st_m (op_calls S Try.call29 (EvL.cons Ev.c EvL.nil) (c29 _ _ (by omega)) rfl ?_); clear S a w; rintro _ _ ⟨g5, gf1, rfl, rfl⟩ a w S)
  (refine st_y S (Yr.ys (ys_move (Ev.t rfl))) rfl ?_; clear S a w; intro a w S)
  (refine st_y S (Yr.ys (ys_ext (Ev.t rfl) rfl)) rfl ?_; clear S a w; intro a w S)
  (refine st_y S (Yr.ys (ys_ext (Ev.t rfl) rfl)) rfl ?_; clear S a w; intro a w S)
  (refine st_y S (Yr.ys (ys_assign (Ev.t rfl))) rfl ?_; clear S a w; intro a w S)
  (refine st_y S (Yr.ys (ys_assign (Ev.t rfl))) rfl ?_; clear S a w; intro a w S)
  refine st_nil ?_
  (refine (then_normal (hK1 _ _ ?_)); clear hK1)
  refine wp_seq_k fun _ hK1 => ?_
  refine wp_region_lit ?_
  (refine st_y S (Yr.ys (ys_move (Ev.t rfl))) rfl ?_; clear S a w; intro a w S)
  (refine st_y S (Yr.ys (ys_T (by omega) (ys_eql (Ev.t rfl) Ev.c))) rfl ?_; clear S a w; intro a w S)
  (refine st_y S (Yr.ys (ys_move (Ev.t rfl))) rfl ?_; clear S a w; intro a w S)
  (refine st_yt S rfl rfl (Yr.ys (ys_move (Ev.t rfl))) rfl ?_; clear S a w; intro a w S)
  (refine st_mg S rfl rfl (op_callO S Try.call46 (EvL.cons (Ev.t rfl) (EvL.cons Ev.c EvL.nil)) (q46 S.wd) rfl ?_) <;> clear S a w)
  rintro _ _ ⟨rfl, rfl⟩ a w S
  (refine st_yt S rfl rfl (Yr.ys (ys_T (by omega) (ys_eql (Ev.t rfl) Ev.c))) rfl ?_; clear S a w; intro a w S)
  (refine st_y S (Yr.ys (ys_pickT (Ev.t rfl) (Ev.t rfl))) rfl ?_; clear S a w; intro a w S)
  (refine st_y S (Yr.ys (ys_assign (Ev.t rfl))) rfl ?_; clear S a w; intro a w S)
  refine st_nil ?_
  (refine (then_normal (hK1 _ _ ?_)); clear hK1)
  refine wp_ret ?_
  refine st_ret S (results1 S Try.results10 (Rv.tmp rfl)) ?_
  exact ⟨rfl, S.wd.below⟩
end Go.Proofs.Ytjfeeiljinbmjaa
