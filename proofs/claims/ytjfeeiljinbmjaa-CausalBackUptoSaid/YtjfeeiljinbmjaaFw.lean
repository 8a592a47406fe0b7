/- A layer of our own over the kit's walk: what is known of a frame (slots) and of a world (own blocks), as lists; one law an operation. Of no program. -/
import Derived.WalkKit
import Derived.Below
import Derived.OrdersHeld
import Derived.Deep.Quiet
import Derived.Laws.StructEq
import Derived.Deep.MidRow
import Derived.Sort.Grow
set_option linter.unusedVariables false
set_option linter.unusedSimpArgs false
namespace Go.Fw
open Go.RowKit

/-- What is known of a slot: under the guard g it holds v, else it holds nothing yet. -/
abbrev KL := List (Nat × Bool × Value)

/-- The first entry that the list gives for a slot. -/
def look : KL → Nat → Option (Bool × Value)
  | [], _ => none
  | (j, v) :: r, i => bif Nat.beq i j then some v else look r i

/-- What is known of a frame: no deferred calls, n slots, and of some slots the value. -/
structure Kn (n : Nat) (K : KL) (a : Act) : Prop where
  defers : a.defers = []
  size : a.tmps.size = n
  slot : ∀ i g v, look K i = some (g, v) → a.tmps[i]? = some (bif g then v else undef)

/-- An operand's value, where the guard b holds. -/
def Ev (n : Nat) (b : Bool) (K : KL) (x : Operand) (v : Value) : Prop := ∀ a, b = true → Kn n K a → a.eval x = v

def EvL (n : Nat) (b : Bool) (K : KL) (xs : List Operand) (vs : List Value) : Prop := ∀ a, b = true → Kn n K a → xs.map a.eval = vs

section kn
variable {n : Nat} {K : KL} {a : Act} {b : Bool}

theorem Ev.t {t : Nat} {v : Value} (h : look K t = some (true, v)) : Ev n b K (.tmp t) v := fun a _ hk => by
  simp [Act.eval, hk.slot t true v h]
theorem Ev.g {t : Nat} {v : Value} (h : look K t = some (b, v)) : Ev n b K (.tmp t) v := fun a hb hk => by
  simp [Act.eval, hk.slot t b v h, hb]
theorem Ev.c {v : Value} : Ev n b K (.const v) v := fun _ _ _ => rfl
theorem Ev.f {f : Nat} : Ev n b K (.func f) (.func (.func f) #[] #[]) := fun _ _ _ => rfl
theorem Ev.gl {g : Nat} : Ev n b K (.global g) (.pointer (some ⟨g, 0, none⟩)) := fun _ _ _ => rfl
theorem EvL.nil : EvL n b K [] [] := fun _ _ _ => rfl
theorem EvL.cons {x : Operand} {xs : List Operand} {v : Value} {vs : List Value} (h : Ev n b K x v) (h' : EvL n b K xs vs) : EvL n b K (x :: xs) (v :: vs) := fun a hb hk => by
  simp only [List.map_cons, h a hb hk, h' a hb hk]
theorem Ev.weaken {x : Operand} {v : Value} (h : Ev n true K x v) : Ev n b K x v := fun a _ hk => h a rfl hk

theorem Kn.putg (h : Kn n K a) {d : Nat} (hd : Nat.blt d n = true) (g : Bool) (v : Value) : Kn n ((d, g, v) :: K) (a.put (some d) (bif g then v else undef)) := by
  refine ⟨h.defers, by simp [Act.put, h.size], fun i g' u hu => ?_⟩
  have hdn : d < n := by simpa [Nat.blt_eq] using hd
  unfold look at hu
  by_cases hi : i = d
  · subst hi
    simp only [Nat.beq_refl, cond_true, Option.some.injEq, Prod.mk.injEq] at hu
    obtain ⟨rfl, rfl⟩ := hu
    simp [Act.put, h.size, hdn]
  · have : Nat.beq i d = false := by simpa [Nat.beq_eq_true_eq, ← Bool.not_eq_true] using hi
    simp only [this, cond_false] at hu
    simp only [Act.put]
    rw [Array.getElem?_setIfInBounds_ne (fun e => hi e.symm)]
    exact h.slot i g' u hu

theorem Kn.put (h : Kn n K a) {d : Nat} (hd : Nat.blt d n = true) (v : Value) : Kn n ((d, true, v) :: K) (a.put (some d) v) := h.putg hd true v

theorem Kn.putNone (h : Kn n K a) (v : Value) : Kn n K (a.put none v) := h

/-- What the slots of K' are to hold, they hold (but for those of sn). -/
def Fits (sn : List Nat) (K : KL) : KL → Prop
  | [] => True
  | (i, g, v) :: r => (List.elem i sn = true ∨ look K i = some (g, v)) ∧ Fits (i :: sn) K r

theorem Fits.nil {sn : List Nat} {K : KL} : Fits sn K [] := trivial
theorem Fits.cons {sn : List Nat} {K r : KL} {i : Nat} {g : Bool} {v : Value} (h : Fw.look K i = some (g, v)) (h' : Fits (i :: sn) K r) : Fits sn K ((i, g, v) :: r) := ⟨.inr h, h'⟩
theorem Fits.skip {sn : List Nat} {K r : KL} {i : Nat} {g : Bool} {v : Value} (h : List.elem i sn = true) (h' : Fits (i :: sn) K r) : Fits sn K ((i, g, v) :: r) := ⟨.inl h, h'⟩

theorem Fits.look {K : KL} : ∀ {K' : KL} {sn : List Nat}, Fits sn K K' → ∀ i v, List.elem i sn = false → Fw.look K' i = some v → Fw.look K i = some v
  | [], _, _, i, v, _, h => by simp [Fw.look] at h
  | (j, g, u) :: r, sn, hf, i, v, hn, h => by
    obtain ⟨h1, h2⟩ := hf
    unfold Fw.look at h
    by_cases hi : i = j
    · subst hi
      simp only [Nat.beq_refl, cond_true, Option.some.injEq] at h
      rw [← h]
      rcases h1 with h1 | h1
      · rw [h1] at hn; cases hn
      · exact h1
    · have : Nat.beq i j = false := by simpa [Nat.beq_eq_true_eq, ← Bool.not_eq_true] using hi
      simp only [this, cond_false] at h
      refine Fits.look h2 i v ?_ h
      have hne : (i == j) = false := by simpa using hi
      simp only [List.elem, hne]
      exact hn

theorem Kn.fits (h : Kn n K a) {K' : KL} (hf : Fits [] K K') : Kn n K' a := ⟨h.defers, h.size, fun i g v hv => h.slot i g v (hf.look i (g, v) rfl hv)⟩
end kn

/-- Below B a world is as it was; it has grown, and has drawn no less. -/
structure Bel (B : Nat) (w w' : World) : Prop extends Below B w w' where
  drawn : w.drawn ≤ w'.drawn

section bel
variable {B B' : Nat} {a b c : World}
theorem Bel.refl (B : Nat) (w : World) : Bel B w w := ⟨Below.refl B w, Nat.le_refl _⟩
theorem Bel.trans (h : Bel B a b) (k : Bel B b c) : Bel B a c := ⟨h.toBelow.trans k.toBelow, Nat.le_trans h.drawn k.drawn⟩
theorem Bel.mono (h : Bel B a b) (hB : B' ≤ B) : Bel B' a b := ⟨h.toBelow.mono hB, h.drawn⟩
theorem Bel.alloc (h : Bel B a b) (hb : B ≤ b.heap.size) (o : Obj) : Bel B a (b.alloc o) := ⟨h.toBelow.alloc hb o, h.drawn⟩
theorem Bel.drew (h : Bel B a b) : Bel B a b.drew := ⟨h.toBelow.drew, Nat.le_trans h.drawn (Nat.le_succ _)⟩
/-- Where nothing that was there is turned: new blocks and draws, no more. -/
theorem Bel.grows (h : Bel a.heap.size a b) : ∃ q os', b = Go.Sort.grow (a.drewN q) os' := by
  refine ⟨b.drawn - a.drawn, b.heap.extract a.heap.size b.heap.size, ?_⟩
  have hh : b.heap = a.heap ++ b.heap.extract a.heap.size b.heap.size := by
    have hs := h.size
    apply Array.ext
    · simp; omega
    · intro i h1 h2
      rw [Array.getElem_append]
      split
      · rename_i hlt
        have := h.block i hlt
        rw [Array.getElem?_eq_getElem h1, Array.getElem?_eq_getElem hlt] at this
        simpa using this
      · rw [Array.getElem_extract]
        congr 1
        omega
  obtain ⟨h1, h2, h3, _, _⟩ := h.toBelow
  have h4 := h.drawn
  cases a; cases b
  simp only at h1 h2 h3 h4 hh ⊢
  subst h1; subst h2; subst h3
  simp only [Go.Sort.grow, World.drewN, World.mk.injEq, and_true, true_and]
  exact ⟨hh, by omega⟩
end bel

/-- Nothing that was there is turned but the blocks of S. -/
structure Turned (S : Nat → Prop) (w w' : World) : Prop where
  os : w'.os = w.os
  tape : w'.tape = w.tape
  output : w'.output = w.output
  size : w.heap.size ≤ w'.heap.size
  block : ∀ k, k < w.heap.size → ¬ S k → w'.heap[k]? = w.heap[k]?
  drawn : w.drawn ≤ w'.drawn
theorem Turned.bel {S : Nat → Prop} {B : Nat} {w w' : World} (h : Turned S w w') (hB : B ≤ w.heap.size) (hS : ∀ k, S k → B ≤ k) : Bel B w w' :=
  ⟨⟨h.os, h.tape, h.output, h.size, fun k hk => h.block k (Nat.lt_of_lt_of_le hk hB) fun e => by have := hS k e; omega⟩, h.drawn⟩
theorem Turned.mono {S S' : Nat → Prop} {w w' : World} (h : Turned S w w') (hS : ∀ k, S k → S' k) : Turned S' w w' :=
  ⟨h.os, h.tape, h.output, h.size, fun k hk hn => h.block k hk fun e => hn (hS k e), h.drawn⟩

/-- The slice (A, n, cap) owns its row: it has no room at all, or it begins at the head of a block from B on, whose first cells are xs. -/
def Owns (w : World) (B : Nat) (e size : Nat) (A : Option Addr) (n cap : Nat) (xs : List Value) : Prop :=
  xs.length = n * size ∧ ((n = 0 ∧ cap = 0) ∨ ∃ g cur, A = some ⟨g, 0, none⟩ ∧ 0 < cap ∧ B ≤ g ∧ w.heap[g]? = some (.cells cur e (0, 0)) ∧ n ≤ cap ∧ cap ≤ maxLen ∧ cur.size = cap * size ∧ cur.toList.take (n * size) = xs)

/-- A part of the memory that the call has made itself: a block known whole; a slice that owns its row; blocks that are as they were in some world ahead (they are read alone). -/
inductive Chunk where
  | blk (b : Nat) (o : Obj)
  | row (e size : Nat) (A : Option Addr) (n cap : Nat) (xs : List Value)
  | ice (w1 : World) (bs : List Nat)

def Chunk.holds (B : Nat) (w : World) : Chunk → Prop
  | .blk b o => B ≤ b ∧ w.heap[b]? = some o
  | .row e size A n cap xs => Owns w B e size A n cap xs
  | .ice w1 bs => ∀ b ∈ bs, B ≤ b ∧ b < w.heap.size ∧ w.heap[b]? = w1.heap[b]?

def Chunk.own : Chunk → Nat → Prop
  | .blk b _ => fun x => x = b
  | .row _ _ A _ cap _ => fun x => cap ≠ 0 ∧ A.map (·.block) = some x
  | .ice _ bs => fun x => x ∈ bs

def Chunk.apart (c d : Chunk) : Prop := ∀ b, c.own b → ¬ d.own b

theorem Chunk.apart.symm {c d : Chunk} (h : c.apart d) : d.apart c := fun b hd hc => h b hc hd

theorem Chunk.holds.lt {B : Nat} {w : World} {c : Chunk} (h : c.holds B w) {b : Nat} (hb : c.own b) : B ≤ b ∧ b < w.heap.size := by
  cases c with
  | blk b' o =>
    obtain ⟨h1, h2⟩ := h
    simp only [Chunk.own] at hb
    subst hb
    exact ⟨h1, (Array.getElem?_eq_some_iff.1 h2).1⟩
  | row e size A n cap xs =>
    obtain ⟨h0, hb⟩ := hb
    rcases h.2 with ⟨_, hc⟩ | ⟨g, cur, rfl, hp, hB, hg, _⟩
    · exact absurd hc h0
    · simp only [Option.map_some, Option.some.injEq] at hb
      subst hb
      exact ⟨hB, (Array.getElem?_eq_some_iff.1 hg).1⟩
  | ice w1 bs => exact ⟨(h b hb).1, (h b hb).2.1⟩

/-- A chunk holds on while its own blocks are as they were. -/
theorem Chunk.holds.keep {B : Nat} {w w' : World} {c : Chunk} (h : c.holds B w) (hs : w.heap.size ≤ w'.heap.size) (hk : ∀ b, c.own b → w'.heap[b]? = w.heap[b]?) : c.holds B w' := by
  cases c with
  | blk b o => exact ⟨h.1, (hk b rfl).trans h.2⟩
  | row e size A n cap xs =>
    refine ⟨h.1, ?_⟩
    rcases h.2 with hn | ⟨g, cur, rfl, hp, hb, hgg, rest⟩
    · exact .inl hn
    · exact .inr ⟨g, cur, rfl, hp, hb, (hk g ⟨Nat.pos_iff_ne_zero.1 hp, rfl⟩).trans hgg, rest⟩
  | ice w1 bs => exact fun b hb => ⟨(h b hb).1, Nat.lt_of_lt_of_le (h b hb).2.1 hs, (hk b hb).trans (h b hb).2.2⟩

theorem Chunk.holds.mono {B B' : Nat} {w : World} {c : Chunk} (h : c.holds B w) (hB : B' ≤ B) : c.holds B' w := by
  cases c with
  | blk b o => exact ⟨Nat.le_trans hB h.1, h.2⟩
  | row e size A n cap xs =>
    refine ⟨h.1, ?_⟩
    rcases h.2 with hn | ⟨g, cur, rfl, hp, hb, rest⟩
    · exact .inl hn
    · exact .inr ⟨g, cur, rfl, hp, Nat.le_trans hB hb, rest⟩
  | ice w1 bs => exact fun b hb => ⟨Nat.le_trans hB (h b hb).1, (h b hb).2⟩

/-- What is known of a world in the midst of a call that began in w0: below w0's end it is as w0 was; the chunks of L lie there, each apart from the others. -/
structure Wd (w0 : World) (L : List Chunk) (w : World) : Prop where
  below : Bel w0.heap.size w0 w
  all : ∀ c ∈ L, c.holds w0.heap.size w
  apart : L.Pairwise Chunk.apart

section wd
variable {w0 : World} {L : List Chunk} {w w' : World}

theorem Wd.start (w : World) : Wd w [] w := ⟨Bel.refl _ _, (fun _ h => by cases h), List.Pairwise.nil⟩

theorem Wd.get (h : Wd w0 L w) {k : Nat} {c : Chunk} (hk : L[k]? = some c) : c.holds w0.heap.size w := h.all c (List.mem_of_getElem? hk)

theorem Wd.sub (h : Wd w0 L w) {L' : List Chunk} (hs : L'.Sublist L) : Wd w0 L' w :=
  ⟨h.below, fun c hc => h.all c (hs.subset hc), h.apart.sublist hs⟩

theorem Wd.perm (h : Wd w0 L w) {L' : List Chunk} (hp : L.Perm L') : Wd w0 L' w :=
  ⟨h.below, fun c hc => h.all c (hp.mem_iff.2 hc), (hp.pairwise_iff (fun h => h.symm)).1 h.apart⟩

/-- Whatever leaves every block that was there as it was. -/
theorem Wd.step (h : Wd w0 L w) (hb : Bel w.heap.size w w') : Wd w0 L w' :=
  ⟨h.below.trans (hb.mono h.below.size), fun c hc => (h.all c hc).keep hb.size fun b hbk => hb.block b ((h.all c hc).lt hbk).2, h.apart⟩

/-- .. and a chunk more, that lies in new memory. -/
theorem Wd.more (h : Wd w0 L w) (hb : Bel w.heap.size w w') {c : Chunk} (hc : c.holds w.heap.size w') : Wd w0 (c :: L) w' := by
  have h' := h.step hb
  refine ⟨h'.below, fun d hd => ?_, List.Pairwise.cons (fun d hd b hcb hdb => ?_) h'.apart⟩
  · rcases List.mem_cons.1 hd with rfl | hd
    · exact hc.mono h.below.size
    · exact h'.all d hd
  · have h1 := (hc.lt hcb).1
    have h2 := ((h.all d hd).lt hdb).2
    omega

theorem Wd.drew (h : Wd w0 L w) : Wd w0 L w.drew := h.step (Bel.refl _ _).drew
theorem Wd.alloc (h : Wd w0 L w) (o : Obj) : Wd w0 (.blk w.heap.size o :: L) (w.alloc o) :=
  h.more ((Bel.refl _ _).alloc (Nat.le_refl _) o) ⟨Nat.le_refl _, heap_alloc_new w o⟩

/-- A chunk that has no block of its own. -/
theorem Wd.bare (h : Wd w0 L w) {c : Chunk} (hc : c.holds w0.heap.size w) (ho : ∀ b, ¬ c.own b) : Wd w0 (c :: L) w :=
  ⟨h.below, fun d hd => by rcases List.mem_cons.1 hd with rfl | hd; exact hc; exact h.all d hd, List.Pairwise.cons (fun d _ b hb _ => ho b hb) h.apart⟩

/-- One chunk is changed, in its own blocks alone (or it moves to new memory); the others are as they were. -/
theorem Wd.change (h : Wd w0 L w) {k : Nat} {c c' : Chunk} (hk : L[k]? = some c) (hg : Turned c.own w w') (hc : c'.holds w0.heap.size w')
    (ho : ∀ b, c'.own b → c.own b ∨ w.heap.size ≤ b) : Wd w0 (L.set k c') w' := by
  have hlt : k < L.length := (List.getElem?_eq_some_iff.1 hk).1
  have hkk : L[k] = c := (List.getElem?_eq_some_iff.1 hk).2
  have hcB : ∀ b, c.own b → w0.heap.size ≤ b := fun b hb => ((h.get hk).lt hb).1
  have hap := List.pairwise_iff_getElem.1 h.apart
  have keep : ∀ i (hi : i < L.length), i ≠ k → L[i].holds w0.heap.size w' := fun i hi hne => by
    have hi' := h.all L[i] (List.getElem_mem hi)
    refine hi'.keep hg.size fun b hb => hg.block b (hi'.lt hb).2 (fun e => ?_)
    rcases Nat.lt_or_ge i k with hlt' | hge
    · exact hap i k hi hlt hlt' b hb (by rw [hkk]; exact e)
    · exact hap k i hlt hi (by omega) b (by rw [hkk]; exact e) hb
  refine ⟨h.below.trans (hg.bel h.below.size hcB), fun d hd => ?_, ?_⟩
  · obtain ⟨i, hi, rfl⟩ := List.getElem_of_mem hd
    rw [List.getElem_set]
    split
    · exact hc
    · exact keep i (by simpa using hi) (fun e => by omega)
  · refine List.pairwise_iff_getElem.2 fun i j hi hj hij => ?_
    have hi' : i < L.length := by simpa using hi
    have hj' : j < L.length := by simpa using hj
    have new : ∀ m (hm : m < L.length), m ≠ k → Chunk.apart c' L[m] := fun m hm hne b hb hb' => by
      rcases ho b hb with hb | hb
      · rcases Nat.lt_or_ge m k with hlt' | hge
        · exact hap m k hm hlt hlt' b hb' (by rw [hkk]; exact hb)
        · exact hap k m hlt hm (by omega) b (by rw [hkk]; exact hb) hb'
      · have h2 := ((h.all L[m] (List.getElem_mem hm)).lt hb').2
        omega
    rw [List.getElem_set, List.getElem_set]
    split
    · rename_i e
      rw [if_neg (by omega)]
      exact new j hj' (by omega)
    · split
      · exact (new i hi' (by omega)).symm
      · exact hap i j hi' hj' hij

/-- A chunk is told in other words. -/
theorem Wd.retell (h : Wd w0 L w) {k : Nat} {c c' : Chunk} (hk : L[k]? = some c) (hc : c'.holds w0.heap.size w) (ho : ∀ b, c'.own b → c.own b) : Wd w0 (L.set k c') w :=
  h.change hk ⟨rfl, rfl, rfl, Nat.le_refl _, fun _ _ _ => rfl, Nat.le_refl _⟩ hc fun b hb => .inl (ho b hb)
/-- Two chunks become blocks that are read alone from here on. -/
theorem Wd.freeze2 {c d : Chunk} {bs : List Nat} (h : Wd w0 (c :: d :: L) w) (hbs : ∀ b ∈ bs, c.own b ∨ d.own b) : Wd w0 (.ice w bs :: L) w := by
  obtain ⟨h1, h2, h3⟩ := h
  rw [List.pairwise_cons] at h3
  obtain ⟨h4, h5⟩ := h3
  rw [List.pairwise_cons] at h5
  refine ⟨h1, fun x hx => ?_, List.Pairwise.cons (fun x hx b hb hxb => ?_) h5.2⟩
  · rcases List.mem_cons.1 hx with rfl | hx
    · intro b hb
      rcases hbs b hb with hb | hb
      · exact ⟨((h2 c (by simp)).lt hb).1, ((h2 c (by simp)).lt hb).2, rfl⟩
      · exact ⟨((h2 d (by simp)).lt hb).1, ((h2 d (by simp)).lt hb).2, rfl⟩
    · exact h2 x (by simp [hx])
  · rcases hbs b hb with hb | hb
    · exact h4 x (by simp [hx]) b hb hxb
    · exact h5.1 x hx b hb hxb
end wd

/-- What is known in the midst of a call: of the frame, of the world. -/
structure St (n : Nat) (w0 : World) (K : KL) (L : List Chunk) (a : Act) (w : World) : Prop where
  kn : Kn n K a
  wd : Wd w0 L w


section code
variable {P : Program} {Q : Exit → Act → World → Prop} {n : Nat} {w0 : World} {K : KL} {L : List Chunk} {a : Act} {w : World}

theorem enter {f : FuncId} {fn : Func} {c : Code} {args : List Value} {w : World} {R : Ending → World → Prop} (hf : P.funcs[f]? = some fn) (hb : fn.body = some c)
    {n : Nat} {K : KL} (hn : fn.ntmps = n) (hsz : Nat.ble args.length n = true) (hK : ∀ i g v, look K i = some (g, v) → g = true ∧ args[i]? = some v)
    (h : ∀ a, St n w K [] a w → c.wp P (bodyPost P fn R) a w) : Calls P f args.toArray w R := by
  refine calls_of_wp hf hb (h _ ⟨⟨rfl, ?_, fun i g v hv => ?_⟩, Wd.start w⟩)
  · have := Nat.le_of_ble_eq_true hsz
    simp [hn]; omega
  · obtain ⟨rfl, h1⟩ := hK i g v hv
    have hi : i < args.length := (List.getElem?_eq_some_iff.1 h1).1
    simp [Array.getElem?_append, hi, (List.getElem?_eq_some_iff.1 h1).2]

section enters
def argsK : Nat → List Value → KL
  | _, [] => []
  | i, v :: vs => (i, true, v) :: argsK (i + 1) vs
theorem argsK_ok : ∀ (vs : List Value) (i j : Nat) (g : Bool) (v : Value), look (argsK i vs) j = some (g, v) → g = true ∧ i ≤ j ∧ vs[j - i]? = some v
  | [], i, j, g, v, h => by simp [argsK, look] at h
  | u :: us, i, j, g, v, h => by
    unfold argsK look at h
    by_cases hj : j = i
    · subst hj
      simp only [Nat.beq_refl, cond_true, Option.some.injEq, Prod.mk.injEq] at h
      obtain ⟨rfl, rfl⟩ := h
      exact ⟨rfl, Nat.le_refl _, by simp⟩
    · have : Nat.beq j i = false := by simpa [Nat.beq_eq_true_eq, ← Bool.not_eq_true] using hj
      simp only [this, cond_false] at h
      obtain ⟨h1, h2, h3⟩ := argsK_ok us (i + 1) j g v h
      refine ⟨h1, by omega, ?_⟩
      rw [show j - i = (j - (i + 1)) + 1 by omega]
      simpa using h3
theorem enterL {f : FuncId} {fn : Func} {c : Code} {args : List Value} {w : World} {R : Ending → World → Prop} (hf : P.funcs[f]? = some fn) (hb : fn.body = some c)
    {n : Nat} (hn : fn.ntmps = n) (hsz : Nat.ble args.length n = true) (h : ∀ a, St n w (argsK 0 args) [] a w → c.wp P (bodyPost P fn R) a w) : Calls P f args.toArray w R :=
  enter hf hb hn hsz (fun i g v hv => have h := argsK_ok args 0 i g v hv; ⟨h.1, by simpa using h.2.2⟩) h
variable {f : FuncId} {fn : Func} {c : Code} {R : Ending → World → Prop} {v0 v1 v2 v3 v4 v5 v6 v7 v8 : Value}
theorem enter0 (hf : P.funcs[f]? = some fn) (hb : fn.body = some c) {n : Nat} (hn : fn.ntmps = n) (hsz : Nat.ble 0 n = true)
    (h : ∀ a, St n w [] [] a w → c.wp P (bodyPost P fn R) a w) : Calls P f #[] w R := enterL (args := []) hf hb hn hsz h
theorem enter1 (hf : P.funcs[f]? = some fn) (hb : fn.body = some c) {n : Nat} (hn : fn.ntmps = n) (hsz : Nat.ble 1 n = true)
    (h : ∀ a, St n w [(0, true, v0)] [] a w → c.wp P (bodyPost P fn R) a w) : Calls P f #[v0] w R := enterL (args := [v0]) hf hb hn hsz h
theorem enter2 (hf : P.funcs[f]? = some fn) (hb : fn.body = some c) {n : Nat} (hn : fn.ntmps = n) (hsz : Nat.ble 2 n = true)
    (h : ∀ a, St n w [(0, true, v0), (1, true, v1)] [] a w → c.wp P (bodyPost P fn R) a w) : Calls P f #[v0, v1] w R := enterL (args := [v0, v1]) hf hb hn hsz h
theorem enter3 (hf : P.funcs[f]? = some fn) (hb : fn.body = some c) {n : Nat} (hn : fn.ntmps = n) (hsz : Nat.ble 3 n = true)
    (h : ∀ a, St n w [(0, true, v0), (1, true, v1), (2, true, v2)] [] a w → c.wp P (bodyPost P fn R) a w) : Calls P f #[v0, v1, v2] w R := enterL (args := [v0, v1, v2]) hf hb hn hsz h
theorem enter4 (hf : P.funcs[f]? = some fn) (hb : fn.body = some c) {n : Nat} (hn : fn.ntmps = n) (hsz : Nat.ble 4 n = true)
    (h : ∀ a, St n w [(0, true, v0), (1, true, v1), (2, true, v2), (3, true, v3)] [] a w → c.wp P (bodyPost P fn R) a w) : Calls P f #[v0, v1, v2, v3] w R := enterL (args := [v0, v1, v2, v3]) hf hb hn hsz h
theorem enter5 (hf : P.funcs[f]? = some fn) (hb : fn.body = some c) {n : Nat} (hn : fn.ntmps = n) (hsz : Nat.ble 5 n = true)
    (h : ∀ a, St n w [(0, true, v0), (1, true, v1), (2, true, v2), (3, true, v3), (4, true, v4)] [] a w → c.wp P (bodyPost P fn R) a w) : Calls P f #[v0, v1, v2, v3, v4] w R := enterL (args := [v0, v1, v2, v3, v4]) hf hb hn hsz h
theorem enter6 (hf : P.funcs[f]? = some fn) (hb : fn.body = some c) {n : Nat} (hn : fn.ntmps = n) (hsz : Nat.ble 6 n = true)
    (h : ∀ a, St n w [(0, true, v0), (1, true, v1), (2, true, v2), (3, true, v3), (4, true, v4), (5, true, v5)] [] a w → c.wp P (bodyPost P fn R) a w) : Calls P f #[v0, v1, v2, v3, v4, v5] w R := enterL (args := [v0, v1, v2, v3, v4, v5]) hf hb hn hsz h
theorem enter7 (hf : P.funcs[f]? = some fn) (hb : fn.body = some c) {n : Nat} (hn : fn.ntmps = n) (hsz : Nat.ble 7 n = true)
    (h : ∀ a, St n w [(0, true, v0), (1, true, v1), (2, true, v2), (3, true, v3), (4, true, v4), (5, true, v5), (6, true, v6)] [] a w → c.wp P (bodyPost P fn R) a w) : Calls P f #[v0, v1, v2, v3, v4, v5, v6] w R := enterL (args := [v0, v1, v2, v3, v4, v5, v6]) hf hb hn hsz h
theorem enter8 (hf : P.funcs[f]? = some fn) (hb : fn.body = some c) {n : Nat} (hn : fn.ntmps = n) (hsz : Nat.ble 8 n = true)
    (h : ∀ a, St n w [(0, true, v0), (1, true, v1), (2, true, v2), (3, true, v3), (4, true, v4), (5, true, v5), (6, true, v6), (7, true, v7)] [] a w → c.wp P (bodyPost P fn R) a w) : Calls P f #[v0, v1, v2, v3, v4, v5, v6, v7] w R := enterL (args := [v0, v1, v2, v3, v4, v5, v6, v7]) hf hb hn hsz h
end enters

theorem st_cond {c : Operand} {x y : Code} {b : Bool} (S : St n w0 K L a w) (hc : Ev n true K c (.bool b)) (ht : b = true → x.wp P Q a w) (hf : b = false → y.wp P Q a w) : (Code.cond c x y).wp P Q a w :=
  wp_cond_split (hc a rfl S.kn) ht hf
theorem st_if {c : Operand} {x y : Code} {p : Prop} {_ : Decidable p} (S : St n w0 K L a w) (hc : Ev n true K c (.bool (decide p))) (ht : p → x.wp P Q a w) (hf : ¬p → y.wp P Q a w) : (Code.cond c x y).wp P Q a w :=
  wp_cond_split (hc a rfl S.kn) (fun h => ht (of_decide_eq_true h)) (fun h => hf (of_decide_eq_false h))
theorem st_then {c : Operand} {x y : Code} (S : St n w0 K L a w) (hc : Ev n true K c (.bool true)) (ht : x.wp P Q a w) : (Code.cond c x y).wp P Q a w := wp_cond_true (hc a rfl S.kn) ht
theorem st_else {c : Operand} {x y : Code} (S : St n w0 K L a w) (hc : Ev n true K c (.bool false)) (hf : y.wp P Q a w) : (Code.cond c x y).wp P Q a w := wp_cond_false (hc a rfl S.kn) hf

/-- A loop, its invariant over a ghost. -/
theorem st_loop {c : Code} {X : Type} (I : X → Act → World → Prop) (μ : X → Nat) (x0 : X) (h0 : I x0 a w)
    (round : ∀ x a w, I x a w → c.wp P (Exit.then (fun a' w' => ∃ x', I x' a' w' ∧ μ x' < μ x) Q) a w) : (Code.loop c).wp P Q a w := by
  intro b k cs
  have key : ∀ m x a w, μ x = m → I x a w → ∃ e a' w', Q e a' w' ∧ Arrives P (lone (b.at a (.code c :: .inLoop c :: k)) cs w) b k cs e a' w' := by
    intro m
    induction m using Nat.strongRecOn with
    | _ m ih =>
      intro x a w hm hI
      obtain ⟨e, a₁, w₁, hq, harr⟩ := round x a w hI b (.inLoop c :: k) cs
      cases e with
      | normal =>
        obtain ⟨x', hI₁, hlt⟩ := hq
        obtain ⟨e₂, a₂, w₂, hq₂, harr₂⟩ := ih (μ x') (hm ▸ hlt) x' a₁ w₁ rfl hI₁
        exact ⟨e₂, a₂, w₂, hq₂, .of_steps (Steps.trans harr (.one step_inLoop)) harr₂⟩
      | exit id => exact ⟨_, a₁, w₁, hq, .pass (x := .inLoop c) rfl (fun _ _ => .inl (by simp)) harr⟩
      | goto l => exact ⟨_, a₁, w₁, hq, .pass (x := .inLoop c) rfl (fun _ _ => .inl (by simp)) harr⟩
      | ret => exact ⟨_, a₁, w₁, hq, .pass (x := .inLoop c) rfl (fun _ _ => .inl (by simp)) harr⟩
      | panic ch => exact ⟨_, a₁, w₁, hq, .pass (x := .inLoop c) rfl (fun _ _ => .inl (by simp)) harr⟩
      | outgrown => exact ⟨_, a₁, w₁, hq, .pass (x := .inLoop c) rfl (fun _ _ => .inl (by simp)) harr⟩
  obtain ⟨e, a', w', hq, harr⟩ := key _ x0 a w rfl h0
  exact ⟨e, a', w', hq, .of_steps (.one step_loop) harr⟩

/-! ### Operations that yield one value and leave the chunks as they are -/

/-- In whatever frame and world of which this is known, where the guard holds, the operation yields v; a call may lay new memory. -/
def Ys (P : Program) (o : Oper) (n : Nat) (K : KL) (w0 : World) (L : List Chunk) (b : Bool) (v : Value) : Prop :=
  ∀ a w, b = true → Kn n K a → Wd w0 L w → Oper.quietUpon P (Wd w0 L) w v ((execOp a.eval o).run P w)

/-- .. and nothing else at all: it is a plain operation, no call. -/
def Yr (P : Program) (o : Oper) (n : Nat) (K : KL) (w0 : World) (L : List Chunk) (b : Bool) (v : Value) : Prop :=
  ∀ a w, b = true → Kn n K a → Wd w0 L w → (execOp a.eval o).run P w = .ok (.value v) w
theorem Yr.ys {o : Oper} {b : Bool} {v : Value} (h : Yr P o n K w0 L b v) : Ys P o n K w0 L b v := fun a w hb hk hw => by
  rw [h a w hb hk hw]; exact ⟨rfl, rfl⟩

theorem Ys.wp {o : Oper} {v : Value} (hy : Ys P o n K w0 L true v) (S : St n w0 K L a w) {K' : Act → World → Prop} (h : ∀ w', Wd w0 L w' → K' (a.put o.dst v) w') : o.wp P a w K' Q := by
  have h3 := hy a w rfl S.kn S.wd
  unfold Oper.wp
  generalize (execOp a.eval o).run P w = r at *
  cases r with
  | ok x w' =>
    cases x <;> simp only [Oper.quietUpon] at h3 <;> simp only [Oper.upon]
    case value u => obtain ⟨rfl, rfl⟩ := h3; exact h _ S.wd
    case skip => obtain ⟨rfl, rfl⟩ := h3; exact h _ S.wd
    case enter f args =>
      obtain ⟨rfl, hc⟩ := h3
      exact hc.mono fun e w'' ⟨he, hw''⟩ => by subst he; exact h _ hw''
  | halt x w' => simp only [Oper.quietUpon] at h3

section list
variable {ops : Array Oper} {rest : List Oper} {op : Op} {ty : TypeId} {pos : String} {aft : Array Edge} {v : Value} {d t j : Nat} {p : Bool}

theorem st_nil (h : Q .normal a w) : wpList P ops Q [] a w := h

/-- One operation that changes something; what follows stands behind it. -/
theorem st_m {d : Option Tmp} (h : Oper.wp P ⟨d, op, ty, pos, aft, none⟩ a w (wpList P ops Q rest) Q) : wpList P ops Q (⟨d, op, ty, pos, aft, none⟩ :: rest) a w :=
  wpList_plain rfl fun _ hK => Oper.wp_mono hK h

theorem st_y (S : St n w0 K L a w) (hy : Ys P ⟨some d, op, ty, pos, aft, none⟩ n K w0 L true v) (hd : Nat.blt d n = true)
    (next : ∀ a w, St n w0 ((d, true, v) :: K) L a w → wpList P ops Q rest a w) : wpList P ops Q (⟨some d, op, ty, pos, aft, none⟩ :: rest) a w :=
  st_m (hy.wp S fun _ hw => next _ _ ⟨S.kn.put hd v, hw⟩)

theorem st_y0 (S : St n w0 K L a w) (hy : Ys P ⟨none, op, ty, pos, aft, none⟩ n K w0 L true v)
    (next : ∀ a w, St n w0 K L a w → wpList P ops Q rest a w) : wpList P ops Q (⟨none, op, ty, pos, aft, none⟩ :: rest) a w :=
  st_m (hy.wp S fun _ hw => next _ _ ⟨S.kn, hw⟩)

theorem yielded_of {a : Act} {g b : Bool} (hk : Kn n K a) (hj : (ops[j]?).bind (·.dst) = some t) (hl : look K t = some (g, .bool b)) : yielded ops a.tmps j = bif g then some b else none := by
  unfold yielded
  rw [hj]
  simp only [Option.bind_some, hk.slot t g _ hl]
  cases g <;> simp [undef]

/-- An operation under a guard that holds where a slot holds true. -/
theorem st_yg (S : St n w0 K L a w) (hj : (ops[j]?).bind (·.dst) = some t) (hl : look K t = some (true, .bool p)) (hy : Ys P ⟨some d, op, ty, pos, aft, some (j, true)⟩ n K w0 L p v) (hd : Nat.blt d n = true)
    (next : ∀ a w, St n w0 ((d, p, v) :: K) L a w → wpList P ops Q rest a w) : wpList P ops Q (⟨some d, op, ty, pos, aft, some (j, true)⟩ :: rest) a w := by
  refine wpList_step fun K' hK => ?_
  have hyd := yielded_of S.kn hj hl
  cases p with
  | true =>
    rw [if_pos (by simp [Region.wanted, hyd])]
    exact hy.wp S fun _ hw => hK _ _ (next _ _ ⟨S.kn.putg hd true v, hw⟩)
  | false =>
    rw [if_neg (by simp [Region.wanted, hyd])]
    exact hK _ _ (next _ _ ⟨S.kn.putg hd false v, S.wd⟩)

/-- .. where it holds false. -/
theorem st_yf (S : St n w0 K L a w) (hj : (ops[j]?).bind (·.dst) = some t) (hl : look K t = some (true, .bool p)) (hy : Ys P ⟨some d, op, ty, pos, aft, some (j, false)⟩ n K w0 L (!p) v) (hd : Nat.blt d n = true)
    (next : ∀ a w, St n w0 ((d, !p, v) :: K) L a w → wpList P ops Q rest a w) : wpList P ops Q (⟨some d, op, ty, pos, aft, some (j, false)⟩ :: rest) a w := by
  refine wpList_step fun K' hK => ?_
  have hyd := yielded_of S.kn hj hl
  cases p with
  | false =>
    rw [if_pos (by simp [Region.wanted, hyd])]
    exact hy.wp S fun _ hw => hK _ _ (next _ _ ⟨S.kn.putg hd true v, hw⟩)
  | true =>
    rw [if_neg (by simp [Region.wanted, hyd])]
    exact hK _ _ (next _ _ ⟨S.kn.putg hd false v, S.wd⟩)

/-- .. under a guard that is itself guarded. -/
theorem st_yg2 {g : Bool} (S : St n w0 K L a w) (hj : (ops[j]?).bind (·.dst) = some t) (hl : look K t = some (g, .bool p)) (hy : Ys P ⟨some d, op, ty, pos, aft, some (j, true)⟩ n K w0 L (g && p) v) (hd : Nat.blt d n = true)
    (next : ∀ a w, St n w0 ((d, g && p, v) :: K) L a w → wpList P ops Q rest a w) : wpList P ops Q (⟨some d, op, ty, pos, aft, some (j, true)⟩ :: rest) a w := by
  refine wpList_step fun K' hK => ?_
  have hyd := yielded_of S.kn hj hl
  cases h : (g && p) with
  | true =>
    rw [h] at hy next
    simp only [Bool.and_eq_true] at h
    rw [if_pos (by simp [Region.wanted, hyd, h.1, h.2])]
    exact hy.wp S fun _ hw => hK _ _ (next _ _ ⟨S.kn.putg hd true v, hw⟩)
  | false =>
    rw [h] at next
    rw [if_neg (by cases g <;> simp_all [Region.wanted])]
    exact hK _ _ (next _ _ ⟨S.kn.putg hd false v, S.wd⟩)
theorem st_yf2 {g : Bool} (S : St n w0 K L a w) (hj : (ops[j]?).bind (·.dst) = some t) (hl : look K t = some (g, .bool p)) (hy : Ys P ⟨some d, op, ty, pos, aft, some (j, false)⟩ n K w0 L (g && !p) v) (hd : Nat.blt d n = true)
    (next : ∀ a w, St n w0 ((d, g && !p, v) :: K) L a w → wpList P ops Q rest a w) : wpList P ops Q (⟨some d, op, ty, pos, aft, some (j, false)⟩ :: rest) a w := by
  refine wpList_step fun K' hK => ?_
  have hyd := yielded_of S.kn hj hl
  cases h : (g && !p) with
  | true =>
    rw [h] at hy next
    simp only [Bool.and_eq_true, Bool.not_eq_true'] at h
    rw [if_pos (by simp [Region.wanted, hyd, h.1, h.2])]
    exact hy.wp S fun _ hw => hK _ _ (next _ _ ⟨S.kn.putg hd true v, hw⟩)
  | false =>
    rw [h] at next
    rw [if_neg (by cases g <;> simp_all [Region.wanted])]
    exact hK _ _ (next _ _ ⟨S.kn.putg hd false v, S.wd⟩)

/-! ### A region that draws its order, all of it operations that yield one value -/
theorem st_quiet {id : Nat} {l : List Oper} (S : St n w0 K L a w) (hm : P.follows .mixedOrders = true) (hB : Region.lexB .any l.toArray = true)
    (h : ∀ a, Kn n K a → wpQuiet P l.toArray (Wd w0 L) (fun a' => ∀ w', Wd w0 L w' → Q .normal a' w') l a) : (Code.region id l.toArray true).wp P Q a w :=
  wp_region_quiet (C := Wd w0 L) hm hB S.wd.drew (by simpa using h a S.kn)

variable {Z : Act → Prop} {C : World → Prop}
theorem q_nil (h : Z a) : wpQuiet P ops C Z [] a := h
theorem q_y (S : Kn n K a) (hy : Ys P ⟨some d, op, ty, pos, aft, none⟩ n K w0 L true v) (hd : Nat.blt d n = true)
    (next : ∀ a, Kn n ((d, true, v) :: K) a → wpQuiet P ops (Wd w0 L) Z rest a) : wpQuiet P ops (Wd w0 L) Z (⟨some d, op, ty, pos, aft, none⟩ :: rest) a := by
  refine wpQuiet_step fun K' hK => ?_
  rw [if_pos (by simp [Region.wanted])]
  exact ⟨v, fun w hw => hy a w rfl S hw, hK _ (next _ (S.put hd v))⟩
theorem q_y0 (S : Kn n K a) (hy : Ys P ⟨none, op, ty, pos, aft, none⟩ n K w0 L true v)
    (next : ∀ a, Kn n K a → wpQuiet P ops (Wd w0 L) Z rest a) : wpQuiet P ops (Wd w0 L) Z (⟨none, op, ty, pos, aft, none⟩ :: rest) a := by
  refine wpQuiet_step fun K' hK => ?_
  rw [if_pos (by simp [Region.wanted])]
  exact ⟨v, fun w hw => hy a w rfl S hw, hK _ (next _ S)⟩
theorem q_yg (S : Kn n K a) (hj : (ops[j]?).bind (·.dst) = some t) (hl : look K t = some (true, .bool p)) (hy : Ys P ⟨some d, op, ty, pos, aft, some (j, true)⟩ n K w0 L p v) (hd : Nat.blt d n = true)
    (next : ∀ a, Kn n ((d, p, v) :: K) a → wpQuiet P ops (Wd w0 L) Z rest a) : wpQuiet P ops (Wd w0 L) Z (⟨some d, op, ty, pos, aft, some (j, true)⟩ :: rest) a := by
  refine wpQuiet_step fun K' hK => ?_
  have hyd := yielded_of S hj hl
  cases p with
  | true =>
    rw [if_pos (by simp [Region.wanted, hyd])]
    exact ⟨v, fun w hw => hy a w rfl S hw, hK _ (next _ (S.putg hd true v))⟩
  | false =>
    rw [if_neg (by simp [Region.wanted, hyd])]
    exact hK _ (next _ (S.putg hd false v))
theorem q_yf (S : Kn n K a) (hj : (ops[j]?).bind (·.dst) = some t) (hl : look K t = some (true, .bool p)) (hy : Ys P ⟨some d, op, ty, pos, aft, some (j, false)⟩ n K w0 L (!p) v) (hd : Nat.blt d n = true)
    (next : ∀ a, Kn n ((d, !p, v) :: K) a → wpQuiet P ops (Wd w0 L) Z rest a) : wpQuiet P ops (Wd w0 L) Z (⟨some d, op, ty, pos, aft, some (j, false)⟩ :: rest) a := by
  refine wpQuiet_step fun K' hK => ?_
  have hyd := yielded_of S hj hl
  cases p with
  | false =>
    rw [if_pos (by simp [Region.wanted, hyd])]
    exact ⟨v, fun w hw => hy a w rfl S hw, hK _ (next _ (S.putg hd true v))⟩
  | true =>
    rw [if_neg (by simp [Region.wanted, hyd])]
    exact hK _ (next _ (S.putg hd false v))
theorem q_yg2 {g : Bool} (S : Kn n K a) (hj : (ops[j]?).bind (·.dst) = some t) (hl : look K t = some (g, .bool p)) (hy : Ys P ⟨some d, op, ty, pos, aft, some (j, true)⟩ n K w0 L (g && p) v) (hd : Nat.blt d n = true)
    (next : ∀ a, Kn n ((d, g && p, v) :: K) a → wpQuiet P ops (Wd w0 L) Z rest a) : wpQuiet P ops (Wd w0 L) Z (⟨some d, op, ty, pos, aft, some (j, true)⟩ :: rest) a := by
  refine wpQuiet_step fun K' hK => ?_
  have hyd := yielded_of S hj hl
  cases h : (g && p) with
  | true =>
    rw [h] at hy next
    simp only [Bool.and_eq_true] at h
    rw [if_pos (by simp [Region.wanted, hyd, h.1, h.2])]
    exact ⟨v, fun w hw => hy a w rfl S hw, hK _ (next _ (S.putg hd true v))⟩
  | false =>
    rw [h] at next
    rw [if_neg (by cases g <;> simp_all [Region.wanted])]
    exact hK _ (next _ (S.putg hd false v))
theorem q_yf2 {g : Bool} (S : Kn n K a) (hj : (ops[j]?).bind (·.dst) = some t) (hl : look K t = some (g, .bool p)) (hy : Ys P ⟨some d, op, ty, pos, aft, some (j, false)⟩ n K w0 L (g && !p) v) (hd : Nat.blt d n = true)
    (next : ∀ a, Kn n ((d, g && !p, v) :: K) a → wpQuiet P ops (Wd w0 L) Z rest a) : wpQuiet P ops (Wd w0 L) Z (⟨some d, op, ty, pos, aft, some (j, false)⟩ :: rest) a := by
  refine wpQuiet_step fun K' hK => ?_
  have hyd := yielded_of S hj hl
  cases h : (g && !p) with
  | true =>
    rw [h] at hy next
    simp only [Bool.and_eq_true, Bool.not_eq_true'] at h
    rw [if_pos (by simp [Region.wanted, hyd, h.1, h.2])]
    exact ⟨v, fun w hw => hy a w rfl S hw, hK _ (next _ (S.putg hd true v))⟩
  | false =>
    rw [h] at next
    rw [if_neg (by cases g <;> simp_all [Region.wanted])]
    exact hK _ (next _ (S.putg hd false v))
end list

/-! ### A region that draws its order and makes memory -/
section held
variable {ops : Array Oper} {Lr : List Chunk} {fuel i : Nat} {listed : Array Bool} {op : Op} {ty : TypeId} {pos : String} {aft : Array Edge} {gd : Option (Nat × Bool)} {v : Value} {d t j : Nat} {p : Bool} {md : Region.Mode}

theorem h_begin0 {id : Nat} (S : St n w0 K L a w) (hm : P.follows .mixedOrders = true)
    (h : ∀ a w, St n w0 K L a w → wpAnyH P .any ops Q (Wd w0 L) ops.size (Array.replicate ops.size false) a w) : (Code.region id ops true).wp P Q a w :=
  wp_region_held hm (h _ _ ⟨S.kn, S.wd.drew⟩)
theorem h_begin {id : Nat} (S : St n w0 K L a w) (hm : P.follows .mixedOrders = true) (Lr : List Chunk)
    (h : ∀ a w, St n w0 K L a w → wpAnyH P .any ops Q (Wd w0 Lr) ops.size (Array.replicate ops.size false) a w) : (Code.region id ops true).wp P Q a w :=
  wp_region_held hm (h _ _ ⟨S.kn, S.wd.drew⟩)

/-- A plain operation is taken first. -/
theorem h_take {o : Oper} {v : Value} (S : St n w0 K L a w) (hsub : Lr.Sublist L) (hi : ops[i]? = some o) (hs : Region.noSelect ops = true) (hf : Region.free md ops listed i = true) (hr : (Region.ready md ops listed).contains i = true)
    (hQ : ∀ c a w, Q (.panic c) (a.put o.dst v) w → Q (.panic c) a w) (hy : YieldsIf P ops (Wd w0 Lr) o v a)
    (h : wpAnyH P md ops Q (Wd w0 Lr) fuel (listed.setIfInBounds i true) (a.put o.dst v) w) : wpAnyH P md ops Q (Wd w0 Lr) (fuel + 1) listed a w :=
  wpAnyH_take hi hs hf hr hQ hy (S.wd.sub hsub) h

theorem h_y (S : St n w0 K L a w) (hsub : Lr.Sublist L) (hi : ops[i]? = some ⟨some d, op, ty, pos, aft, none⟩) (hs : Region.noSelect ops = true) (hf : Region.free md ops listed i = true) (hr : (Region.ready md ops listed).contains i = true)
    (hQ : ∀ v c a w, Q (.panic c) (a.put (some d) v) w → Q (.panic c) a w) (hy : Yr P ⟨some d, op, ty, pos, aft, none⟩ n K w0 Lr true v) (hd : Nat.blt d n = true)
    (next : ∀ a w, St n w0 ((d, true, v) :: K) L a w → wpAnyH P md ops Q (Wd w0 Lr) fuel (listed.setIfInBounds i true) a w) : wpAnyH P md ops Q (Wd w0 Lr) (fuel + 1) listed a w :=
  h_take S hsub hi hs hf hr (hQ v) (.inl ⟨rfl, fun w hw => hy a w rfl S.kn hw⟩) (next _ _ ⟨S.kn.put hd v, S.wd⟩)
theorem h_yg {g : Bool} (S : St n w0 K L a w) (hsub : Lr.Sublist L) (hi : ops[i]? = some ⟨some d, op, ty, pos, aft, some (j, true)⟩) (hs : Region.noSelect ops = true) (hf : Region.free md ops listed i = true) (hr : (Region.ready md ops listed).contains i = true)
    (hQ : ∀ v c a w, Q (.panic c) (a.put (some d) v) w → Q (.panic c) a w) (hj : (ops[j]?).bind (·.dst) = some t) (hl : look K t = some (g, .bool p)) (hy : Yr P ⟨some d, op, ty, pos, aft, some (j, true)⟩ n K w0 Lr (g && p) v) (hd : Nat.blt d n = true)
    (next : ∀ a w, St n w0 ((d, g && p, v) :: K) L a w → wpAnyH P md ops Q (Wd w0 Lr) fuel (listed.setIfInBounds i true) a w) : wpAnyH P md ops Q (Wd w0 Lr) (fuel + 1) listed a w := by
  have hyd := yielded_of S.kn hj hl
  cases h : (g && p) with
  | true =>
    rw [h] at hy next
    simp only [Bool.and_eq_true] at h
    exact h_take S hsub hi hs hf hr (hQ v) (.inl ⟨by simp [Region.wanted, hyd, h.1, h.2], fun w hw => hy a w rfl S.kn hw⟩) (next _ _ ⟨S.kn.putg hd true v, S.wd⟩)
  | false =>
    rw [h] at next
    exact h_take S hsub hi hs hf hr (hQ undef) (.inr ⟨by cases g <;> simp_all [Region.wanted], rfl⟩) (next _ _ ⟨S.kn.putg hd false v, S.wd⟩)
theorem h_yg1 (S : St n w0 K L a w) (hsub : Lr.Sublist L) (hi : ops[i]? = some ⟨some d, op, ty, pos, aft, some (j, true)⟩) (hs : Region.noSelect ops = true) (hf : Region.free md ops listed i = true) (hr : (Region.ready md ops listed).contains i = true)
    (hQ : ∀ v c a w, Q (.panic c) (a.put (some d) v) w → Q (.panic c) a w) (hj : (ops[j]?).bind (·.dst) = some t) (hl : look K t = some (true, .bool p)) (hy : Yr P ⟨some d, op, ty, pos, aft, some (j, true)⟩ n K w0 Lr p v) (hd : Nat.blt d n = true)
    (next : ∀ a w, St n w0 ((d, p, v) :: K) L a w → wpAnyH P md ops Q (Wd w0 Lr) fuel (listed.setIfInBounds i true) a w) : wpAnyH P md ops Q (Wd w0 Lr) (fuel + 1) listed a w :=
  h_yg (g := true) S hsub hi hs hf hr hQ hj hl hy hd next
theorem h_yf {g : Bool} (S : St n w0 K L a w) (hsub : Lr.Sublist L) (hi : ops[i]? = some ⟨some d, op, ty, pos, aft, some (j, false)⟩) (hs : Region.noSelect ops = true) (hf : Region.free md ops listed i = true) (hr : (Region.ready md ops listed).contains i = true)
    (hQ : ∀ v c a w, Q (.panic c) (a.put (some d) v) w → Q (.panic c) a w) (hj : (ops[j]?).bind (·.dst) = some t) (hl : look K t = some (g, .bool p)) (hy : Yr P ⟨some d, op, ty, pos, aft, some (j, false)⟩ n K w0 Lr (g && !p) v) (hd : Nat.blt d n = true)
    (next : ∀ a w, St n w0 ((d, g && !p, v) :: K) L a w → wpAnyH P md ops Q (Wd w0 Lr) fuel (listed.setIfInBounds i true) a w) : wpAnyH P md ops Q (Wd w0 Lr) (fuel + 1) listed a w := by
  have hyd := yielded_of S.kn hj hl
  cases h : (g && !p) with
  | true =>
    rw [h] at hy next
    simp only [Bool.and_eq_true, Bool.not_eq_true'] at h
    exact h_take S hsub hi hs hf hr (hQ v) (.inl ⟨by simp [Region.wanted, hyd, h.1, h.2], fun w hw => hy a w rfl S.kn hw⟩) (next _ _ ⟨S.kn.putg hd true v, S.wd⟩)
  | false =>
    rw [h] at next
    exact h_take S hsub hi hs hf hr (hQ undef) (.inr ⟨by cases g <;> simp_all [Region.wanted], rfl⟩) (next _ _ ⟨S.kn.putg hd false v, S.wd⟩)
theorem h_yf1 (S : St n w0 K L a w) (hsub : Lr.Sublist L) (hi : ops[i]? = some ⟨some d, op, ty, pos, aft, some (j, false)⟩) (hs : Region.noSelect ops = true) (hf : Region.free md ops listed i = true) (hr : (Region.ready md ops listed).contains i = true)
    (hQ : ∀ v c a w, Q (.panic c) (a.put (some d) v) w → Q (.panic c) a w) (hj : (ops[j]?).bind (·.dst) = some t) (hl : look K t = some (true, .bool p)) (hy : Yr P ⟨some d, op, ty, pos, aft, some (j, false)⟩ n K w0 Lr (!p) v) (hd : Nat.blt d n = true)
    (next : ∀ a w, St n w0 ((d, !p, v) :: K) L a w → wpAnyH P md ops Q (Wd w0 Lr) fuel (listed.setIfInBounds i true) a w) : wpAnyH P md ops Q (Wd w0 Lr) (fuel + 1) listed a w :=
  h_yf (g := true) S hsub hi hs hf hr hQ hj hl hy hd next
/-- The one operation that may come up. -/
theorem h_m (hi : ops[i]? = some ⟨some d, op, ty, pos, aft, none⟩) (hr : Region.ready md ops listed = [i])
    (h : Oper.wp P ⟨some d, op, ty, pos, aft, none⟩ a w (fun a' w' => Wd w0 Lr w' ∧ wpAnyH P md ops Q (Wd w0 Lr) fuel (listed.setIfInBounds i true) a' w') Q) : wpAnyH P md ops Q (Wd w0 Lr) (fuel + 1) listed a w :=
  wpAnyH_all hr (by simp) fun k hk => by
    simp only [List.mem_singleton] at hk
    subst hk
    unfold wpOp
    simp only [hi, Region.wanted, if_true]
    exact .inl h
theorem h_m0 (hi : ops[i]? = some ⟨none, op, ty, pos, aft, none⟩) (hr : Region.ready md ops listed = [i])
    (h : Oper.wp P ⟨none, op, ty, pos, aft, none⟩ a w (fun a' w' => Wd w0 Lr w' ∧ wpAnyH P md ops Q (Wd w0 Lr) fuel (listed.setIfInBounds i true) a' w') Q) : wpAnyH P md ops Q (Wd w0 Lr) (fuel + 1) listed a w :=
  wpAnyH_all hr (by simp) fun k hk => by
    simp only [List.mem_singleton] at hk
    subst hk
    unfold wpOp
    simp only [hi, Region.wanted, if_true]
    exact .inl h
/-- .. under a guard that holds, that does not hold. -/
theorem h_mg (S : St n w0 K L a w) (hi : ops[i]? = some ⟨some d, op, ty, pos, aft, some (j, p)⟩) (hr : Region.ready md ops listed = [i]) (hj : (ops[j]?).bind (·.dst) = some t) (hl : look K t = some (true, .bool p))
    (h : Oper.wp P ⟨some d, op, ty, pos, aft, some (j, p)⟩ a w (fun a' w' => Wd w0 Lr w' ∧ wpAnyH P md ops Q (Wd w0 Lr) fuel (listed.setIfInBounds i true) a' w') Q) : wpAnyH P md ops Q (Wd w0 Lr) (fuel + 1) listed a w :=
  wpAnyH_all hr (by simp) fun k hk => by
    simp only [List.mem_singleton] at hk
    subst hk
    have hyd := yielded_of S.kn hj hl
    unfold wpOp
    simp only [hi, Region.wanted, hyd, cond_true]
    simpa using Or.inl h
theorem h_skip {q : Bool} (S : St n w0 K L a w) (hsub : Lr.Sublist L) (hi : ops[i]? = some ⟨some d, op, ty, pos, aft, some (j, q)⟩) (hs : Region.noSelect ops = true) (hf : Region.free md ops listed i = true) (hr : (Region.ready md ops listed).contains i = true)
    (hQ : ∀ v c a w, Q (.panic c) (a.put (some d) v) w → Q (.panic c) a w) (hj : (ops[j]?).bind (·.dst) = some t) (hl : look K t = some (true, .bool p)) (hpq : q = !p) (hd : Nat.blt d n = true)
    (next : ∀ a w, St n w0 ((d, false, undef) :: K) L a w → wpAnyH P md ops Q (Wd w0 Lr) fuel (listed.setIfInBounds i true) a w) : wpAnyH P md ops Q (Wd w0 Lr) (fuel + 1) listed a w := by
  have hyd := yielded_of S.kn hj hl
  exact h_take S hsub hi hs hf hr (hQ undef) (.inr ⟨by subst hpq; cases p <;> simp_all [Region.wanted], rfl⟩) (next _ _ ⟨S.kn.putg hd false undef, S.wd⟩)
/-- A call that leaves one fixed value, the one operation that may come up. -/
theorem h_q (S : St n w0 K L a w) (hsub : Lr.Sublist L) (hi : ops[i]? = some ⟨some d, op, ty, pos, aft, none⟩) (hr : Region.ready md ops listed = [i]) (hy : Ys P ⟨some d, op, ty, pos, aft, none⟩ n K w0 L true v) (hd : Nat.blt d n = true)
    (next : ∀ a w, St n w0 ((d, true, v) :: K) L a w → wpAnyH P md ops Q (Wd w0 Lr) fuel (listed.setIfInBounds i true) a w) : wpAnyH P md ops Q (Wd w0 Lr) (fuel + 1) listed a w :=
  h_m hi hr (hy.wp S fun w' hw => ⟨hw.sub hsub, next _ _ ⟨S.kn.put hd v, hw⟩⟩)
theorem h_qg (S : St n w0 K L a w) (hsub : Lr.Sublist L) (hi : ops[i]? = some ⟨some d, op, ty, pos, aft, some (j, true)⟩) (hr : Region.ready md ops listed = [i]) (hj : (ops[j]?).bind (·.dst) = some t) (hl : look K t = some (true, .bool p)) (hy : Ys P ⟨some d, op, ty, pos, aft, some (j, true)⟩ n K w0 L p v) (hd : Nat.blt d n = true)
    (next : ∀ a w, St n w0 ((d, p, v) :: K) L a w → wpAnyH P md ops Q (Wd w0 Lr) fuel (listed.setIfInBounds i true) a w) : wpAnyH P md ops Q (Wd w0 Lr) (fuel + 1) listed a w := by
  cases p with
  | true => exact h_mg S hi hr hj hl (hy.wp S fun w' hw => ⟨hw.sub hsub, next _ _ ⟨S.kn.put hd v, hw⟩⟩)
  | false =>
    refine wpAnyH_all hr (by simp) fun k hk => ?_
    simp only [List.mem_singleton] at hk
    subst hk
    have hyd := yielded_of S.kn hj hl
    unfold wpOp
    simp only [hi, Region.wanted, hyd, cond_true]
    simp
    exact ⟨S.wd.sub hsub, next _ _ ⟨S.kn.putg hd false v, S.wd⟩⟩
theorem h_qf (S : St n w0 K L a w) (hsub : Lr.Sublist L) (hi : ops[i]? = some ⟨some d, op, ty, pos, aft, some (j, false)⟩) (hr : Region.ready md ops listed = [i]) (hj : (ops[j]?).bind (·.dst) = some t) (hl : look K t = some (true, .bool p)) (hy : Ys P ⟨some d, op, ty, pos, aft, some (j, false)⟩ n K w0 L (!p) v) (hd : Nat.blt d n = true)
    (next : ∀ a w, St n w0 ((d, !p, v) :: K) L a w → wpAnyH P md ops Q (Wd w0 Lr) fuel (listed.setIfInBounds i true) a w) : wpAnyH P md ops Q (Wd w0 Lr) (fuel + 1) listed a w := by
  cases p with
  | false => exact h_mg S hi hr hj hl (hy.wp S fun w' hw => ⟨hw.sub hsub, next _ _ ⟨S.kn.put hd v, hw⟩⟩)
  | true =>
    refine wpAnyH_all hr (by simp) fun k hk => ?_
    simp only [List.mem_singleton] at hk
    subst hk
    have hyd := yielded_of S.kn hj hl
    unfold wpOp
    simp only [hi, Region.wanted, hyd, cond_true]
    simp
    exact ⟨S.wd.sub hsub, next _ _ ⟨S.kn.putg hd false v, S.wd⟩⟩
/-- Behind an operation: what is to hold on may grow. -/
theorem h_on (S : St n w0 K L a w) (Lr' : List Chunk) (h1 : Lr.Sublist Lr') (h2 : Lr'.Sublist L) (h : wpAnyH P md ops Q (Wd w0 Lr') fuel listed a w) : Wd w0 Lr w ∧ wpAnyH P md ops Q (Wd w0 Lr) fuel listed a w := by
  refine ⟨S.wd.sub (h1.trans h2), ?_⟩
  clear S h2
  induction fuel generalizing listed a w with
  | zero => exact h
  | succ fuel ih => exact ⟨h.1, fun i hi => wpOp_mono (fun a' w' h' => ⟨h'.1.sub h1, ih h'.2⟩) (h.2 i hi)⟩
theorem h_done (hr : Region.ready md ops listed = []) (h : Q .normal a w) : wpAnyH P md ops Q (Wd w0 Lr) fuel listed a w := wpAnyH_done hr h fuel
/-- A guarded operation of a plain region, that changes something: its guard holds. -/
theorem st_mg {rest : List Oper} (S : St n w0 K L a w) (hj : (ops[j]?).bind (·.dst) = some t) (hl : look K t = some (true, .bool p))
    (h : Oper.wp P ⟨some d, op, ty, pos, aft, some (j, p)⟩ a w (wpList P ops Q rest) Q) : wpList P ops Q (⟨some d, op, ty, pos, aft, some (j, p)⟩ :: rest) a w := by
  have hyd := yielded_of S.kn hj hl
  simp only [wpList, Region.wanted, hyd, cond_true]
  simpa using Or.inl h
theorem st_skip {q : Bool} {rest : List Oper} (S : St n w0 K L a w) (hj : (ops[j]?).bind (·.dst) = some t) (hl : look K t = some (true, .bool p)) (hpq : q = !p) (hd : Nat.blt d n = true)
    (next : ∀ a w, St n w0 ((d, false, undef) :: K) L a w → wpList P ops Q rest a w) : wpList P ops Q (⟨some d, op, ty, pos, aft, some (j, q)⟩ :: rest) a w := by
  have hyd := yielded_of S.kn hj hl
  have h := next (a.put (some d) undef) w ⟨S.kn.putg hd false undef, S.wd⟩
  simp only [wpList, Region.wanted, hyd, cond_true]
  subst hpq
  cases p <;> simpa using h
end held
end code
end Go.Fw
