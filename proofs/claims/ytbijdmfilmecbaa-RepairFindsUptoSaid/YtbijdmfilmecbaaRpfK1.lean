/- Contracts and laws that the statement Rpf leans on, part 1. -/
import Derived.WideLaws
import Derived.WalkKit
import Derived.Below
import Derived.OrdersHeld
import Derived.Deep.Quiet
import Derived.Laws.StructEq
import Derived.Deep.MidRow
import Derived.Sort.Grow
import Derived.Test.YtbijdmfilmecbaaRows
import Derived.ProofKit
import Derived.OpenShut
import Derived.JoinedCond
import Derived.Deep.Slices
import Derived.Deep.Fields
import Derived.ChangeSame
import Derived.Carry
import Derived.Lib.SmallJoins
import Derived.WalkSpells
import Derived.ScopeJumps
import Derived.LoopN
import Derived.Lib.Overlaps
import Derived.Laws.Pointers
import Derived.Recover
import Derived.MapKept
import Derived.Maps.RangeRun
import Derived.Laws.IdiomStrings
import Derived.Shelf.SlIter.Nil
import Derived.StringKeys
import Derived.Shelf.SlGeneric
import Derived.Ground.GgzProg
import Derived.Shelf.SortM.Plain
import Derived.Shelf.SortM.SortNone
import Derived.Ground.SlgmProg
import Derived.Test.YtbijdmfilmecbaaProg
import Derived.Test.YtbijdmfilmecbaaChecked
set_option linter.unusedVariables false
set_option linter.unusedSimpArgs false
namespace Go.Fw
open Go.RowKit
abbrev KL := List (Nat × Bool × Value)
def look : KL → Nat → Option (Bool × Value)
 | [], _ => none
 | (j, v) :: r, i => bif Nat.beq i j then some v else look r i
structure Kn (n : Nat) (K : KL) (a : Act) : Prop where
 defers : a.defers = []
 size : a.tmps.size = n
 slot : ∀ i g v, look K i = some (g, v) → a.tmps[i]? = some (bif g then v else undef)
def Ev (n : Nat) (b : Bool) (K : KL) (x : Operand) (v : Value) : Prop := ∀ a, b = true → Kn n K a → a.eval x = v
def EvL (n : Nat) (b : Bool) (K : KL) (xs : List Operand) (vs : List Value) : Prop := ∀ a, b = true → Kn n K a → xs.map a.eval = vs
section kn
variable {n : Nat} {K : KL} {a : Act} {b : Bool}
theorem Ev.t {t : Nat} {v : Value} (h : look K t = some (true, v)) : Ev n b K (.tmp t) v := fun a _ hk => by
 simp [Act.eval, hk.slot t true v h]
theorem Ev.g {t : Nat} {v : Value} (h : look K t = some (b, v)) : Ev n b K (.tmp t) v := fun a hb hk => by
 simp [Act.eval, hk.slot t b v h, hb]
theorem Ev.c {v : Value} : Ev n b K (.const v) v := fun _ _ _ => rfl
theorem Ev.f {f : Nat} : Ev n b K (.func f) (.func (.func f) #[] #[]) := fun _ _ _ => rfl
theorem EvL.nil : EvL n b K [] [] := fun _ _ _ => rfl
theorem EvL.cons {x : Operand} {xs : List Operand} {v : Value} {vs : List Value} (h : Ev n b K x v) (h' : EvL n b K xs vs) : EvL n b K (x :: xs) (v :: vs) := fun a hb hk => by
 simp only [List.map_cons, h a hb hk, h' a hb hk]
theorem Kn.putg (h : Kn n K a) {d : Nat} (hd : Nat.blt d n = true) (g : Bool) (v : Value) : Kn n ((d, g, v) :: K) (a.put (some d) (bif g then v else undef)) := by
 refine ⟨h.defers, by simp [Act.put, h.size], fun i g' u hu => ?_⟩
 have hdn : d < n := by simpa [Nat.blt_eq] using hd
 unfold look at hu
 by_cases hi : i = d
 · subst hi
   simp only [Nat.beq_refl, cond_true, Option.some.injEq, Prod.mk.injEq] at hu
   obtain ⟨rfl, rfl⟩ := hu
   simp [Act.put, h.size, hdn]
 · have : Nat.beq i d = false := by simpa [Nat.beq_eq_true_eq, ← Bool.not_eq_true] using hi
   simp only [this, cond_false] at hu
   simp only [Act.put]
   rw [Array.getElem?_setIfInBounds_ne (fun e => hi e.symm)]
   exact h.slot i g' u hu
theorem Kn.put (h : Kn n K a) {d : Nat} (hd : Nat.blt d n = true) (v : Value) : Kn n ((d, true, v) :: K) (a.put (some d) v) := h.putg hd true v
def Fits (sn : List Nat) (K : KL) : KL → Prop
 | [] => True
 | (i, g, v) :: r => (List.elem i sn = true ∨ look K i = some (g, v)) ∧ Fits (i :: sn) K r
theorem Fits.nil {sn : List Nat} {K : KL} : Fits sn K [] := trivial
theorem Fits.cons {sn : List Nat} {K r : KL} {i : Nat} {g : Bool} {v : Value} (h : Fw.look K i = some (g, v)) (h' : Fits (i :: sn) K r) : Fits sn K ((i, g, v) :: r) := ⟨.inr h, h'⟩
theorem Fits.skip {sn : List Nat} {K r : KL} {i : Nat} {g : Bool} {v : Value} (h : List.elem i sn = true) (h' : Fits (i :: sn) K r) : Fits sn K ((i, g, v) :: r) := ⟨.inl h, h'⟩
theorem Fits.look {K : KL} : ∀ {K' : KL} {sn : List Nat}, Fits sn K K' → ∀ i v, List.elem i sn = false → Fw.look K' i = some v → Fw.look K i = some v
 | [], _, _, i, v, _, h => by simp [Fw.look] at h
 | (j, g, u) :: r, sn, hf, i, v, hn, h => by
   obtain ⟨h1, h2⟩ := hf
   unfold Fw.look at h
   by_cases hi : i = j
   · subst hi
     simp only [Nat.beq_refl, cond_true, Option.some.injEq] at h
     rw [← h]
     rcases h1 with h1 | h1
     · rw [h1] at hn; cases hn
     · exact h1
   · have : Nat.beq i j = false := by simpa [Nat.beq_eq_true_eq, ← Bool.not_eq_true] using hi
     simp only [this, cond_false] at h
     refine Fits.look h2 i v ?_ h
     have hne : (i == j) = false := by simpa using hi
     simp only [List.elem, hne]
     exact hn
theorem Kn.fits (h : Kn n K a) {K' : KL} (hf : Fits [] K K') : Kn n K' a := ⟨h.defers, h.size, fun i g v hv => h.slot i g v (hf.look i (g, v) rfl hv)⟩
end kn
abbrev Dle (a b : Nat) : Prop := 0 * a ≤ 0 * b
theorem Dle.succ (a : Nat) : Dle a (a + 1) := by unfold Dle; omega
structure Bel (B : Nat) (w w' : World) : Prop extends Below B w w' where
 drawn : Dle w.drawn w'.drawn
section bel
variable {B B' : Nat} {a b c : World}
theorem Bel.refl (B : Nat) (w : World) : Bel B w w := ⟨Below.refl B w, Nat.le_refl _⟩
theorem Bel.trans (h : Bel B a b) (k : Bel B b c) : Bel B a c := ⟨h.toBelow.trans k.toBelow, Nat.le_trans h.drawn k.drawn⟩
theorem Bel.mono (h : Bel B a b) (hB : B' ≤ B) : Bel B' a b := ⟨h.toBelow.mono hB, h.drawn⟩
theorem Bel.alloc (h : Bel B a b) (hb : B ≤ b.heap.size) (o : Obj) : Bel B a (b.alloc o) := ⟨h.toBelow.alloc hb o, h.drawn⟩
theorem Bel.drew (h : Bel B a b) : Bel B a b.drew := ⟨h.toBelow.drew, Nat.le_trans h.drawn (Dle.succ _)⟩
theorem Bel.of (h : Below B a b) : Bel B a b := ⟨h, by unfold Dle; omega⟩
end bel
structure Turned (S : Nat → Prop) (w w' : World) : Prop where
 os : w'.os = w.os
 tape : w'.tape = w.tape
 output : w'.output = w.output
 size : w.heap.size ≤ w'.heap.size
 block : ∀ k, k < w.heap.size → ¬ S k → w'.heap[k]? = w.heap[k]?
 drawn : Dle w.drawn w'.drawn
theorem Turned.bel {S : Nat → Prop} {B : Nat} {w w' : World} (h : Turned S w w') (hB : B ≤ w.heap.size) (hS : ∀ k, S k → B ≤ k) : Bel B w w' :=
 ⟨⟨h.os, h.tape, h.output, h.size, fun k hk => h.block k (Nat.lt_of_lt_of_le hk hB) fun e => by have := hS k e; omega⟩, h.drawn⟩
theorem Turned.mono {S S' : Nat → Prop} {w w' : World} (h : Turned S w w') (hS : ∀ k, S k → S' k) : Turned S' w w' :=
 ⟨h.os, h.tape, h.output, h.size, fun k hk hn => h.block k hk fun e => hn (hS k e), h.drawn⟩
def Owns (w : World) (B : Nat) (e size : Nat) (A : Option Addr) (n cap : Nat) (xs : List Value) : Prop :=
 xs.length = n * size ∧ ((n = 0 ∧ cap = 0) ∨ ∃ g cur, A = some ⟨g, 0, none⟩ ∧ 0 < cap ∧ B ≤ g ∧ w.heap[g]? = some (.cells cur e (0, 0)) ∧ n ≤ cap ∧ cap ≤ maxLen ∧ cur.size = cap * size ∧ cur.toList.take (n * size) = xs)
inductive Chunk where
 | blk (b : Nat) (o : Obj)
 | row (e size : Nat) (A : Option Addr) (n cap : Nat) (xs : List Value)
 | ice (w1 : World) (bs : List Nat)
def Chunk.holds (B : Nat) (w : World) : Chunk → Prop
 | .blk b o => B ≤ b ∧ w.heap[b]? = some o
 | .row e size A n cap xs => Owns w B e size A n cap xs
 | .ice w1 bs => ∀ b ∈ bs, B ≤ b ∧ b < w.heap.size ∧ w.heap[b]? = w1.heap[b]?
def Chunk.own : Chunk → Nat → Prop
 | .blk b _ => fun x => x = b
 | .row _ _ A _ cap _ => fun x => cap ≠ 0 ∧ A.map (·.block) = some x
 | .ice _ bs => fun x => x ∈ bs
def Chunk.apart (c d : Chunk) : Prop := ∀ b, c.own b → ¬ d.own b
theorem Chunk.apart.symm {c d : Chunk} (h : c.apart d) : d.apart c := fun b hd hc => h b hc hd
theorem Chunk.holds.lt {B : Nat} {w : World} {c : Chunk} (h : c.holds B w) {b : Nat} (hb : c.own b) : B ≤ b ∧ b < w.heap.size := by
 cases c with
 | blk b' o =>
   obtain ⟨h1, h2⟩ := h
   simp only [Chunk.own] at hb
   subst hb
   exact ⟨h1, (Array.getElem?_eq_some_iff.1 h2).1⟩
 | row e size A n cap xs =>
   obtain ⟨h0, hb⟩ := hb
   rcases h.2 with ⟨_, hc⟩ | ⟨g, cur, rfl, hp, hB, hg, _⟩
   · exact absurd hc h0
   · simp only [Option.map_some, Option.some.injEq] at hb
     subst hb
     exact ⟨hB, (Array.getElem?_eq_some_iff.1 hg).1⟩
 | ice w1 bs => exact ⟨(h b hb).1, (h b hb).2.1⟩
theorem Chunk.holds.keep {B : Nat} {w w' : World} {c : Chunk} (h : c.holds B w) (hs : w.heap.size ≤ w'.heap.size) (hk : ∀ b, c.own b → w'.heap[b]? = w.heap[b]?) : c.holds B w' := by
 cases c with
 | blk b o => exact ⟨h.1, (hk b rfl).trans h.2⟩
 | row e size A n cap xs =>
   refine ⟨h.1, ?_⟩
   rcases h.2 with hn | ⟨g, cur, rfl, hp, hb, hgg, rest⟩
   · exact .inl hn
   · exact .inr ⟨g, cur, rfl, hp, hb, (hk g ⟨Nat.pos_iff_ne_zero.1 hp, rfl⟩).trans hgg, rest⟩
 | ice w1 bs => exact fun b hb => ⟨(h b hb).1, Nat.lt_of_lt_of_le (h b hb).2.1 hs, (hk b hb).trans (h b hb).2.2⟩
theorem Chunk.holds.mono {B B' : Nat} {w : World} {c : Chunk} (h : c.holds B w) (hB : B' ≤ B) : c.holds B' w := by
 cases c with
 | blk b o => exact ⟨Nat.le_trans hB h.1, h.2⟩
 | row e size A n cap xs =>
   refine ⟨h.1, ?_⟩
   rcases h.2 with hn | ⟨g, cur, rfl, hp, hb, rest⟩
   · exact .inl hn
   · exact .inr ⟨g, cur, rfl, hp, Nat.le_trans hB hb, rest⟩
 | ice w1 bs => exact fun b hb => ⟨Nat.le_trans hB (h b hb).1, (h b hb).2⟩
structure Wd (w0 : World) (L : List Chunk) (w : World) : Prop where
 below : Bel w0.heap.size w0 w
 all : ∀ c ∈ L, c.holds w0.heap.size w
 apart : L.Pairwise Chunk.apart
section wd
variable {w0 : World} {L : List Chunk} {w w' : World}
theorem Wd.start (w : World) : Wd w [] w := ⟨Bel.refl _ _, (fun _ h => by cases h), List.Pairwise.nil⟩
theorem Wd.get (h : Wd w0 L w) {k : Nat} {c : Chunk} (hk : L[k]? = some c) : c.holds w0.heap.size w := h.all c (List.mem_of_getElem? hk)
theorem Wd.sub (h : Wd w0 L w) {L' : List Chunk} (hs : L'.Sublist L) : Wd w0 L' w :=
 ⟨h.below, fun c hc => h.all c (hs.subset hc), h.apart.sublist hs⟩
theorem Wd.perm (h : Wd w0 L w) {L' : List Chunk} (hp : L.Perm L') : Wd w0 L' w :=
 ⟨h.below, fun c hc => h.all c (hp.mem_iff.2 hc), (hp.pairwise_iff (fun h => h.symm)).1 h.apart⟩
theorem Wd.step (h : Wd w0 L w) (hb : Bel w.heap.size w w') : Wd w0 L w' :=
 ⟨h.below.trans (hb.mono h.below.size), fun c hc => (h.all c hc).keep hb.size fun b hbk => hb.block b ((h.all c hc).lt hbk).2, h.apart⟩
theorem Wd.more (h : Wd w0 L w) (hb : Bel w.heap.size w w') {c : Chunk} (hc : c.holds w.heap.size w') : Wd w0 (c :: L) w' := by
 have h' := h.step hb
 refine ⟨h'.below, fun d hd => ?_, List.Pairwise.cons (fun d hd b hcb hdb => ?_) h'.apart⟩
 · rcases List.mem_cons.1 hd with rfl | hd
   · exact hc.mono h.below.size
   · exact h'.all d hd
 · have h1 := (hc.lt hcb).1
   have h2 := ((h.all d hd).lt hdb).2
   omega
theorem Wd.drew (h : Wd w0 L w) : Wd w0 L w.drew := h.step (Bel.refl _ _).drew
theorem Wd.alloc (h : Wd w0 L w) (o : Obj) : Wd w0 (.blk w.heap.size o :: L) (w.alloc o) :=
 h.more ((Bel.refl _ _).alloc (Nat.le_refl _) o) ⟨Nat.le_refl _, heap_alloc_new w o⟩
theorem Wd.bare (h : Wd w0 L w) {c : Chunk} (hc : c.holds w0.heap.size w) (ho : ∀ b, ¬ c.own b) : Wd w0 (c :: L) w :=
 ⟨h.below, fun d hd => by rcases List.mem_cons.1 hd with rfl | hd; exact hc; exact h.all d hd, List.Pairwise.cons (fun d _ b hb _ => ho b hb) h.apart⟩
theorem Wd.change (h : Wd w0 L w) {k : Nat} {c c' : Chunk} (hk : L[k]? = some c) (hg : Turned c.own w w') (hc : c'.holds w0.heap.size w')
   (ho : ∀ b, c'.own b → c.own b ∨ w.heap.size ≤ b) : Wd w0 (L.set k c') w' := by
 have hlt : k < L.length := (List.getElem?_eq_some_iff.1 hk).1
 have hkk : L[k] = c := (List.getElem?_eq_some_iff.1 hk).2
 have hcB : ∀ b, c.own b → w0.heap.size ≤ b := fun b hb => ((h.get hk).lt hb).1
 have hap := List.pairwise_iff_getElem.1 h.apart
 have keep : ∀ i (hi : i < L.length), i ≠ k → L[i].holds w0.heap.size w' := fun i hi hne => by
   have hi' := h.all L[i] (List.getElem_mem hi)
   refine hi'.keep hg.size fun b hb => hg.block b (hi'.lt hb).2 (fun e => ?_)
   rcases Nat.lt_or_ge i k with hlt' | hge
   · exact hap i k hi hlt hlt' b hb (by rw [hkk]; exact e)
   · exact hap k i hlt hi (by omega) b (by rw [hkk]; exact e) hb
 refine ⟨h.below.trans (hg.bel h.below.size hcB), fun d hd => ?_, ?_⟩
 · obtain ⟨i, hi, rfl⟩ := List.getElem_of_mem hd
   rw [List.getElem_set]
   split
   · exact hc
   · exact keep i (by simpa using hi) (fun e => by omega)
 · refine List.pairwise_iff_getElem.2 fun i j hi hj hij => ?_
   have hi' : i < L.length := by simpa using hi
   have hj' : j < L.length := by simpa using hj
   have new : ∀ m (hm : m < L.length), m ≠ k → Chunk.apart c' L[m] := fun m hm hne b hb hb' => by
     rcases ho b hb with hb | hb
     · rcases Nat.lt_or_ge m k with hlt' | hge
       · exact hap m k hm hlt hlt' b hb' (by rw [hkk]; exact hb)
       · exact hap k m hlt hm (by omega) b (by rw [hkk]; exact hb) hb'
     · have h2 := ((h.all L[m] (List.getElem_mem hm)).lt hb').2
       omega
   rw [List.getElem_set, List.getElem_set]
   split
   · rename_i e
     rw [if_neg (by omega)]
     exact new j hj' (by omega)
   · split
     · exact (new i hi' (by omega)).symm
     · exact hap i j hi' hj' hij
theorem Wd.retell (h : Wd w0 L w) {k : Nat} {c c' : Chunk} (hk : L[k]? = some c) (hc : c'.holds w0.heap.size w) (ho : ∀ b, c'.own b → c.own b) : Wd w0 (L.set k c') w :=
 h.change hk ⟨rfl, rfl, rfl, Nat.le_refl _, fun _ _ _ => rfl, Nat.le_refl _⟩ hc fun b hb => .inl (ho b hb)
end wd
structure St (n : Nat) (w0 : World) (K : KL) (L : List Chunk) (a : Act) (w : World) : Prop where
 kn : Kn n K a
 wd : Wd w0 L w
section code
variable {P : Program} {Q : Exit → Act → World → Prop} {n : Nat} {w0 : World} {K : KL} {L : List Chunk} {a : Act} {w : World}
theorem enter {f : FuncId} {fn : Func} {c : Code} {args : List Value} {w : World} {R : Ending → World → Prop} (hf : P.funcs[f]? = some fn) (hb : fn.body = some c)
   {n : Nat} {K : KL} (hn : fn.ntmps = n) (hsz : Nat.ble args.length n = true) (hK : ∀ i g v, look K i = some (g, v) → g = true ∧ args[i]? = some v)
   (h : ∀ a, St n w K [] a w → c.wp P (bodyPost P fn R) a w) : Calls P f args.toArray w R := by
 refine calls_of_wp hf hb (h _ ⟨⟨rfl, ?_, fun i g v hv => ?_⟩, Wd.start w⟩)
 · have := Nat.le_of_ble_eq_true hsz
   simp [hn]; omega
 · obtain ⟨rfl, h1⟩ := hK i g v hv
   have hi : i < args.length := (List.getElem?_eq_some_iff.1 h1).1
   simp [Array.getElem?_append, hi, (List.getElem?_eq_some_iff.1 h1).2]
section enters
def argsK : Nat → List Value → KL
 | _, [] => []
 | i, v :: vs => (i, true, v) :: argsK (i + 1) vs
theorem argsK_ok : ∀ (vs : List Value) (i j : Nat) (g : Bool) (v : Value), look (argsK i vs) j = some (g, v) → g = true ∧ i ≤ j ∧ vs[j - i]? = some v
 | [], i, j, g, v, h => by simp [argsK, look] at h
 | u :: us, i, j, g, v, h => by
   unfold argsK look at h
   by_cases hj : j = i
   · subst hj
     simp only [Nat.beq_refl, cond_true, Option.some.injEq, Prod.mk.injEq] at h
     obtain ⟨rfl, rfl⟩ := h
     exact ⟨rfl, Nat.le_refl _, by simp⟩
   · have : Nat.beq j i = false := by simpa [Nat.beq_eq_true_eq, ← Bool.not_eq_true] using hj
     simp only [this, cond_false] at h
     obtain ⟨h1, h2, h3⟩ := argsK_ok us (i + 1) j g v h
     refine ⟨h1, by omega, ?_⟩
     rw [show j - i = (j - (i + 1)) + 1 by omega]
     simpa using h3
theorem enterL {f : FuncId} {fn : Func} {c : Code} {args : List Value} {w : World} {R : Ending → World → Prop} (hf : P.funcs[f]? = some fn) (hb : fn.body = some c)
   {n : Nat} (hn : fn.ntmps = n) (hsz : Nat.ble args.length n = true) (h : ∀ a, St n w (argsK 0 args) [] a w → c.wp P (bodyPost P fn R) a w) : Calls P f args.toArray w R :=
 enter hf hb hn hsz (fun i g v hv => have h := argsK_ok args 0 i g v hv; ⟨h.1, by simpa using h.2.2⟩) h
variable {f : FuncId} {fn : Func} {c : Code} {R : Ending → World → Prop} {v0 v1 v2 v3 v4 v5 v6 v7 v8 : Value}
theorem enter0 (hf : P.funcs[f]? = some fn) (hb : fn.body = some c) {n : Nat} (hn : fn.ntmps = n) (hsz : Nat.ble 0 n = true)
   (h : ∀ a, St n w [] [] a w → c.wp P (bodyPost P fn R) a w) : Calls P f #[] w R := enterL (args := []) hf hb hn hsz h
theorem enter1 (hf : P.funcs[f]? = some fn) (hb : fn.body = some c) {n : Nat} (hn : fn.ntmps = n) (hsz : Nat.ble 1 n = true)
   (h : ∀ a, St n w [(0, true, v0)] [] a w → c.wp P (bodyPost P fn R) a w) : Calls P f #[v0] w R := enterL (args := [v0]) hf hb hn hsz h
theorem enter2 (hf : P.funcs[f]? = some fn) (hb : fn.body = some c) {n : Nat} (hn : fn.ntmps = n) (hsz : Nat.ble 2 n = true)
   (h : ∀ a, St n w [(0, true, v0), (1, true, v1)] [] a w → c.wp P (bodyPost P fn R) a w) : Calls P f #[v0, v1] w R := enterL (args := [v0, v1]) hf hb hn hsz h
theorem enter3 (hf : P.funcs[f]? = some fn) (hb : fn.body = some c) {n : Nat} (hn : fn.ntmps = n) (hsz : Nat.ble 3 n = true)
   (h : ∀ a, St n w [(0, true, v0), (1, true, v1), (2, true, v2)] [] a w → c.wp P (bodyPost P fn R) a w) : Calls P f #[v0, v1, v2] w R := enterL (args := [v0, v1, v2]) hf hb hn hsz h
theorem enter4 (hf : P.funcs[f]? = some fn) (hb : fn.body = some c) {n : Nat} (hn : fn.ntmps = n) (hsz : Nat.ble 4 n = true)
   (h : ∀ a, St n w [(0, true, v0), (1, true, v1), (2, true, v2), (3, true, v3)] [] a w → c.wp P (bodyPost P fn R) a w) : Calls P f #[v0, v1, v2, v3] w R := enterL (args := [v0, v1, v2, v3]) hf hb hn hsz h
end enters
theorem st_cond {c : Operand} {x y : Code} {b : Bool} (S : St n w0 K L a w) (hc : Ev n true K c (.bool b)) (ht : b = true → x.wp P Q a w) (hf : b = false → y.wp P Q a w) : (Code.cond c x y).wp P Q a w :=
 wp_cond_split (hc a rfl S.kn) ht hf
theorem st_if {c : Operand} {x y : Code} {p : Prop} {_ : Decidable p} (S : St n w0 K L a w) (hc : Ev n true K c (.bool (decide p))) (ht : p → x.wp P Q a w) (hf : ¬p → y.wp P Q a w) : (Code.cond c x y).wp P Q a w :=
 wp_cond_split (hc a rfl S.kn) (fun h => ht (of_decide_eq_true h)) (fun h => hf (of_decide_eq_false h))
theorem Ze {c : Operand} {x y : Code} (S : St n w0 K L a w) (hc : Ev n true K c (.bool true)) (ht : x.wp P Q a w) : (Code.cond c x y).wp P Q a w := wp_cond_true (hc a rfl S.kn) ht
theorem Zf {c : Operand} {x y : Code} (S : St n w0 K L a w) (hc : Ev n true K c (.bool false)) (hf : y.wp P Q a w) : (Code.cond c x y).wp P Q a w := wp_cond_false (hc a rfl S.kn) hf
theorem st_loop {c : Code} {X : Type} (I : X → Act → World → Prop) (μ : X → Nat) (x0 : X) (h0 : I x0 a w)
   (round : ∀ x a w, I x a w → c.wp P (Exit.then (fun a' w' => ∃ x', I x' a' w' ∧ μ x' < μ x) Q) a w) : (Code.loop c).wp P Q a w := by
 intro b k cs
 have key : ∀ m x a w, μ x = m → I x a w → ∃ e a' w', Q e a' w' ∧ Arrives P (lone (b.at a (.code c :: .inLoop c :: k)) cs w) b k cs e a' w' := by
   intro m
   induction m using Nat.strongRecOn with
   | _ m ih =>
     intro x a w hm hI
     obtain ⟨e, a₁, w₁, hq, harr⟩ := round x a w hI b (.inLoop c :: k) cs
     cases e with
     | normal =>
       obtain ⟨x', hI₁, hlt⟩ := hq
       obtain ⟨e₂, a₂, w₂, hq₂, harr₂⟩ := ih (μ x') (hm ▸ hlt) x' a₁ w₁ rfl hI₁
       exact ⟨e₂, a₂, w₂, hq₂, .of_steps (Steps.trans harr (.one step_inLoop)) harr₂⟩
     | exit id => exact ⟨_, a₁, w₁, hq, .pass (x := .inLoop c) rfl (fun _ _ => .inl (by simp)) harr⟩
     | goto l => exact ⟨_, a₁, w₁, hq, .pass (x := .inLoop c) rfl (fun _ _ => .inl (by simp)) harr⟩
     | ret => exact ⟨_, a₁, w₁, hq, .pass (x := .inLoop c) rfl (fun _ _ => .inl (by simp)) harr⟩
     | panic ch => exact ⟨_, a₁, w₁, hq, .pass (x := .inLoop c) rfl (fun _ _ => .inl (by simp)) harr⟩
     | outgrown => exact ⟨_, a₁, w₁, hq, .pass (x := .inLoop c) rfl (fun _ _ => .inl (by simp)) harr⟩
 obtain ⟨e, a', w', hq, harr⟩ := key _ x0 a w rfl h0
 exact ⟨e, a', w', hq, .of_steps (.one step_loop) harr⟩
def Ys (P : Program) (o : Oper) (n : Nat) (K : KL) (w0 : World) (L : List Chunk) (b : Bool) (v : Value) : Prop :=
 ∀ a w, b = true → Kn n K a → Wd w0 L w → Oper.quietUpon P (Wd w0 L) w v ((execOp a.eval o).run P w)
def Yr (P : Program) (o : Oper) (n : Nat) (K : KL) (w0 : World) (L : List Chunk) (b : Bool) (v : Value) : Prop :=
 ∀ a w, b = true → Kn n K a → Wd w0 L w → (execOp a.eval o).run P w = .ok (.value v) w
theorem Yr.ys {o : Oper} {b : Bool} {v : Value} (h : Yr P o n K w0 L b v) : Ys P o n K w0 L b v := fun a w hb hk hw => by
 rw [h a w hb hk hw]; exact ⟨rfl, rfl⟩
theorem Ys.wp {o : Oper} {v : Value} (hy : Ys P o n K w0 L true v) (S : St n w0 K L a w) {K' : Act → World → Prop} (h : ∀ w', Wd w0 L w' → K' (a.put o.dst v) w') : o.wp P a w K' Q := by
 have h3 := hy a w rfl S.kn S.wd
 unfold Oper.wp
 generalize (execOp a.eval o).run P w = r at *
 cases r with
 | ok x w' =>
   cases x <;> simp only [Oper.quietUpon] at h3 <;> simp only [Oper.upon]
   case value u => obtain ⟨rfl, rfl⟩ := h3; exact h _ S.wd
   case skip => obtain ⟨rfl, rfl⟩ := h3; exact h _ S.wd
   case enter f args =>
     obtain ⟨rfl, hc⟩ := h3
     exact hc.mono fun e w'' ⟨he, hw''⟩ => by subst he; exact h _ hw''
 | halt x w' => simp only [Oper.quietUpon] at h3
section list
variable {ops : Array Oper} {rest : List Oper} {op : Op} {ty : TypeId} {pos : String} {aft : Array Edge} {v : Value} {d t j : Nat} {p : Bool}
theorem Zb (h : Q .normal a w) : wpList P ops Q [] a w := h
theorem Zh {d : Option Tmp} (h : Oper.wp P ⟨d, op, ty, pos, aft, none⟩ a w (wpList P ops Q rest) Q) : wpList P ops Q (⟨d, op, ty, pos, aft, none⟩ :: rest) a w :=
 wpList_plain rfl fun _ hK => Oper.wp_mono hK h
theorem st_y (S : St n w0 K L a w) (hy : Ys P ⟨some d, op, ty, pos, aft, none⟩ n K w0 L true v) (hd : Nat.blt d n = true)
   (next : ∀ a w, St n w0 ((d, true, v) :: K) L a w → wpList P ops Q rest a w) : wpList P ops Q (⟨some d, op, ty, pos, aft, none⟩ :: rest) a w :=
 Zh (hy.wp S fun _ hw => next _ _ ⟨S.kn.put hd v, hw⟩)
theorem Yy {a : Act} {g b : Bool} (hk : Kn n K a) (hj : (ops[j]?).bind (·.dst) = some t) (hl : look K t = some (g, .bool b)) : yielded ops a.tmps j = bif g then some b else none := by
 unfold yielded
 rw [hj]
 simp only [Option.bind_some, hk.slot t g _ hl]
 cases g <;> simp [undef]
theorem Yq (S : St n w0 K L a w) (hj : (ops[j]?).bind (·.dst) = some t) (hl : look K t = some (true, .bool p)) (hy : Ys P ⟨some d, op, ty, pos, aft, some (j, true)⟩ n K w0 L p v) (hd : Nat.blt d n = true)
   (next : ∀ a w, St n w0 ((d, p, v) :: K) L a w → wpList P ops Q rest a w) : wpList P ops Q (⟨some d, op, ty, pos, aft, some (j, true)⟩ :: rest) a w := by
 refine wpList_step fun K' hK => ?_
 have hyd := Yy S.kn hj hl
 cases p with
 | true =>
   rw [if_pos (by simp [Region.wanted, hyd])]
   exact hy.wp S fun _ hw => hK _ _ (next _ _ ⟨S.kn.putg hd true v, hw⟩)
 | false =>
   rw [if_neg (by simp [Region.wanted, hyd])]
   exact hK _ _ (next _ _ ⟨S.kn.putg hd false v, S.wd⟩)
theorem st_yf (S : St n w0 K L a w) (hj : (ops[j]?).bind (·.dst) = some t) (hl : look K t = some (true, .bool p)) (hy : Ys P ⟨some d, op, ty, pos, aft, some (j, false)⟩ n K w0 L (!p) v) (hd : Nat.blt d n = true)
   (next : ∀ a w, St n w0 ((d, !p, v) :: K) L a w → wpList P ops Q rest a w) : wpList P ops Q (⟨some d, op, ty, pos, aft, some (j, false)⟩ :: rest) a w := by
 refine wpList_step fun K' hK => ?_
 have hyd := Yy S.kn hj hl
 cases p with
 | false =>
   rw [if_pos (by simp [Region.wanted, hyd])]
   exact hy.wp S fun _ hw => hK _ _ (next _ _ ⟨S.kn.putg hd true v, hw⟩)
 | true =>
   rw [if_neg (by simp [Region.wanted, hyd])]
   exact hK _ _ (next _ _ ⟨S.kn.putg hd false v, S.wd⟩)
theorem st_yg2 {g : Bool} (S : St n w0 K L a w) (hj : (ops[j]?).bind (·.dst) = some t) (hl : look K t = some (g, .bool p)) (hy : Ys P ⟨some d, op, ty, pos, aft, some (j, true)⟩ n K w0 L (g && p) v) (hd : Nat.blt d n = true)
   (next : ∀ a w, St n w0 ((d, g && p, v) :: K) L a w → wpList P ops Q rest a w) : wpList P ops Q (⟨some d, op, ty, pos, aft, some (j, true)⟩ :: rest) a w := by
 refine wpList_step fun K' hK => ?_
 have hyd := Yy S.kn hj hl
 cases h : (g && p) with
 | true =>
   rw [h] at hy next
   simp only [Bool.and_eq_true] at h
   rw [if_pos (by simp [Region.wanted, hyd, h.1, h.2])]
   exact hy.wp S fun _ hw => hK _ _ (next _ _ ⟨S.kn.putg hd true v, hw⟩)
 | false =>
   rw [h] at next
   rw [if_neg (by cases g <;> simp_all [Region.wanted])]
   exact hK _ _ (next _ _ ⟨S.kn.putg hd false v, S.wd⟩)
theorem st_yf2 {g : Bool} (S : St n w0 K L a w) (hj : (ops[j]?).bind (·.dst) = some t) (hl : look K t = some (g, .bool p)) (hy : Ys P ⟨some d, op, ty, pos, aft, some (j, false)⟩ n K w0 L (g && !p) v) (hd : Nat.blt d n = true)
   (next : ∀ a w, St n w0 ((d, g && !p, v) :: K) L a w → wpList P ops Q rest a w) : wpList P ops Q (⟨some d, op, ty, pos, aft, some (j, false)⟩ :: rest) a w := by
 refine wpList_step fun K' hK => ?_
 have hyd := Yy S.kn hj hl
 cases h : (g && !p) with
 | true =>
   rw [h] at hy next
   simp only [Bool.and_eq_true, Bool.not_eq_true'] at h
   rw [if_pos (by simp [Region.wanted, hyd, h.1, h.2])]
   exact hy.wp S fun _ hw => hK _ _ (next _ _ ⟨S.kn.putg hd true v, hw⟩)
 | false =>
   rw [h] at next
   rw [if_neg (by cases g <;> simp_all [Region.wanted])]
   exact hK _ _ (next _ _ ⟨S.kn.putg hd false v, S.wd⟩)
theorem Xk {id : Nat} {l : List Oper} (S : St n w0 K L a w) (hm : P.follows .mixedOrders = true) (hB : Region.lexB .any l.toArray = true)
   (h : ∀ a, Kn n K a → wpQuiet P l.toArray (Wd w0 L) (fun a' => ∀ w', Wd w0 L w' → Q .normal a' w') l a) : (Code.region id l.toArray true).wp P Q a w :=
 wp_region_quiet (C := Wd w0 L) hm hB S.wd.drew (by simpa using h a S.kn)
variable {Z : Act → Prop} {C : World → Prop}
theorem q_nil (h : Z a) : wpQuiet P ops C Z [] a := h
theorem q_y (S : Kn n K a) (hy : Ys P ⟨some d, op, ty, pos, aft, none⟩ n K w0 L true v) (hd : Nat.blt d n = true)
   (next : ∀ a, Kn n ((d, true, v) :: K) a → wpQuiet P ops (Wd w0 L) Z rest a) : wpQuiet P ops (Wd w0 L) Z (⟨some d, op, ty, pos, aft, none⟩ :: rest) a := by
 refine wpQuiet_step fun K' hK => ?_
 rw [if_pos (by simp [Region.wanted])]
 exact ⟨v, fun w hw => hy a w rfl S hw, hK _ (next _ (S.put hd v))⟩
end list
section held
variable {ops : Array Oper} {Lr : List Chunk} {fuel i : Nat} {listed : Array Bool} {op : Op} {ty : TypeId} {pos : String} {aft : Array Edge} {gd : Option (Nat × Bool)} {v : Value} {d t j : Nat} {p : Bool} {md : Region.Mode}
theorem h_begin0 {id : Nat} (S : St n w0 K L a w) (hm : P.follows .mixedOrders = true)
   (h : ∀ a w, St n w0 K L a w → wpAnyH P .any ops Q (Wd w0 L) ops.size (Array.replicate ops.size false) a w) : (Code.region id ops true).wp P Q a w :=
 wp_region_held hm (h _ _ ⟨S.kn, S.wd.drew⟩)
theorem h_begin {id : Nat} (S : St n w0 K L a w) (hm : P.follows .mixedOrders = true) (Lr : List Chunk)
   (h : ∀ a w, St n w0 K L a w → wpAnyH P .any ops Q (Wd w0 Lr) ops.size (Array.replicate ops.size false) a w) : (Code.region id ops true).wp P Q a w :=
 wp_region_held hm (h _ _ ⟨S.kn, S.wd.drew⟩)
theorem h_take {o : Oper} {v : Value} (S : St n w0 K L a w) (hsub : Lr.Sublist L) (hi : ops[i]? = some o) (hs : Region.noSelect ops = true) (hf : Region.free md ops listed i = true) (hr : (Region.ready md ops listed).contains i = true)
   (hQ : ∀ c a w, Q (.panic c) (a.put o.dst v) w → Q (.panic c) a w) (hy : YieldsIf P ops (Wd w0 Lr) o v a)
   (h : wpAnyH P md ops Q (Wd w0 Lr) fuel (listed.setIfInBounds i true) (a.put o.dst v) w) : wpAnyH P md ops Q (Wd w0 Lr) (fuel + 1) listed a w :=
 wpAnyH_take hi hs hf hr hQ hy (S.wd.sub hsub) h
theorem h_y (S : St n w0 K L a w) (hsub : Lr.Sublist L) (hi : ops[i]? = some ⟨some d, op, ty, pos, aft, none⟩) (hs : Region.noSelect ops = true) (hf : Region.free md ops listed i = true) (hr : (Region.ready md ops listed).contains i = true)
   (hQ : ∀ v c a w, Q (.panic c) (a.put (some d) v) w → Q (.panic c) a w) (hy : Yr P ⟨some d, op, ty, pos, aft, none⟩ n K w0 Lr true v) (hd : Nat.blt d n = true)
   (next : ∀ a w, St n w0 ((d, true, v) :: K) L a w → wpAnyH P md ops Q (Wd w0 Lr) fuel (listed.setIfInBounds i true) a w) : wpAnyH P md ops Q (Wd w0 Lr) (fuel + 1) listed a w :=
 h_take S hsub hi hs hf hr (hQ v) (.inl ⟨rfl, fun w hw => hy a w rfl S.kn hw⟩) (next _ _ ⟨S.kn.put hd v, S.wd⟩)
theorem h_yg {g : Bool} (S : St n w0 K L a w) (hsub : Lr.Sublist L) (hi : ops[i]? = some ⟨some d, op, ty, pos, aft, some (j, true)⟩) (hs : Region.noSelect ops = true) (hf : Region.free md ops listed i = true) (hr : (Region.ready md ops listed).contains i = true)
   (hQ : ∀ v c a w, Q (.panic c) (a.put (some d) v) w → Q (.panic c) a w) (hj : (ops[j]?).bind (·.dst) = some t) (hl : look K t = some (g, .bool p)) (hy : Yr P ⟨some d, op, ty, pos, aft, some (j, true)⟩ n K w0 Lr (g && p) v) (hd : Nat.blt d n = true)
   (next : ∀ a w, St n w0 ((d, g && p, v) :: K) L a w → wpAnyH P md ops Q (Wd w0 Lr) fuel (listed.setIfInBounds i true) a w) : wpAnyH P md ops Q (Wd w0 Lr) (fuel + 1) listed a w := by
 have hyd := Yy S.kn hj hl
 cases h : (g && p) with
 | true =>
   rw [h] at hy next
   simp only [Bool.and_eq_true] at h
   exact h_take S hsub hi hs hf hr (hQ v) (.inl ⟨by simp [Region.wanted, hyd, h.1, h.2], fun w hw => hy a w rfl S.kn hw⟩) (next _ _ ⟨S.kn.putg hd true v, S.wd⟩)
 | false =>
   rw [h] at next
   exact h_take S hsub hi hs hf hr (hQ undef) (.inr ⟨by cases g <;> simp_all [Region.wanted], rfl⟩) (next _ _ ⟨S.kn.putg hd false v, S.wd⟩)
theorem h_yg1 (S : St n w0 K L a w) (hsub : Lr.Sublist L) (hi : ops[i]? = some ⟨some d, op, ty, pos, aft, some (j, true)⟩) (hs : Region.noSelect ops = true) (hf : Region.free md ops listed i = true) (hr : (Region.ready md ops listed).contains i = true)
   (hQ : ∀ v c a w, Q (.panic c) (a.put (some d) v) w → Q (.panic c) a w) (hj : (ops[j]?).bind (·.dst) = some t) (hl : look K t = some (true, .bool p)) (hy : Yr P ⟨some d, op, ty, pos, aft, some (j, true)⟩ n K w0 Lr p v) (hd : Nat.blt d n = true)
   (next : ∀ a w, St n w0 ((d, p, v) :: K) L a w → wpAnyH P md ops Q (Wd w0 Lr) fuel (listed.setIfInBounds i true) a w) : wpAnyH P md ops Q (Wd w0 Lr) (fuel + 1) listed a w :=
 h_yg (g := true) S hsub hi hs hf hr hQ hj hl hy hd next
theorem h_yf {g : Bool} (S : St n w0 K L a w) (hsub : Lr.Sublist L) (hi : ops[i]? = some ⟨some d, op, ty, pos, aft, some (j, false)⟩) (hs : Region.noSelect ops = true) (hf : Region.free md ops listed i = true) (hr : (Region.ready md ops listed).contains i = true)
   (hQ : ∀ v c a w, Q (.panic c) (a.put (some d) v) w → Q (.panic c) a w) (hj : (ops[j]?).bind (·.dst) = some t) (hl : look K t = some (g, .bool p)) (hy : Yr P ⟨some d, op, ty, pos, aft, some (j, false)⟩ n K w0 Lr (g && !p) v) (hd : Nat.blt d n = true)
   (next : ∀ a w, St n w0 ((d, g && !p, v) :: K) L a w → wpAnyH P md ops Q (Wd w0 Lr) fuel (listed.setIfInBounds i true) a w) : wpAnyH P md ops Q (Wd w0 Lr) (fuel + 1) listed a w := by
 have hyd := Yy S.kn hj hl
 cases h : (g && !p) with
 | true =>
   rw [h] at hy next
   simp only [Bool.and_eq_true, Bool.not_eq_true'] at h
   exact h_take S hsub hi hs hf hr (hQ v) (.inl ⟨by simp [Region.wanted, hyd, h.1, h.2], fun w hw => hy a w rfl S.kn hw⟩) (next _ _ ⟨S.kn.putg hd true v, S.wd⟩)
 | false =>
   rw [h] at next
   exact h_take S hsub hi hs hf hr (hQ undef) (.inr ⟨by cases g <;> simp_all [Region.wanted], rfl⟩) (next _ _ ⟨S.kn.putg hd false v, S.wd⟩)
theorem h_yf1 (S : St n w0 K L a w) (hsub : Lr.Sublist L) (hi : ops[i]? = some ⟨some d, op, ty, pos, aft, some (j, false)⟩) (hs : Region.noSelect ops = true) (hf : Region.free md ops listed i = true) (hr : (Region.ready md ops listed).contains i = true)
   (hQ : ∀ v c a w, Q (.panic c) (a.put (some d) v) w → Q (.panic c) a w) (hj : (ops[j]?).bind (·.dst) = some t) (hl : look K t = some (true, .bool p)) (hy : Yr P ⟨some d, op, ty, pos, aft, some (j, false)⟩ n K w0 Lr (!p) v) (hd : Nat.blt d n = true)
   (next : ∀ a w, St n w0 ((d, !p, v) :: K) L a w → wpAnyH P md ops Q (Wd w0 Lr) fuel (listed.setIfInBounds i true) a w) : wpAnyH P md ops Q (Wd w0 Lr) (fuel + 1) listed a w :=
 h_yf (g := true) S hsub hi hs hf hr hQ hj hl hy hd next
theorem h_m (hi : ops[i]? = some ⟨some d, op, ty, pos, aft, none⟩) (hr : Region.ready md ops listed = [i])
   (h : Oper.wp P ⟨some d, op, ty, pos, aft, none⟩ a w (fun a' w' => Wd w0 Lr w' ∧ wpAnyH P md ops Q (Wd w0 Lr) fuel (listed.setIfInBounds i true) a' w') Q) : wpAnyH P md ops Q (Wd w0 Lr) (fuel + 1) listed a w :=
 wpAnyH_all hr (by simp) fun k hk => by
   simp only [List.mem_singleton] at hk
   subst hk
   unfold wpOp
   simp only [hi, Region.wanted, if_true]
   exact .inl h
theorem h_m0 (hi : ops[i]? = some ⟨none, op, ty, pos, aft, none⟩) (hr : Region.ready md ops listed = [i])
   (h : Oper.wp P ⟨none, op, ty, pos, aft, none⟩ a w (fun a' w' => Wd w0 Lr w' ∧ wpAnyH P md ops Q (Wd w0 Lr) fuel (listed.setIfInBounds i true) a' w') Q) : wpAnyH P md ops Q (Wd w0 Lr) (fuel + 1) listed a w :=
 wpAnyH_all hr (by simp) fun k hk => by
   simp only [List.mem_singleton] at hk
   subst hk
   unfold wpOp
   simp only [hi, Region.wanted, if_true]
   exact .inl h
theorem h_skip {q : Bool} (S : St n w0 K L a w) (hsub : Lr.Sublist L) (hi : ops[i]? = some ⟨some d, op, ty, pos, aft, some (j, q)⟩) (hs : Region.noSelect ops = true) (hf : Region.free md ops listed i = true) (hr : (Region.ready md ops listed).contains i = true)
   (hQ : ∀ v c a w, Q (.panic c) (a.put (some d) v) w → Q (.panic c) a w) (hj : (ops[j]?).bind (·.dst) = some t) (hl : look K t = some (true, .bool p)) (hpq : q = !p) (hd : Nat.blt d n = true)
   (next : ∀ a w, St n w0 ((d, false, undef) :: K) L a w → wpAnyH P md ops Q (Wd w0 Lr) fuel (listed.setIfInBounds i true) a w) : wpAnyH P md ops Q (Wd w0 Lr) (fuel + 1) listed a w := by
 have hyd := Yy S.kn hj hl
 exact h_take S hsub hi hs hf hr (hQ undef) (.inr ⟨by subst hpq; cases p <;> simp_all [Region.wanted], rfl⟩) (next _ _ ⟨S.kn.putg hd false undef, S.wd⟩)
theorem h_q (S : St n w0 K L a w) (hsub : Lr.Sublist L) (hi : ops[i]? = some ⟨some d, op, ty, pos, aft, none⟩) (hr : Region.ready md ops listed = [i]) (hy : Ys P ⟨some d, op, ty, pos, aft, none⟩ n K w0 L true v) (hd : Nat.blt d n = true)
   (next : ∀ a w, St n w0 ((d, true, v) :: K) L a w → wpAnyH P md ops Q (Wd w0 Lr) fuel (listed.setIfInBounds i true) a w) : wpAnyH P md ops Q (Wd w0 Lr) (fuel + 1) listed a w :=
 h_m hi hr (hy.wp S fun w' hw => ⟨hw.sub hsub, next _ _ ⟨S.kn.put hd v, hw⟩⟩)
theorem h_on (S : St n w0 K L a w) (Lr' : List Chunk) (h1 : Lr.Sublist Lr') (h2 : Lr'.Sublist L) (h : wpAnyH P md ops Q (Wd w0 Lr') fuel listed a w) : Wd w0 Lr w ∧ wpAnyH P md ops Q (Wd w0 Lr) fuel listed a w := by
 refine ⟨S.wd.sub (h1.trans h2), ?_⟩
 clear S h2
 induction fuel generalizing listed a w with
 | zero => exact h
 | succ fuel ih => exact ⟨h.1, fun i hi => wpOp_mono (fun a' w' h' => ⟨h'.1.sub h1, ih h'.2⟩) (h.2 i hi)⟩
theorem Xe (hr : Region.ready md ops listed = []) (h : Q .normal a w) : wpAnyH P md ops Q (Wd w0 Lr) fuel listed a w := wpAnyH_done hr h fuel
theorem st_mg {rest : List Oper} (S : St n w0 K L a w) (hj : (ops[j]?).bind (·.dst) = some t) (hl : look K t = some (true, .bool p))
   (h : Oper.wp P ⟨some d, op, ty, pos, aft, some (j, p)⟩ a w (wpList P ops Q rest) Q) : wpList P ops Q (⟨some d, op, ty, pos, aft, some (j, p)⟩ :: rest) a w := by
 have hyd := Yy S.kn hj hl
 simp only [wpList, Region.wanted, hyd, cond_true]
 simpa using Or.inl h
theorem st_skip {q : Bool} {rest : List Oper} (S : St n w0 K L a w) (hj : (ops[j]?).bind (·.dst) = some t) (hl : look K t = some (true, .bool p)) (hpq : q = !p) (hd : Nat.blt d n = true)
   (next : ∀ a w, St n w0 ((d, false, undef) :: K) L a w → wpList P ops Q rest a w) : wpList P ops Q (⟨some d, op, ty, pos, aft, some (j, q)⟩ :: rest) a w := by
 have hyd := Yy S.kn hj hl
 have h := next (a.put (some d) undef) w ⟨S.kn.putg hd false undef, S.wd⟩
 simp only [wpList, Region.wanted, hyd, cond_true]
 subst hpq
 cases p <;> simpa using h
end held
end code
end Go.Fw
namespace Go.Fw
open Go.RowKit
def I64 (x : Int) : Prop := -9223372036854775808 ≤ x ∧ x ≤ 9223372036854775807
theorem Xa {x : Int} (h : I64 x) : IntKind.i64.wrap x = x := by
 obtain ⟨h1, h2⟩ := h
 rw [IntKind.wrap_i64]; omega
section ops
variable {P : Program} {n : Nat} {w0 : World} {K : KL} {L : List Chunk} {b : Bool} {dst : Option Tmp} {ty : TypeId} {pos : String} {aft : Array Edge} {gd : Option (Nat × Bool)}
theorem Zd {x : Operand} {v : Value} (hx : Ev n b K x v) : Yr P ⟨dst, .move x, ty, pos, aft, gd⟩ n K w0 L b v := fun a w hb hk _ => by
 simp [execOp, hx a hb hk]
theorem Yp {x : Operand} {v : Value} (hx : Ev n b K x v) : Yr P ⟨dst, .assign x, ty, pos, aft, gd⟩ n K w0 L b v := fun a w hb hk _ => by
 simp [execOp, hx a hb hk]
theorem Xs {x y z : Operand} {p q : Bool} (hx : Ev n b K x (.bool p)) (hy : Ev n p K y (.bool q)) (hz : Ev n b K z (.bool false)) : Yr P ⟨dst, .pick x y z, ty, pos, aft, gd⟩ n K w0 L b (.bool (p && q)) := fun a w hb hk _ => by
 simp only [execOp, hx a hb hk, hz a hb hk]
 cases p with
 | true => simp [asBool, hy a rfl hk]
 | false => simp [asBool]
theorem ys_or {x y z : Operand} {p q : Bool} (hx : Ev n b K x (.bool p)) (hy : Ev n b K y (.bool true)) (hz : Ev n (!p) K z (.bool q)) : Yr P ⟨dst, .pick x y z, ty, pos, aft, gd⟩ n K w0 L b (.bool (p || q)) := fun a w hb hk _ => by
 simp only [execOp, hx a hb hk, hy a hb hk]
 cases p with
 | false => simp [asBool, hz a rfl hk]
 | true => simp [asBool]
theorem ys_and2 {x y z : Operand} {p q : Bool} (hx : Ev n b K x (.bool p)) (hy : Ev n (b && p) K y (.bool q)) (hz : Ev n b K z (.bool false)) : Yr P ⟨dst, .pick x y z, ty, pos, aft, gd⟩ n K w0 L b (.bool (p && q)) := fun a w hb hk _ => by
 simp only [execOp, hx a hb hk, hz a hb hk]
 cases p with
 | true => simp [asBool, hy a (by simp [hb]) hk]
 | false => simp [asBool]
theorem ys_or2 {x y z : Operand} {p q : Bool} (hx : Ev n b K x (.bool p)) (hy : Ev n b K y (.bool true)) (hz : Ev n (b && !p) K z (.bool q)) : Yr P ⟨dst, .pick x y z, ty, pos, aft, gd⟩ n K w0 L b (.bool (p || q)) := fun a w hb hk _ => by
 simp only [execOp, hx a hb hk, hy a hb hk]
 cases p with
 | false => simp [asBool, hz a (by simp [hb]) hk]
 | true => simp [asBool]
def One (P : Program) (t : TypeId) : Prop := (∀ w, (isAgg t).run P w = .ok false w) ∧ ∀ w, (sizeOf t).run P w = .ok 1 w
def Many (P : Program) (t : TypeId) (k : Nat) : Prop := (∀ w, (isAgg t).run P w = .ok true w) ∧ ∀ w, (sizeOf t).run P w = .ok k w
def Size (P : Program) (t : TypeId) (k : Nat) : Prop := ∀ w, (sizeOf t).run P w = .ok k w
def nth : List Value → Nat → Option Value
 | [], _ => none
 | v :: _, 0 => some v
 | _ :: r, i + 1 => nth r i
theorem nth_eq : ∀ (cs : List Value) (i : Nat), nth cs i = cs[i]?
 | [], i => by simp [nth]
 | v :: r, 0 => by simp [nth]
 | v :: r, i + 1 => by simp [nth, nth_eq r i]
def upto : List Value → Nat → Option (List Value)
 | _, 0 => some []
 | [], _ + 1 => none
 | v :: r, k + 1 => match upto r k with
   | some l => some (v :: l)
   | none => none
def cellsAt : List Value → Nat → Nat → Option (List Value)
 | cs, 0, k => upto cs k
 | [], _ + 1, _ => none
 | _ :: r, i + 1, k => cellsAt r i k
theorem upto_eq : ∀ {cs : List Value} {k : Nat} {vs : List Value}, upto cs k = some vs → vs.length = k ∧ vs = cs.take k
 | cs, 0, vs, h => by cases cs <;> simp [upto] at h <;> simp [h]
 | [], k + 1, vs, h => by simp [upto] at h
 | v :: r, k + 1, vs, h => by
   unfold upto at h
   split at h
   · rename_i l hl
     obtain ⟨h1, h2⟩ := upto_eq hl
     simp only [Option.some.injEq] at h
     subst h
     exact ⟨by simp [h1], by simp [← h2]⟩
   · cases h
theorem cellsAt_eq : ∀ {cs : List Value} {i k : Nat} {vs : List Value}, cellsAt cs i k = some vs → vs.length = k ∧ vs = (cs.drop i).take k
 | cs, 0, k, vs, h => by cases cs <;> exact upto_eq h
 | [], i + 1, k, vs, h => by simp [cellsAt] at h
 | v :: r, i + 1, k, vs, h => by simpa using cellsAt_eq (cs := r) (i := i) h
theorem cellsAt_len {cs : List Value} {k i : Nat} {vs : List Value} (h : cellsAt cs i k = some vs) : vs.length = k := (cellsAt_eq h).1
theorem cellsAt_get {cs : List Value} {k i : Nat} {vs : List Value} (h : cellsAt cs i k = some vs) (j : Nat) (u : Value) (hj : vs[j]? = some u) : cs[i + j]? = some u := by
 rw [(cellsAt_eq h).2, List.getElem?_take] at hj
 split at hj
 · rwa [List.getElem?_drop] at hj
 · cases hj
theorem run_load_one {t : TypeId} (h1 : One P t) {w : World} {ad : Addr} {v : Value} (hc : w.cell? ad = some v) : (loadVar t ad).run P w = .ok v w := by
 simp [loadVar, Sem.run_bind, h1.1, run_load, hc]
theorem run_load_many {t : TypeId} {k : Nat} (h1 : Many P t k) {w : World} {ad : Addr} {vs : List Value} (hl : vs.length = k) (hc : ∀ j u, vs[j]? = some u → w.cell? (ad.add j) = some u) :
   (loadVar t ad).run P w = .ok (.agg vs.toArray) w := by
 have h := run_loadCells_list (P := P) w ad vs hc
 rw [hl] at h
 simp [loadVar, Sem.run_bind, h1.1, h1.2, h]
theorem Yg {t : TypeId} {x : Operand} {g i k : Nat} {cs : List Value} {e : TypeId} {fr : Nat × Nat} {v : Value} (h1 : One P t) (hx : Ev n b K x (.pointer (some ⟨g, i, none⟩)))
   (hk : L[k]? = some (.blk g (.cells cs.toArray e fr))) (hc : nth cs i = some v) : Yr P ⟨dst, .load t x, ty, pos, aft, gd⟩ n K w0 L b v := fun a w hb hkn hw => by
 have hg := (hw.get hk).2
 simp [execOp, hx a hb hkn, Instr.loadAt, Instr.sureAddr, run_load_one h1 (ad := ⟨g, i, none⟩) ((cell_of_row w g i _ e fr hg).trans (by rw [nth_eq] at hc; simpa using hc))]
theorem ys_ldA {t : TypeId} {m : Nat} {x : Operand} {g i k : Nat} {cs : List Value} {e : TypeId} {fr : Nat × Nat} {vs : List Value} (h1 : Many P t m) (hx : Ev n b K x (.pointer (some ⟨g, i, none⟩)))
   (hk : L[k]? = some (.blk g (.cells cs.toArray e fr))) (hc : cellsAt cs i m = some vs) : Yr P ⟨dst, .load t x, ty, pos, aft, gd⟩ n K w0 L b (.agg vs.toArray) := fun a w hb hkn hw => by
 have hg := (hw.get hk).2
 have h := run_load_many (P := P) (ad := ⟨g, i, none⟩) h1 (cellsAt_len hc) (w := w) (fun j u hj => by
   rw [Addr.add_mid, cell_of_row w g (i + j) _ e fr hg]; simpa using cellsAt_get hc j u hj)
 simp [execOp, hx a hb hkn, Instr.loadAt, Instr.sureAddr, h]
theorem Ya {t : TypeId} {x : Operand} {ad : Addr} {v : Value} (h1 : One P t) (hx : Ev n b K x (.pointer (some ad))) (hc : b = true → w0.cell? ad = some v) : Yr P ⟨dst, .load t x, ty, pos, aft, gd⟩ n K w0 L b v := fun a w hb hkn hw => by
 have hc' := hc hb
 have h := (hw.below.cell (World.block_lt_of_cell? w0 ad hc')).trans hc'
 simp [execOp, hx a hb hkn, Instr.loadAt, Instr.sureAddr, run_load_one h1 h]
theorem Yh {t : TypeId} {m : Nat} {x : Operand} {g o : Nat} {vs : List Value} (h1 : Many P t m) (hx : Ev n b K x (.pointer (some ⟨g, o, none⟩))) (hl : vs.length = m)
   (hc : b = true → ∀ j u, vs[j]? = some u → w0.cell? ⟨g, o + j, none⟩ = some u) : Yr P ⟨dst, .load t x, ty, pos, aft, gd⟩ n K w0 L b (.agg vs.toArray) := fun a w hb hkn hw => by
 have h := run_load_many (P := P) (ad := ⟨g, o, none⟩) h1 hl (w := w) (fun j u hj => by
   have hc' := hc hb j u hj
   rw [Addr.add_mid]
   exact (hw.below.cell (World.block_lt_of_cell? w0 _ hc')).trans hc')
 simp [execOp, hx a hb hkn, Instr.loadAt, Instr.sureAddr, h]
theorem Owns.cell {w : World} {B e size n cap g : Nat} {xs : List Value} (h : Owns w B e size (some ⟨g, 0, none⟩) n cap xs) {j : Nat} {u : Value} (hj : xs[j]? = some u) : w.cell? ⟨g, j, none⟩ = some u := by
 rcases h.2 with ⟨h0, _⟩ | ⟨g', cur, hA, _, _, hg, _, _, _, ht⟩
 · have h1 := h.1
   rw [h0] at h1
   have : xs = [] := List.eq_nil_of_length_eq_zero (by simpa using h1)
   subst this; simp at hj
 · simp only [Option.some.injEq, Addr.mk.injEq] at hA
   obtain ⟨rfl, _, _⟩ := hA
   rw [cell_of_row w _ j cur e (0, 0) hg]
   rw [← ht, List.getElem?_take] at hj
   split at hj
   · simpa using hj
   · cases hj
theorem ys_ldR {t : TypeId} {x : Operand} {g i k sz m cap : Nat} {xs : List Value} {e : TypeId} {v : Value} (h1 : One P t) (hx : Ev n b K x (.pointer (some ⟨g, i, none⟩)))
   (hk : L[k]? = some (.row e sz (some ⟨g, 0, none⟩) m cap xs)) (hc : b = true → xs[i]? = some v) : Yr P ⟨dst, .load t x, ty, pos, aft, gd⟩ n K w0 L b v := fun a w hb hkn hw => by
 simp [execOp, hx a hb hkn, Instr.loadAt, Instr.sureAddr, run_load_one h1 (Owns.cell (hw.get hk) (hc hb))]
theorem ys_ldRA {t : TypeId} {x : Operand} {g i k sz m cap q : Nat} {xs : List Value} {e : TypeId} {vs : List Value} (h1 : Many P t q) (hx : Ev n b K x (.pointer (some ⟨g, i, none⟩)))
   (hk : L[k]? = some (.row e sz (some ⟨g, 0, none⟩) m cap xs)) (hl : vs.length = q) (hc : b = true → ∀ j u, vs[j]? = some u → xs[i + j]? = some u) :
   Yr P ⟨dst, .load t x, ty, pos, aft, gd⟩ n K w0 L b (.agg vs.toArray) := fun a w hb hkn hw => by
 have h := run_load_many (P := P) (ad := ⟨g, i, none⟩) h1 hl (w := w) (fun j u hj => by
   rw [Addr.add_mid]; exact Owns.cell (hw.get hk) (hc hb j u hj))
 simp [execOp, hx a hb hkn, Instr.loadAt, Instr.sureAddr, h]
def FieldT (P : Program) (s : TypeId) (f o : Nat) : Prop := ∀ w ad, (Instr.fieldAt s (.pointer (some ad)) f).run P w = .ok (.pointer (some (ad.add o))) w
theorem FieldT.mk {s f : Nat} {fs : Array Field} {nm : String} {tt o : Nat} {em : Bool} {tg pp : String} {bo : Nat} {m : Nat} (hu : P.underlying s = some (.struct fs)) (hf : fs[f]? = some ⟨nm, tt, o, em, tg, pp, bo⟩) (hz : ∀ w, (sizeOf tt).run P w = .ok m w) (hm : Nat.blt 0 m = true) : FieldT P s f o := fun w ad => by
 have hm' : m ≠ 0 := by have := Nat.le_of_ble_eq_true hm; omega
 simp [Instr.fieldAt, run_underlying hu, hf, Instr.sureAddr, fieldPlace, hz, hm']
theorem Yz {s f o : Nat} {x : Operand} {g i : Nat} (h1 : FieldT P s f o) (hx : Ev n b K x (.pointer (some ⟨g, i, none⟩))) : Yr P ⟨dst, .fieldAddr s x f, ty, pos, aft, gd⟩ n K w0 L b (.pointer (some ⟨g, i + o, none⟩)) := fun a w hb hkn _ => by
 have h := h1 w ⟨g, i, none⟩
 rw [Addr.add_mid] at h
 simp [execOp, hx a hb hkn, h]
theorem Zp {s f o : Nat} {x : Operand} {g i i' : Nat} (h1 : FieldT P s f o) (hx : Ev n b K x (.pointer (some ⟨g, i, none⟩))) (hi : i + o = i') : Yr P ⟨dst, .fieldAddr s x f, ty, pos, aft, gd⟩ n K w0 L b (.pointer (some ⟨g, i', none⟩)) := hi ▸ Yz h1 hx
def SliceT (P : Program) (t e : TypeId) : Prop := P.underlying t = some (.slice e)
def ArrayT (P : Program) (t : TypeId) (m : Nat) (e : TypeId) : Prop := P.underlying t = some (.array m e)
theorem Yi {t e sz : Nat} {x y : Operand} {g o len cap j : Nat} {ik : IntKind} (h1 : SliceT P t e) (h2 : Size P e sz) (hx : Ev n b K x (.slice (some ⟨g, o, none⟩) len cap)) (hy : Ev n b K y (.int ik (j : Int))) (h : b = true → j < len) :
   Yr P ⟨dst, .indexAddr t x y, ty, pos, aft, gd⟩ n K w0 L b (.pointer (some ⟨g, o + j * sz, none⟩)) := fun a w hb hkn _ => by
 have h' := h hb
 simp [execOp, hx a hb hkn, hy a hb hkn, Instr.indexAt, run_underlying h1, asIntOf, h2 w, Addr.add_mid]
 intro h4; omega
theorem Yj {t e m sz : Nat} {x y : Operand} {g o j : Nat} {ik : IntKind} (h1 : ArrayT P t m e) (h2 : Size P e sz) (hx : Ev n b K x (.pointer (some ⟨g, o, none⟩))) (hy : Ev n b K y (.int ik (j : Int))) (h : b = true → j < m) :
   Yr P ⟨dst, .indexAddr t x y, ty, pos, aft, gd⟩ n K w0 L b (.pointer (some ⟨g, o + j * sz, none⟩)) := fun a w hb hkn _ => by
 have h' := h hb
 simp [execOp, hx a hb hkn, hy a hb hkn, Instr.indexAt, run_underlying h1, asIntOf, h2 w, Addr.add_mid, Instr.sureAddr]
 intro h4; omega
theorem ys_add {t t' : TypeId} {x y : Operand} {k : IntKind} {p q : Int} (hx : Ev n b K x (.int k p)) (hy : Ev n b K y (.int k q)) : Yr P ⟨dst, .binOp .add t x y t', ty, pos, aft, gd⟩ n K w0 L b (.int k (k.wrap (p + q))) := fun a w hb hkn _ => by
 simp only [execOp, hx a hb hkn, hy a hb hkn]
 simp [eqGuard, binOp, Op.intArith]
theorem ys_sub {t t' : TypeId} {x y : Operand} {k : IntKind} {p q : Int} (hx : Ev n b K x (.int k p)) (hy : Ev n b K y (.int k q)) : Yr P ⟨dst, .binOp .sub t x y t', ty, pos, aft, gd⟩ n K w0 L b (.int k (k.wrap (p - q))) := fun a w hb hkn _ => by
 simp only [execOp, hx a hb hkn, hy a hb hkn]
 simp [eqGuard, binOp, Op.intArith]
theorem ys_mul {t t' : TypeId} {x y : Operand} {k : IntKind} {p q : Int} (hx : Ev n b K x (.int k p)) (hy : Ev n b K y (.int k q)) : Yr P ⟨dst, .binOp .mul t x y t', ty, pos, aft, gd⟩ n K w0 L b (.int k (k.wrap (p * q))) := fun a w hb hkn _ => by
 simp only [execOp, hx a hb hkn, hy a hb hkn]
 simp [eqGuard, binOp, Op.intArith]
theorem Yr.of_imp {o : Oper} {v u : Value} (h : b = true → v = u) (hy : Yr P o n K w0 L b v) : Yr P o n K w0 L b u := fun a w hb hk hw => by
 rw [← h hb]; exact hy a w hb hk hw
theorem ys_addI {t t' : TypeId} {x y : Operand} {p q : Int} (hx : Ev n b K x (.int .i64 p)) (hy : Ev n b K y (.int .i64 q)) (h : b = true → I64 (p + q)) : Yr P ⟨dst, .binOp .add t x y t', ty, pos, aft, gd⟩ n K w0 L b (.int .i64 (p + q)) :=
 Yr.of_imp (fun hb => by rw [Xa (h hb)]) (ys_add hx hy)
theorem Xj {t t' : TypeId} {x y : Operand} {p q : Int} (hx : Ev n b K x (.int .i64 p)) (hy : Ev n b K y (.int .i64 q)) (h : b = true → I64 (p - q)) : Yr P ⟨dst, .binOp .sub t x y t', ty, pos, aft, gd⟩ n K w0 L b (.int .i64 (p - q)) :=
 Yr.of_imp (fun hb => by rw [Xa (h hb)]) (ys_sub hx hy)
theorem Yu {t t' : TypeId} {x y : Operand} {p q : Int} (hx : Ev n b K x (.int .i64 p)) (hy : Ev n b K y (.int .i64 q)) (h : b = true → I64 (p * q)) : Yr P ⟨dst, .binOp .mul t x y t', ty, pos, aft, gd⟩ n K w0 L b (.int .i64 (p * q)) :=
 Yr.of_imp (fun hb => by rw [Xa (h hb)]) (ys_mul hx hy)
section cmp
variable {t t' : TypeId} {x y : Operand} {k : IntKind} {p q : Int} (hx : Ev n b K x (.int k p)) (hy : Ev n b K y (.int k q))
include hx hy
theorem Zy : Yr P ⟨dst, .binOp .lss t x y t', ty, pos, aft, gd⟩ n K w0 L b (.bool (decide (p < q))) := fun a w hb hkn _ => by
 simp only [execOp, hx a hb hkn, hy a hb hkn]
 simp [eqGuard, binOp, Op.intCmp]
theorem Xq : Yr P ⟨dst, .binOp .leq t x y t', ty, pos, aft, gd⟩ n K w0 L b (.bool (decide (p ≤ q))) := fun a w hb hkn _ => by
 simp only [execOp, hx a hb hkn, hy a hb hkn]
 simp [eqGuard, binOp, Op.intCmp]
theorem Xf : Yr P ⟨dst, .binOp .gtr t x y t', ty, pos, aft, gd⟩ n K w0 L b (.bool (decide (q < p))) := fun a w hb hkn _ => by
 simp only [execOp, hx a hb hkn, hy a hb hkn]
 simp [eqGuard, binOp, Op.intCmp]
theorem Yd : Yr P ⟨dst, .binOp .geq t x y t', ty, pos, aft, gd⟩ n K w0 L b (.bool (decide (q ≤ p))) := fun a w hb hkn _ => by
 simp only [execOp, hx a hb hkn, hy a hb hkn]
 simp [eqGuard, binOp, Op.intCmp]
theorem Yt : Yr P ⟨dst, .binOp .eql t x y t', ty, pos, aft, gd⟩ n K w0 L b (.bool (decide (p = q))) := fun a w hb hkn _ => by
 simp only [execOp, hx a hb hkn, hy a hb hkn]
 simp [eqGuard, binOp, Op.intCmp]; rfl
theorem Yn : Yr P ⟨dst, .binOp .neq t x y t', ty, pos, aft, gd⟩ n K w0 L b (.bool (decide (p ≠ q))) := fun a w hb hkn _ => by
 simp only [execOp, hx a hb hkn, hy a hb hkn]
 simp [eqGuard, binOp, Op.intCmp]
 rw [Bool.eq_iff_iff]; simp
end cmp
def EqT (P : Program) (t : TypeId) (vs us : List Value) (r : Bool) : Prop :=
 ∀ w, (eqGuard .eql t (.tmp 0) (.tmp 0) (.agg vs.toArray) (.agg us.toArray)).run P w = .ok () w ∧ (Op.equalIn 10000 t (.agg vs.toArray) (.agg us.toArray)).run P w = .ok r w
theorem eqGuard_agg (op : BinOp) (t : TypeId) (x y x' y' : Operand) (p q : Array Value) (h : op = .eql ∨ op = .neq) : eqGuard op t x y (.agg p) (.agg q) = eqGuard .eql t x' y' (.agg p) (.agg q) := by
 rcases h with rfl | rfl <;> rfl
theorem ys_eqA {t t' : TypeId} {x y : Operand} {vs us : List Value} {r : Bool} (hx : Ev n b K x (.agg vs.toArray)) (hy : Ev n b K y (.agg us.toArray)) (h : EqT P t vs us r) : Yr P ⟨dst, .binOp .eql t x y t', ty, pos, aft, gd⟩ n K w0 L b (.bool r) := fun a w hb hkn _ => by
 have h1 := (h w).1
 simp only [execOp, hx a hb hkn, hy a hb hkn]
 rw [eqGuard_agg .eql t x y (.tmp 0) (.tmp 0) _ _ (.inl rfl)]
 simp [h1, run_eql_struct, (h w).2]
theorem ys_neA {t t' : TypeId} {x y : Operand} {vs us : List Value} {r : Bool} (hx : Ev n b K x (.agg vs.toArray)) (hy : Ev n b K y (.agg us.toArray)) (h : EqT P t vs us r) : Yr P ⟨dst, .binOp .neq t x y t', ty, pos, aft, gd⟩ n K w0 L b (.bool (!r)) := fun a w hb hkn _ => by
 have h1 := (h w).1
 simp only [execOp, hx a hb hkn, hy a hb hkn]
 rw [eqGuard_agg .neq t x y (.tmp 0) (.tmp 0) _ _ (.inr rfl)]
 simp [h1, run_neq_struct, (h w).2]
theorem ys_not {t : TypeId} {x : Operand} {p : Bool} (hx : Ev n b K x (.bool p)) : Yr P ⟨dst, .unOp .not t x, ty, pos, aft, gd⟩ n K w0 L b (.bool (!p)) := fun a w hb hkn _ => by
 simp [execOp, hx a hb hkn, Op.unary]
theorem ys_lenS {t t' e : TypeId} {x : Operand} {A : Option Addr} {m c : Nat} (h1 : SliceT P t e) (hx : Ev n b K x (.slice A m c)) : Yr P ⟨dst, .call ⟨.builtin .len, #[x], #[t]⟩, t', pos, aft, gd⟩ n K w0 L b (.int .i64 (m : Int)) := fun a w hb hkn _ => by
 simp [execOp, resolve, invoke, builtin, Builtin.len_, hx a hb hkn, run_underlying h1, goInt]
theorem ys_ext {x : Operand} {i : Nat} {vs : List Value} {v : Value} (hx : Ev n b K x (.tuple vs.toArray)) (h : vs[i]? = some v) : Yr P ⟨dst, .extract x i, ty, pos, aft, gd⟩ n K w0 L b v := fun a w hb hkn _ => by
 simp [execOp, hx a hb hkn, Instr.extract, h]
theorem ys_build {t : TypeId} {ps : List (Nat × Operand)} {vs : List Value} {v : Value} (hx : EvL n b K (ps.map (·.2)) vs) (hr : ∀ w, (Instr.build t ((ps.map (·.1)).zip vs).toArray).run P w = .ok v w) :
   Yr P ⟨dst, .build t ps.toArray, ty, pos, aft, gd⟩ n K w0 L b v := fun a w hb hkn _ => by
 have h := hx a hb hkn
 have e : (ps.toArray.map fun (i, x) => (i, a.eval x)) = ((ps.map (·.1)).zip vs).toArray := by
   rw [← h]
   simp only [List.map_toArray, List.map_map, List.zip_map', Function.comp_def]
 simp only [execOp, e]
 simp [hr]
def lay (cs : List Value) : Nat → List Value → List Value
 | _, [] => cs
 | i, v :: vs => lay (cs.set i v) (i + 1) vs
theorem lay_len : ∀ (vs cs : List Value) (i : Nat), (lay cs i vs).length = cs.length
 | [], cs, i => rfl
 | v :: vs, cs, i => by rw [lay, lay_len vs]; simp
def fillL (places : Nat → Option (Nat × Nat)) (zs : List Value) : List (Nat × Value) → Option (List Value)
 | [] => some zs
 | (i, v) :: rest => match places i with
   | none => none
   | some (off, size) => bif Nat.beq v.cells.toList.length size && Nat.ble (off + size) zs.length then fillL places (lay zs off v.cells.toList) rest else none
theorem foldl_lay : ∀ (vs : List Value) (off j : Nat) (zs : List Value), (vs.zipIdx j).foldl (fun cs (x : Value × Nat) => cs.setIfInBounds (off + x.2) x.1) zs.toArray = (lay zs (off + j) vs).toArray
 | [], off, j, zs => rfl
 | v :: vs, off, j, zs => by
   simp only [List.zipIdx_cons, List.foldl_cons, lay]
   rw [List.setIfInBounds_toArray, foldl_lay vs off (j + 1)]
   rfl
theorem fill_of : ∀ {places : Nat → Option (Nat × Nat)} {parts : List (Nat × Value)} {zs us : List Value}, fillL places zs parts = some us → Instr.fill places zs.toArray parts = some us.toArray
 | places, [], zs, us, h => by simp [fillL] at h; simp [Instr.fill, h]
 | places, (i, v) :: rest, zs, us, h => by
   unfold fillL at h
   unfold Instr.fill
   split at h
   · cases h
   · rename_i off size hp
     simp only [hp]
     cases hc : (Nat.beq v.cells.toList.length size && Nat.ble (off + size) zs.length) with
     | false => rw [hc] at h; simp at h
     | true =>
       rw [hc] at h
       simp only [cond_true] at h
       simp only [Bool.and_eq_true, Nat.ble_eq] at hc
       obtain ⟨h1, h2⟩ := hc
       have h1' : v.cells.size = size := by simpa using h1
       have h3 : (decide (v.cells.size ≠ size) || decide (off + v.cells.size > zs.toArray.size)) = false := by
         simp [h1']; omega
       have h4 : v.cells.zipIdx.foldl (fun cs (x : Value × Nat) => cs.setIfInBounds (off + x.2) x.1) zs.toArray = (lay zs off v.cells.toList).toArray := by
         have := foldl_lay v.cells.toList off 0 zs
         rw [← Array.foldl_toList, Array.toList_zipIdx]
         simpa using this
       rw [if_neg (by rw [h3]; simp)]
       have h5 := fill_of (places := places) (parts := rest) h
       rw [← h4] at h5
       exact h5
def BuildT (P : Program) (t : TypeId) (zs : List Value) (places : List (Nat × Nat)) : Prop :=
 (∃ z, (∀ w, (zeroValue t).run P w = .ok z w) ∧ z.cells = zs.toArray) ∧ ∃ fs, P.underlying t = some (.struct fs) ∧ ∀ w, (fs.mapM (fun f => do pure (f.offset, ← sizeOf f.type)) : Sem (Array (Nat × Nat))).run P w = .ok places.toArray w
theorem BuildT.run {t : TypeId} {zs : List Value} {places : List (Nat × Nat)} (h : BuildT P t zs places) {parts : List (Nat × Value)} {us : List Value} (hf : fillL (places[·]?) zs parts = some us) (w : World) : (Instr.build t parts.toArray).run P w = .ok (.agg us.toArray) w := by
 obtain ⟨⟨z, hz, hc⟩, fs, hu, hm⟩ := h
 have h1 : Instr.fill (fun x => places[x]?) zs.toArray parts = some us.toArray := fill_of hf
 simp only [Instr.build, Sem.run_bind, hz, Result.andThen_ok, run_underlying hu, hm, hc]
 simp [h1]
theorem Xc {t : TypeId} {ps : List (Nat × Operand)} {vs zs us : List Value} {places : List (Nat × Nat)} (h : BuildT P t zs places) (hx : EvL n b K (ps.map (·.2)) vs) (hr : fillL (places[·]?) zs ((ps.map (·.1)).zip vs) = some us) :
   Yr P ⟨dst, .build t ps.toArray, ty, pos, aft, gd⟩ n K w0 L b (.agg us.toArray) := ys_build hx (h.run hr)
theorem Zi {f : FuncId} {xs : List Operand} {ts : Array TypeId} {vs : List Value} {v : Value} (hf : ∀ args w, (callFunc f args).run P w = .ok (.enter f args) w) (hx : EvL n b K xs vs)
   (hc : b = true → ∀ w, Wd w0 L w → Calls P f vs.toArray w fun e w' => e = .returned v ∧ Bel w.heap.size w w') : Ys P ⟨dst, .call ⟨.value (.func f), xs.toArray, ts⟩, ty, pos, aft, gd⟩ n K w0 L b v := fun a w hb hkn hw => by
 have e : (xs.toArray.map a.eval) = vs.toArray := by rw [List.map_toArray, hx a hb hkn]
 have hrun : (execOp a.eval ⟨dst, .call ⟨.value (.func f), xs.toArray, ts⟩, ty, pos, aft, gd⟩).run P w = .ok (.enter f vs.toArray) w := by
   simp only [execOp, resolve, e]
   simp [Act.eval, Deferred.ofValue, invoke, hf]
 rw [hrun]
 exact ⟨rfl, (hc hb w hw).mono fun e w' ⟨he, hbl⟩ => ⟨he, hw.step hbl⟩⟩
end ops
section movers
variable {P : Program} {n : Nat} {w0 : World} {K : KL} {L : List Chunk} {ty : TypeId} {pos : String} {aft : Array Edge} {gd : Option (Nat × Bool)} {a : Act} {w : World} {Z : Act → World → Prop} {Q : Exit → Act → World → Prop} {d : Nat}
theorem Xv {o : Oper} {v : Value} {w' : World} (hr : (execOp a.eval o).run P w = .ok (.value v) w') (h : Z (a.put o.dst v) w') : o.wp P a w Z Q := by
 unfold Oper.wp; rw [hr]; exact h
theorem run_wp0 {o : Oper} {w' : World} (hr : (execOp a.eval o).run P w = .ok .skip w') (h : Z (a.put o.dst undef) w') : o.wp P a w Z Q := by
 unfold Oper.wp; rw [hr]; exact h
theorem Xw {t : TypeId} {x : Operand} {vs : List Value} (S : St n w0 K L a w) (hx : Ev n true K x (.agg vs.toArray)) (hd : Nat.blt d n = true)
   (next : ∀ g a w, St n w0 ((d, true, .pointer (some ⟨g, 0, none⟩)) :: K) (.blk g (.cells vs.toArray t) :: L) a w → Z a w) : Oper.wp P ⟨some d, .box t x, ty, pos, aft, gd⟩ a w Z Q := by
 refine Xv (v := .pointer (some ⟨w.heap.size, 0, none⟩)) (w' := w.alloc (.cells vs.toArray t)) ?_ (next _ _ _ ⟨S.kn.put hd _, S.wd.alloc _⟩)
 simp [execOp, hx a rfl S.kn, Instr.box, newVar, newRow, Value.cells]
theorem op_box1 {t : TypeId} {x : Operand} {v : Value} (S : St n w0 K L a w) (hx : Ev n true K x v) (h1 : v.oneCell' = true) (hd : Nat.blt d n = true)
   (next : ∀ g a w, St n w0 ((d, true, .pointer (some ⟨g, 0, none⟩)) :: K) (.blk g (.cells #[v] t) :: L) a w → Z a w) : Oper.wp P ⟨some d, .box t x, ty, pos, aft, gd⟩ a w Z Q := by
 refine Xv (v := .pointer (some ⟨w.heap.size, 0, none⟩)) (w' := w.alloc (.cells #[v] t)) ?_ (next _ _ _ ⟨S.kn.put hd _, S.wd.alloc _⟩)
 have hv : v.cells = #[v] := by cases v <;> simp_all [Value.cells, Value.oneCell']
 simp [execOp, hx a rfl S.kn, Instr.box, newVar, newRow, hv]
theorem Zr {t : TypeId} {v : Value} {cs : List Value} (S : St n w0 K L a w) (hz : ∀ w, (zeroValue t).run P w = .ok v w) (hcs : v.cells = cs.toArray) (hd : Nat.blt d n = true)
   (next : ∀ g a w, St n w0 ((d, true, .pointer (some ⟨g, 0, none⟩)) :: K) (.blk g (.cells cs.toArray t) :: L) a w → Z a w) : Oper.wp P ⟨some d, .alloc t, ty, pos, aft, gd⟩ a w Z Q := by
 refine Xv (v := .pointer (some ⟨w.heap.size, 0, none⟩)) (w' := w.alloc (.cells cs.toArray t)) ?_ (next _ _ _ ⟨S.kn.put hd _, S.wd.alloc _⟩)
 simp [execOp, Instr.alloc, hz, newVar, newRow, hcs]
theorem Xh {g : Nat} {t : TypeId} : ∀ (vs : List Value) (i j : Nat) (cs : List Value) (w : World), w.heap[g]? = some (.cells cs.toArray t (0, 0)) → i + j + vs.length ≤ cs.length → (∀ v ∈ vs, v.oneCell' = true) →
   ∃ w', (storeCells ⟨g, i, none⟩ vs j).run P w = .ok () w' ∧ w'.heap[g]? = some (.cells (lay cs (i + j) vs).toArray t (0, 0)) ∧ Turned (fun x => x = g) w w'
 | [], i, j, cs, w, hg, _, _ => ⟨w, rfl, hg, ⟨rfl, rfl, rfl, Nat.le_refl _, fun _ _ _ => rfl, Nat.le_refl _⟩⟩
 | v :: vs, i, j, cs, w, hg, hlen, h1 => by
   have hlt : i + j < cs.length := by simp at hlen; omega
   have hc : w.cell? ⟨g, i + j, none⟩ = some cs[i + j] := by rw [cell_of_row w g (i + j) _ t (0, 0) hg]; simp [hlt]
   have hfz := frozen_of_row w g (i + j) _ t hg
   have hs : (store ((⟨g, i, none⟩ : Addr).add j) v).run P w = .ok () (w.setCell ⟨g, i + j, none⟩ v) := by
     rw [Addr.add_mid, run_store P w _ v _ (h1 v (by simp))]
     simp [hc, hfz]
   have hg' : (w.setCell ⟨g, i + j, none⟩ v).heap[g]? = some (.cells (cs.set (i + j) v).toArray t (0, 0)) := by
     rw [heap_setCell_same w g (i + j) _ t v hg]; simp
   obtain ⟨w', hr, hh, hb⟩ := Xh vs i (j + 1) (cs.set (i + j) v) _ hg' (by simp at hlen ⊢; omega) (fun u hu => h1 u (by simp [hu]))
   refine ⟨w', ?_, by rw [lay]; exact hh, ?_⟩
   · rw [storeCells]
     simp only [Sem.run_bind, hs, Result.andThen_ok]
     exact hr
   · exact ⟨hb.os, hb.tape, hb.output, by have := hb.size; simpa using this, fun k hk hne => (hb.block k (by simpa using hk) hne).trans (heap_setCell_other w _ k v (fun e => hne (by simpa using e))), hb.drawn⟩
theorem Xy {t : TypeId} {x y : Operand} {g i k : Nat} {cs : List Value} {e : TypeId} {v : Value} (S : St n w0 K L a w) (h1 : Size P t 1) (hx : Ev n true K x (.pointer (some ⟨g, i, none⟩))) (hy : Ev n true K y v)
   (hk : L[k]? = some (.blk g (.cells cs.toArray e))) (hv : v.oneCell' = true) (hi : i < cs.length)
   (next : ∀ a w, St n w0 K (L.set k (.blk g (.cells (cs.set i v).toArray e))) a w → Z a w) : Oper.wp P ⟨none, .store t x y, ty, pos, aft, gd⟩ a w Z Q := by
 have hg := (S.wd.get hk).2
 obtain ⟨w', hr, hh, hb⟩ := Xh (P := P) [v] i 0 cs w hg (by simp; omega) (by simpa using hv)
 have hvc : v.cells = #[v] := by cases v <;> simp_all [Value.cells, Value.oneCell']
 refine run_wp0 (w' := w') ?_ (next _ _ ⟨S.kn, S.wd.change hk hb ⟨(S.wd.get hk).1, by simpa [lay] using hh⟩ (fun _ h => .inl h)⟩)
 simp [execOp, hx a rfl S.kn, hy a rfl S.kn, Instr.storeAt, Instr.sureAddr, storeVar, h1 w, hvc, hr]
theorem op_stA {t : TypeId} {m : Nat} {x y : Operand} {g i k : Nat} {cs : List Value} {e : TypeId} {vs : List Value} (S : St n w0 K L a w) (h1 : Size P t m) (hx : Ev n true K x (.pointer (some ⟨g, i, none⟩))) (hy : Ev n true K y (.agg vs.toArray))
   (hk : L[k]? = some (.blk g (.cells cs.toArray e))) (hl : vs.length = m) (hv : ∀ v ∈ vs, v.oneCell' = true) (hi : i + m ≤ cs.length)
   (next : ∀ a w, St n w0 K (L.set k (.blk g (.cells (lay cs i vs).toArray e))) a w → Z a w) : Oper.wp P ⟨none, .store t x y, ty, pos, aft, gd⟩ a w Z Q := by
 have hg := (S.wd.get hk).2
 obtain ⟨w', hr, hh, hb⟩ := Xh (P := P) vs i 0 cs w hg (by omega) hv
 refine run_wp0 (w' := w') ?_ (next _ _ ⟨S.kn, S.wd.change hk hb ⟨(S.wd.get hk).1, by simpa using hh⟩ (fun _ h => .inl h)⟩)
 simp [execOp, hx a rfl S.kn, hy a rfl S.kn, Instr.storeAt, Instr.sureAddr, storeVar, h1 w, Value.cells, hl, hr]
theorem Yb {t : TypeId} {x y : Operand} {g k : Nat} {cs : List Value} {e : TypeId} {vs : List Value} {m : Nat} (S : St n w0 K L a w) (h1 : Size P t m) (hx : Ev n true K x (.pointer (some ⟨g, 0, none⟩))) (hy : Ev n true K y (.agg vs.toArray))
   (hk : L[k]? = some (.blk g (.cells cs.toArray e))) (hm : cs.length = m) (hl : vs.length = m) (hv : ∀ v ∈ vs, v.oneCell' = true)
   (next : ∀ a w, St n w0 K (L.set k (.blk g (.cells vs.toArray e))) a w → Z a w) : Oper.wp P ⟨none, .store t x y, ty, pos, aft, gd⟩ a w Z Q := by
 subst hm
 refine op_stA S h1 hx hy hk hl hv (by omega) (fun a w S => next a w ?_)
 have key : ∀ (vs cs : List Value) (i : Nat), i + vs.length = cs.length → lay cs i vs = cs.take i ++ vs := by
   intro vs
   induction vs with
   | nil => intro cs i h; simp at h; simp [lay, h]
   | cons v vs ih =>
     intro cs i h
     simp at h
     rw [lay, ih _ _ (by simp; omega)]
     have e : (cs.set i v).take (i + 1) = cs.take i ++ [v] := by
       rw [List.take_succ_eq_append_getElem (by simp; omega)]
       simp [List.take_set]
       exact List.set_eq_of_length_le (by simp; omega)
     rw [e]; simp
 have := key vs cs 0 (by omega)
 simp at this
 rwa [this] at S
theorem op_call {f : FuncId} {xs : List Operand} {ts : Array TypeId} {vs : List Value} {dst : Option Tmp} {R : Ending → World → Prop} (S : St n w0 K L a w) (hf : ∀ args w, (callFunc f args).run P w = .ok (.enter f args) w) (hx : EvL n true K xs vs)
   (hc : Calls P f vs.toArray w R) (next : ∀ e w', R e w' → ∃ v, e = .returned v ∧ Z (a.put dst v) w') : Oper.wp P ⟨dst, .call ⟨.value (.func f), xs.toArray, ts⟩, ty, pos, aft, gd⟩ a w Z Q := by
 have e : (xs.toArray.map a.eval) = vs.toArray := by rw [List.map_toArray, hx a rfl S.kn]
 have hrun : (execOp a.eval ⟨dst, .call ⟨.value (.func f), xs.toArray, ts⟩, ty, pos, aft, gd⟩).run P w = .ok (.enter f vs.toArray) w := by
   simp only [execOp, resolve, e]
   simp [Act.eval, Deferred.ofValue, invoke, hf]
 unfold Oper.wp
 rw [hrun]
 exact hc.mono fun e w' h => by obtain ⟨v, rfl, hz⟩ := next e w' h; exact hz
end movers
section ends
variable {P : Program} {n : Nat} {w0 : World} {K : KL} {L : List Chunk} {a : Act} {w : World} {fn : Func} {R : Ending → World → Prop} {t : Nat} {v : Value}
theorem Zk (S : St n w0 K L a w) (hr : (results fn a.tmps).run P w = .ok v w) (h : R (.returned v) w) : bodyPost P fn R .ret a w := ⟨S.kn.defers, v, hr, h⟩
def res1 (tmps : Array Value) (r : ResultVar) : Sem Value := match r with
 | .tmp t => pure (tmps.getD t undef)
 | .cell a t => do loadVar t (← asAddr (tmps.getD a undef))
theorem results_eq (fn : Func) (tmps : Array Value) : results fn tmps = (do let vs ← fn.results.mapM (res1 tmps); pure (if h : vs.size = 1 then vs[0] else .tuple vs)) := rfl
def Rv (P : Program) (n : Nat) (w0 : World) (K : KL) (L : List Chunk) (r : ResultVar) (v : Value) : Prop :=
 ∀ a w, Kn n K a → Wd w0 L w → (res1 a.tmps r).run P w = .ok v w
theorem Rv.tmp (h : look K t = some (true, v)) : Rv P n w0 K L (.tmp t) v := fun a w hk _ => by
 simp [res1, hk.slot t true v h]
theorem Rv.cell {ty m : Nat} {g k : Nat} {cs : List Value} {e : TypeId} {fr : Nat × Nat} (h1 : Many P ty m) (h : look K t = some (true, .pointer (some ⟨g, 0, none⟩))) (hk : L[k]? = some (.blk g (.cells cs.toArray e fr))) (hm : cs.length = m) :
   Rv P n w0 K L (.cell t ty) (.agg cs.toArray) := fun a w hkn hw => by
 have hg := (hw.get hk).2
 have h2 := run_load_many (P := P) (ad := ⟨g, 0, none⟩) h1 hm (w := w) (fun j u hj => by
   rw [Addr.add_mid, cell_of_row w g (0 + j) _ e fr hg]; simpa using hj)
 simp [res1, hkn.slot t true _ h, asAddr, h2]
theorem results1 {fn : Func} {r : ResultVar} (S : St n w0 K L a w) (h : fn.results = #[r]) (hv : Rv P n w0 K L r v) : (results fn a.tmps).run P w = .ok v w := by
 have h1 := hv a w S.kn S.wd
 simp [results_eq, h, h1]
theorem results2 {fn : Func} {r r' : ResultVar} {v' : Value} (S : St n w0 K L a w) (h : fn.results = #[r, r']) (hv : Rv P n w0 K L r v) (hv' : Rv P n w0 K L r' v') : (results fn a.tmps).run P w = .ok (.tuple #[v, v']) w := by
 have h1 := hv a w S.kn S.wd
 have h2 := hv' a w S.kn S.wd
 simp [results_eq, h, h1, h2]
theorem results3 {fn : Func} {r r' r'' : ResultVar} {v' v'' : Value} (S : St n w0 K L a w) (h : fn.results = #[r, r', r'']) (hv : Rv P n w0 K L r v) (hv' : Rv P n w0 K L r' v') (hv'' : Rv P n w0 K L r'' v'') : (results fn a.tmps).run P w = .ok (.tuple #[v, v', v'']) w := by
 have h1 := hv a w S.kn S.wd
 have h2 := hv' a w S.kn S.wd
 have h3 := hv'' a w S.kn S.wd
 simp [results_eq, h, h1, h2, h3]
end ends
end Go.Fw
namespace Go.Fw
open Go.RowKit
theorem Za {K : Act → World → Prop} {Q : Exit → Act → World → Prop} {a : Act} {w : World} (h : K a w) : Exit.then K Q .normal a w := h
section exits
variable {K : Act → World → Prop} {Q : Exit → Act → World → Prop} {a : Act} {w : World} {i j : Nat}
theorem Zj (h : Q .ret a w) : Exit.then K Q .ret a w := h
theorem Zc (h : Q (.exit i) a w) : Exit.then K Q (.exit i) a w := h
theorem Yk (h : Q .ret a w) : Exit.inBlock i Q .ret a w := h
theorem Zg (h : Q .normal a w) : Exit.inBlock i Q .normal a w := h
theorem Zn (h : Q .normal a w) : Exit.inBlock i Q (.exit i) a w := by simp [Exit.inBlock, h]
end exits
theorem St.weak {n : Nat} {w0 : World} {K K' : KL} {L L' : List Chunk} {a : Act} {w : World} (S : St n w0 K L a w) (hK : Fits [] K K') (hL : L'.Sublist L) : St n w0 K' L' a w := ⟨S.kn.fits hK, S.wd.sub hL⟩
def Sl {α : Type} (enc : α → List Value) (size : Nat) (w : World) (B : Nat) (v : Value) (l : List α) : Prop :=
 ∃ A cap, v = .slice A l.length cap ∧ l.length ≤ cap ∧ cap ≤ 9223372036854775807 ∧
   (0 < l.length → ∃ g o, A = some ⟨g, o, none⟩ ∧ g < B ∧ ∀ k x, l[k]? = some x → ∀ j u, (enc x)[j]? = some u → w.cell? ⟨g, o + k * size + j, none⟩ = some u)
section sl
variable {α : Type} {enc : α → List Value} {size : Nat} {w w' w0 : World} {B B' : Nat} {v : Value} {l : List α} {L : List Chunk}
theorem Sl.keep (h : Sl enc size w B v l) (hk : Below B w w') : Sl enc size w' B v l := by
 obtain ⟨A, cap, rfl, h1, h2, h3⟩ := h
 refine ⟨A, cap, rfl, h1, h2, fun hl => ?_⟩
 obtain ⟨g, o, hA, hg, hc⟩ := h3 hl
 exact ⟨g, o, hA, hg, fun k x hx j u hu => (hk.cell (p := ⟨g, o + k * size + j, none⟩) hg).trans (hc k x hx j u hu)⟩
theorem Sl.mono (h : Sl enc size w B v l) (hB : B ≤ B') : Sl enc size w B' v l := by
 obtain ⟨A, cap, rfl, h1, h2, h3⟩ := h
 refine ⟨A, cap, rfl, h1, h2, fun hl => ?_⟩
 obtain ⟨g, o, hA, hg, hc⟩ := h3 hl
 exact ⟨g, o, hA, by omega, hc⟩
theorem Sl.old (W : Wd w0 L w) (h : Sl enc size w0 w0.heap.size v l) : Sl enc size w w.heap.size v l := (h.keep W.below.toBelow).mono W.below.size
end sl
end Go.Fw
namespace Go.Fw
open Go.RowKit
def InfoT (P : Program) (e : TypeId) (z : Value) (size bytes : Nat) : Prop := (P.info? e).map (fun i => (i.zero, i.size, i.bytes)) = some (some z, size, bytes)
theorem InfoT.parts {P : Program} {e : TypeId} {z : Value} {size bytes : Nat} (h : InfoT P e z size bytes) : ∃ i, P.info? e = some i ∧ i.zero = some z ∧ i.size = size ∧ i.bytes = bytes := by
 unfold InfoT at h
 cases hi : P.info? e with
 | none => rw [hi] at h; simp at h
 | some i => rw [hi] at h; simp at h; exact ⟨i, rfl, h⟩
structure Src (P : Program) (w : World) (size : Nat) (x : Value) (m : Nat) (news : List Value) : Prop where
 len : ∀ W, (Builtin.lenOf x).run P W = .ok m W
 here : (Builtin.firstCells size m x).run P w = .ok news.toArray w
 drew : (Builtin.firstCells size m x).run P w.drew = .ok news.toArray w.drew
 length : news.length = m * size
 one : ∀ u ∈ news, u.oneCell' = true
section src
variable {P : Program} {w : World} {size m : Nat} {news : List Value}
theorem Src.at_ {g o c : Nat} (hl : news.length = m * size) (h1 : ∀ u ∈ news, u.oneCell' = true) (h : ∀ j u, news[j]? = some u → w.cell? ⟨g, o + j, none⟩ = some u) : Src P w size (.slice (some ⟨g, o, none⟩) m c) m news :=
 ⟨fun W => by simp [Builtin.lenOf],
  run_firstCells_some (P := P) w size m ⟨g, o, none⟩ m c news hl (fun j u hj => by rw [Addr.add_mid]; exact h j u hj),
  run_firstCells_some (P := P) w.drew size m ⟨g, o, none⟩ m c news hl (fun j u hj => by rw [Addr.add_mid]; exact h j u hj), hl, h1⟩
theorem Src.none_ {A : Option Addr} {c : Nat} : Src P w size (.slice A 0 c) 0 [] := by
 cases A with
 | none => exact ⟨fun W => by simp [Builtin.lenOf], by simp [Builtin.firstCells], by simp [Builtin.firstCells], by simp, by simp⟩
 | some a => exact ⟨fun W => by simp [Builtin.lenOf], by simp [Builtin.firstCells, loadCells, loadCellsFrom], by simp [Builtin.firstCells, loadCells, loadCellsFrom], by simp, by simp⟩
theorem Src.blk {L : List Chunk} {w0 : World} (hw : Wd w0 L w) {k g c : Nat} {e : TypeId} {fr : Nat × Nat} (hk : L[k]? = some (.blk g (.cells news.toArray e fr))) (hl : news.length = m * size) (h1 : ∀ u ∈ news, u.oneCell' = true) : Src P w size (.slice (some ⟨g, 0, none⟩) m c) m news :=
 Src.at_ hl h1 (fun j u hj => by rw [cell_of_row w g (0 + j) _ e fr (hw.get hk).2]; simpa using hj)
theorem Src.row {L : List Chunk} {w0 : World} (hw : Wd w0 L w) {k e cap c : Nat} {A : Option Addr} (hk : L[k]? = some (.row e size A m cap news)) (h1 : ∀ u ∈ news, u.oneCell' = true) : Src P w size (.slice A m c) m news := by
 have h := hw.get hk
 rcases h.2 with ⟨rfl, _⟩ | ⟨g, cur, rfl, _⟩
 · have : news = [] := List.eq_nil_of_length_eq_zero (by simpa using h.1)
   subst this
   exact Src.none_
 · exact Src.at_ h.1 h1 (fun j u hj => by rw [Nat.zero_add]; exact Owns.cell h hj)
theorem Src.sl {α : Type} {enc : α → List Value} {B : Nat} {A : Option Addr} {l : List α} {cap c : Nat} (h : Sl enc size w B (.slice A l.length cap) l) (hsz : 0 < size) (he : ∀ x, (enc x).length = size) (h1 : ∀ x, ∀ u ∈ enc x, u.oneCell' = true) :
   Src P w size (.slice A l.length c) l.length (l.flatMap enc) := by
 have hlen : ∀ l : List α, (l.flatMap enc).length = l.length * size := by
   intro l
   induction l with
   | nil => simp
   | cons x r ih => simp [he, ih, Nat.add_mul, Nat.add_comm]
 have hget : ∀ (l : List α) (j : Nat) (u : Value), (l.flatMap enc)[j]? = some u → ∃ x, l[j / size]? = some x ∧ (enc x)[j % size]? = some u := by
   intro l
   induction l with
   | nil => intro j u hj; simp at hj
   | cons x r ih =>
     intro j u hj
     rw [List.flatMap_cons, List.getElem?_append] at hj
     split at hj
     · rename_i hlt
       rw [he] at hlt
       exact ⟨x, by simp [Nat.div_eq_of_lt hlt], by rw [Nat.mod_eq_of_lt hlt]; exact hj⟩
     · rename_i hge
       rw [he] at hge hj
       obtain ⟨y, h2, h3⟩ := ih _ _ hj
       have hge' : size ≤ j := by omega
       refine ⟨y, ?_, ?_⟩
       · rw [show j / size = (j - size) / size + 1 from Nat.div_eq_sub_div hsz hge']
         simpa using h2
       · rw [Nat.mod_eq_sub_mod hge']; exact h3
 obtain ⟨A', cap', hv, h2, h3, h4⟩ := h
 simp only [Value.slice.injEq] at hv
 obtain ⟨rfl, _, rfl⟩ := hv
 rcases Nat.eq_zero_or_pos l.length with h0 | hp
 · have : l = [] := List.eq_nil_of_length_eq_zero h0
   subst this
   exact Src.none_
 · obtain ⟨g, o, rfl, hg, hc⟩ := h4 hp
   refine Src.at_ (hlen l) (fun u hu => ?_) (fun j u hj => ?_)
   · obtain ⟨x, _, hx⟩ := List.mem_flatMap.1 hu
     exact h1 x u hx
   · obtain ⟨x, h5, h6⟩ := hget l j u hj
     have := hc _ x h5 _ u h6
     rw [show o + j = o + j / size * size + j % size by rw [Nat.add_assoc, Nat.mul_comm, Nat.div_add_mod]]
     exact this
end src
theorem nextcap_le {need old : Nat} (h : old < need) : Builtin.nextslicecap need old ≤ need + need / 4 + 512 := by
 unfold Builtin.nextslicecap
 split
 · omega
 · split
   · omega
   · rw [growBy_four]
     repeat' split
     all_goals omega
section app
variable {P : Program} {w : World}
theorem run_append {B t ty e n cap m bytes size : Nat} {ts : List TypeId} {z : Value} {A : Option Addr} {x : Value} {xs news : List Value} (ht : P.underlying t = some (.slice e)) (hts : ∃ t2 d2, ts = [t, t2] ∧ P.underlying t2 = some d2 ∧ (d2 = .string ∨ ∃ e2, d2 = .slice e2)) (hi : InfoT P e z size bytes) (hzs : z.cells.size = size) (hbase : B ≤ w.heap.size)
   (hown : Owns w B e size A n cap xs) (hsrc : Src P w size x m news) (hbytes : (n + m) * bytes ≤ 200000000000000) (hb1 : 0 < bytes) (hb2 : bytes ≤ 65536) :
   ∃ A' cap' w', (Builtin.append_ ts.toArray ty #[.slice A n cap, x]).run P w = .ok (.slice A' (n + m) cap') w' ∧ Owns w' B e size A' (n + m) cap' (xs ++ news) ∧ Turned (Chunk.own (.row e size A n cap xs)) w w' ∧
     (∀ b, Chunk.own (.row e size A' (n + m) cap' (xs ++ news)) b → Chunk.own (.row e size A n cap xs) b ∨ w.heap.size ≤ b) ∧ cap ≤ cap' := by
 obtain ⟨t2, d2, rfl, ht2, hd2⟩ := hts
 obtain ⟨i, hi1, hi2, hi3, hi4⟩ := hi.parts
 subst hi3; subst hi4
 have hlen : (xs ++ news).length = (n + m) * i.size := by rw [List.length_append, hown.1, hsrc.length, Nat.add_mul]
 have hnm : n + m ≤ 200000000000000 := by
   have := Nat.le_mul_of_pos_right (n + m) hb1
   omega
 have hlx := hsrc.len w
 have holds : (Builtin.firstCells i.size n (.slice A n cap)).run P w.drew = .ok xs.toArray w.drew := by
   rcases hown.2 with ⟨rfl, rfl⟩ | ⟨g, cur, rfl, hp, hB, hg, hnc, hcm, hcs, htake⟩
   · have hx : xs = [] := List.eq_nil_of_length_eq_zero (by simpa using hown.1)
     subst hx
     cases A <;> simp [Builtin.firstCells, loadCells, loadCellsFrom]
   · exact run_firstCells_some (P := P) w.drew i.size n ⟨g, 0, none⟩ n cap xs hown.1 (fun j u hj => by
       rw [Addr.add_mid, Nat.zero_add]; simpa using Owns.cell hown hj)
 by_cases hroom : n + m ≤ cap
 · rcases hown.2 with ⟨rfl, rfl⟩ | ⟨g, cur, rfl, hp, hB, hg, hnc, hcm, hcs, htake⟩
   · have hm : m = 0 := by omega
     subst hm
     have hx : xs = [] := List.eq_nil_of_length_eq_zero (by simpa using hown.1)
     have hn : news = [] := List.eq_nil_of_length_eq_zero (by simpa using hsrc.length)
     subst hx; subst hn
     refine ⟨A, 0, w, ?_, hown, ⟨rfl, rfl, rfl, Nat.le_refl _, fun _ _ _ => rfl, Nat.le_refl _⟩, fun _ h => .inl h, Nat.le_refl _⟩
     have hh := hsrc.here
     cases A with
     | none => rcases hd2 with rfl | ⟨e2, rfl⟩ <;> simp [Builtin.append_, run_underlying ht, run_underlying ht2, sizeOf, typeInfo, hi1, hlx, hh]
     | some a => rcases hd2 with rfl | ⟨e2, rfl⟩ <;> simp [Builtin.append_, run_underlying ht, run_underlying ht2, sizeOf, typeInfo, hi1, hlx, hh, storeCells]
   · have hcl : cur.toList.length = cap * i.size := by simpa using hcs
     obtain ⟨w', hr, hh, hb⟩ := Xh (P := P) (g := g) (t := e) news (n * i.size) 0 cur.toList w (by simpa using hg) (by
       rw [hsrc.length, hcl, Nat.add_zero, ← Nat.add_mul]; exact Nat.mul_le_mul_right _ hroom) hsrc.one
     refine ⟨_, cap, w', ?_, ⟨hlen, .inr ⟨g, _, rfl, hp, hB, hh, hroom, hcm, by simp [lay_len, hcs], ?_⟩⟩, hb.mono (fun x hx => ⟨Nat.pos_iff_ne_zero.1 hp, by simp [hx]⟩), fun _ h => .inl h, Nat.le_refl _⟩
     · have hh := hsrc.here
       rcases hd2 with rfl | ⟨e2, rfl⟩ <;> simp [Builtin.append_, run_underlying ht, run_underlying ht2, sizeOf, typeInfo, hi1, hlx, hh, hroom, Addr.add_mid, hr]
     · have key : ∀ (vs cs : List Value) (i : Nat), i + vs.length ≤ cs.length → (lay cs i vs).take (i + vs.length) = cs.take i ++ vs := by
         intro vs
         induction vs with
         | nil => intro cs i h; simp [lay]
         | cons v vs ih =>
           intro cs i h
           simp at h
           rw [lay, show i + (v :: vs).length = i + 1 + vs.length by simp; omega, ih _ _ (by simp; omega)]
           have e : (cs.set i v).take (i + 1) = cs.take i ++ [v] := by
             rw [List.take_succ_eq_append_getElem (by simp; omega)]
             simp [List.take_set]
             exact List.set_eq_of_length_le (by simp; omega)
           rw [e]; simp
       have := key news cur.toList (n * i.size) (by rw [hsrc.length, hcl, ← Nat.add_mul]; exact Nat.mul_le_mul_right _ hroom)
       rw [hsrc.length, ← Nat.add_mul, htake] at this
       simpa using this
 · have h63 : ¬ (9223372036854775807 < ((n : Int) + (m : Int))) := by omega
   have hnc := nextcap_le (need := n + m) (old := cap) (by omega)
   have hfit : Builtin.nextslicecap (n + m) cap * i.bytes ≤ 281474976710656 := by
     have h1 : Builtin.nextslicecap (n + m) cap * i.bytes ≤ (n + m + (n + m) / 4 + 512) * i.bytes := Nat.mul_le_mul_right _ hnc
     have h2 : (n + m + (n + m) / 4 + 512) * i.bytes = (n + m) * i.bytes + (n + m) / 4 * i.bytes + 512 * i.bytes := by rw [Nat.add_mul, Nat.add_mul]
     have h3 : (n + m) / 4 * i.bytes * 4 ≤ (n + m) * i.bytes := by
       rw [Nat.mul_right_comm]; exact Nat.mul_le_mul_right _ (Nat.div_mul_le_self _ _)
     omega
   have hfit' : ¬ (281474976710656 < Builtin.nextslicecap (n + m) cap * i.bytes) := by omega
   have hge := grownCap_ge w (n + m) cap e
   have hcm : grownCap w (n + m) cap e ≤ maxLen := grownCap_le_maxLen w (n + m) cap e (by simp only [maxLen]; omega)
   refine ⟨some ⟨w.heap.size, 0, none⟩, grownCap w (n + m) cap e, w.drew.alloc (.cells (xs.toArray ++ news.toArray ++ Builtin.zeroCells z.cells (grownCap w (n + m) cap e - (n + m))) e), ?_, ?_, ?_, ?_, by omega⟩
   · have hh := hsrc.drew
     have ea : ∀ Z : Array Value, xs.toArray ++ (news.toArray ++ Z) = (xs ++ news).toArray ++ Z := fun Z => by rw [← List.append_toArray, Array.append_assoc]
     rcases hd2 with rfl | ⟨e2, rfl⟩ <;> simp [Builtin.append_, run_underlying ht, run_underlying ht2, sizeOf, typeInfo, hi1, hi2, hlx, hh, hroom, h63, hfit', holds, zeroValue, Question.forced, newRow, grownCap] <;> rw [ea]
   · refine ⟨hlen, .inr ⟨w.heap.size, _, rfl, by omega, hbase, heap_alloc_new w.drew _, hge, hcm, ?_, ?_⟩⟩
     · simp only [Array.size_append, List.size_toArray, size_zeroCells, hzs, hown.1, hsrc.length, ← Nat.add_mul]
       congr 1
       omega
     · simp only [Array.toList_append]
       rw [← hlen]
       exact List.take_left
   · exact ⟨rfl, rfl, rfl, by simp, fun k hk _ => Below.heap_alloc w.drew _ k hk, Dle.succ w.drawn⟩
   · intro b hb
     obtain ⟨_, hb⟩ := hb
     simp at hb
     right; omega
end app
end Go.Fw
namespace Go.Fw
open Go.RowKit
abbrev rowOf {α : Type} (e size : Nat) (enc : α → List Value) (A : Option Addr) (cap : Nat) (l : List α) : Chunk := .row e size A l.length cap (l.flatMap enc)
theorem st_loopK {P : Program} {Q : Exit → Act → World → Prop} {n : Nat} {w0 : World} {K : KL} {L : List Chunk} {a : Act} {w : World} {c : Code} {X : Type} (S : St n w0 K L a w) (KX : X → KL) (LX : X → List Chunk → List Chunk) (φ : X → Prop) (μ : X → Nat) (x0 : X) (h0 : φ x0)
   (hK : Fits [] K (KX x0 ++ K)) (hL : (LX x0 L).Sublist L)
   (round : ∀ x a w, φ x → St n w0 (KX x ++ K) (LX x L) a w → c.wp P (Exit.then (fun a' w' => ∃ x', φ x' ∧ μ x' < μ x ∧ St n w0 (KX x' ++ K) (LX x' L) a' w') Q) a w) : (Code.loop c).wp P Q a w :=
 st_loop (fun x a w => φ x ∧ St n w0 (KX x ++ K) (LX x L) a w) μ x0 ⟨h0, S.weak hK hL⟩ fun x a w ⟨h1, h2⟩ =>
   wp_mono (round x a w h1 h2) fun e a w h => by
     cases e with
     | normal => obtain ⟨x', h3, h4, h5⟩ := h; exact ⟨x', ⟨h3, h5⟩, h4⟩
     | _ => exact h
theorem Wd.join {w0 w w' : World} {L L' : List Chunk} (h : Wd w0 L w) (h' : Wd w L' w') : Wd w0 (L' ++ L) w' := by
 have hk := h.step h'.below
 refine ⟨hk.below, fun c hc => ?_, List.pairwise_append.2 ⟨h'.apart, hk.apart, fun c hc d hd b hcb hdb => ?_⟩⟩
 · rcases List.mem_append.1 hc with hc | hc
   · exact (h'.all c hc).mono h.below.size
   · exact hk.all c hc
 · have h1 := ((h'.all c hc).lt hcb).1
   have h2 := ((h.all d hd).lt hdb).2
   omega
def Rets (P : Program) (f : FuncId) (args : Array Value) (w : World) (R : Value → List Chunk → Prop) : Prop :=
 Calls P f args w fun e w' => ∃ v L, e = .returned v ∧ Wd w L w' ∧ R v L
theorem Yc {α : Type} {enc : α → List Value} {size : Nat} {w : World} {B : Nat} {A : Option Addr} {l : List α} {k : Nat}
   (hA : 0 < l.length → ∃ g o, A = some ⟨g, o, none⟩ ∧ g < B ∧ ∀ k x, l[k]? = some x → ∀ j u, (enc x)[j]? = some u → w.cell? ⟨g, o + k * size + j, none⟩ = some u) (hk : k < l.length) :
   ∃ g o x, A = some ⟨g, o, none⟩ ∧ l[k]? = some x ∧ l.drop k = x :: l.drop (k + 1) ∧ ∀ j u, (enc x)[j]? = some u → w.cell? ⟨g, o + k * size + j, none⟩ = some u := by
 obtain ⟨g, o, h1, _, h2⟩ := hA (by omega)
 have hx : l[k]? = some l[k] := by simp
 exact ⟨g, o, l[k], h1, hx, List.drop_eq_getElem_cons hk, h2 k _ hx⟩
theorem Sl.of_own {α : Type} {enc : α → List Value} {size e cap k : Nat} {w w0 : World} {L : List Chunk} {A : Option Addr} {l : List α} (W : Wd w0 L w) (hk : L[k]? = some (rowOf e size enc A cap l)) (he : ∀ x, (enc x).length = size) : Sl enc size w w.heap.size (.slice A l.length cap) l := by
 have h := W.get hk
 rcases h.2 with ⟨h0, rfl⟩ | ⟨g, cur, rfl, hp, hB, hg, hn, hm, hc, ht⟩
 · exact ⟨A, 0, rfl, by omega, by omega, fun hl => by omega⟩
 · refine ⟨_, cap, rfl, hn, hm, fun _ => ⟨g, 0, rfl, (Array.getElem?_eq_some_iff.1 hg).1, fun i x hx j u hu => ?_⟩⟩
   rw [Nat.zero_add]
   refine Owns.cell h ?_
   have key : ∀ (l : List α) (i : Nat), l[i]? = some x → (l.flatMap enc)[i * size + j]? = some u := by
     intro l
     induction l with
     | nil => intro i hi; simp at hi
     | cons y r ih =>
       intro i hi
       rw [List.flatMap_cons]
       match i, hi with
       | 0, hi =>
         simp only [List.getElem?_cons_zero, Option.some.injEq] at hi
         subst hi
         have hlt : j < (enc y).length := (List.getElem?_eq_some_iff.1 hu).1
         rw [Nat.zero_mul, Nat.zero_add, List.getElem?_append_left hlt]; exact hu
       | i + 1, hi =>
         rw [List.getElem?_append_right (by rw [he, Nat.add_mul]; omega), he, show (i + 1) * size + j - size = i * size + j by rw [Nat.add_mul]; omega]
         exact ih i (by simpa using hi)
   exact key l i hx
theorem flat_at {α : Type} {enc : α → List Value} {size : Nat} (he : ∀ x, (enc x).length = size) {x : α} {j : Nat} {u : Value} (hu : (enc x)[j]? = some u) : ∀ (l : List α) (i : Nat), l[i]? = some x → (l.flatMap enc)[i * size + j]? = some u := by
 intro l
 induction l with
 | nil => intro i hi; simp at hi
 | cons y r ih =>
   intro i hi
   rw [List.flatMap_cons]
   match i, hi with
   | 0, hi =>
     simp only [List.getElem?_cons_zero, Option.some.injEq] at hi
     subst hi
     have hlt : j < (enc y).length := (List.getElem?_eq_some_iff.1 hu).1
     rw [Nat.zero_mul, Nat.zero_add, List.getElem?_append_left hlt]; exact hu
   | i + 1, hi =>
     rw [List.getElem?_append_right (by rw [he, Nat.add_mul]; omega), he, show (i + 1) * size + j - size = i * size + j by rw [Nat.add_mul]; omega]
     exact ih i (by simpa using hi)
section ldw
variable {P : Program} {n : Nat} {w0 : World} {K : KL} {L : List Chunk} {b : Bool} {dst : Option Tmp} {ty : TypeId} {pos : String} {aft : Array Edge} {gd : Option (Nat × Bool)}
theorem ys_ldW {α : Type} {enc : α → List Value} {l : List α} {m : α} {t : TypeId} {x : Operand} {g i j k sz cap : Nat} {e : TypeId} {v : Value} (h1 : One P t) (hx : Ev n b K x (.pointer (some ⟨g, 0 + i * sz + j, none⟩)))
   (hk : L[k]? = some (rowOf e sz enc (some ⟨g, 0, none⟩) cap l)) (hm : l[i]? = some m) (he : ∀ x, (enc x).length = sz) (hv : (enc m)[j]? = some v) : Yr P ⟨dst, .load t x, ty, pos, aft, gd⟩ n K w0 L b v :=
 ys_ldR h1 hx hk fun _ => by rw [Nat.zero_add]; exact flat_at he hv _ _ hm
theorem ys_ldW0 {α : Type} {enc : α → List Value} {l : List α} {m : α} {t : TypeId} {x : Operand} {g i k sz cap : Nat} {e : TypeId} {v : Value} (h1 : One P t) (hx : Ev n b K x (.pointer (some ⟨g, 0 + i * sz, none⟩)))
   (hk : L[k]? = some (rowOf e sz enc (some ⟨g, 0, none⟩) cap l)) (hm : l[i]? = some m) (he : ∀ x, (enc x).length = sz) (hv : (enc m)[0]? = some v) : Yr P ⟨dst, .load t x, ty, pos, aft, gd⟩ n K w0 L b v :=
 ys_ldR h1 hx hk fun _ => by rw [Nat.zero_add]; exact flat_at he hv _ _ hm
theorem Xn {α : Type} {enc : α → List Value} {l : List α} {m : α} {t : TypeId} {x : Operand} {g i k sz cap : Nat} {e : TypeId} (h1 : Many P t sz) (hx : Ev n b K x (.pointer (some ⟨g, 0 + i * sz, none⟩)))
   (hk : L[k]? = some (rowOf e sz enc (some ⟨g, 0, none⟩) cap l)) (hm : l[i]? = some m) (he : ∀ x, (enc x).length = sz) : Yr P ⟨dst, .load t x, ty, pos, aft, gd⟩ n K w0 L b (.agg (enc m).toArray) :=
 ys_ldRA h1 hx hk (he m) fun _ j u hj => by rw [Nat.zero_add]; exact flat_at he hj _ _ hm
end ldw
section movers
variable {P : Program} {n : Nat} {w0 : World} {K : KL} {L : List Chunk} {ty : TypeId} {pos : String} {aft : Array Edge} {gd : Option (Nat × Bool)} {a : Act} {w : World} {Z : Act → World → Prop} {Q : Exit → Act → World → Prop} {d : Nat}
theorem Zq {f : FuncId} {xs : List Operand} {ts : Array TypeId} {vs : List Value} {R : Value → List Chunk → Prop} (S : St n w0 K L a w) (hf : ∀ args w, (callFunc f args).run P w = .ok (.enter f args) w) (hx : EvL n true K xs vs)
   (hc : Rets P f vs.toArray w R) (hd : Nat.blt d n = true) (next : ∀ v L', R v L' → ∀ a w', St n w0 ((d, true, v) :: K) (L' ++ L) a w' → Z a w') : Oper.wp P ⟨some d, .call ⟨.value (.func f), xs.toArray, ts⟩, ty, pos, aft, gd⟩ a w Z Q :=
 op_call S hf hx hc fun e w' ⟨v, L', he, hw, hr⟩ => ⟨v, he, next v L' hr _ _ ⟨S.kn.put hd v, S.wd.join hw⟩⟩
theorem St.nil_ (S : St n w0 K L a w) {α : Type} (e size : Nat) (enc : α → List Value) (A : Option Addr) : St n w0 K (rowOf e size enc A 0 [] :: L) a w :=
 ⟨S.kn, S.wd.bare ⟨by simp, .inl ⟨rfl, rfl⟩⟩ (fun b h => h.1 rfl)⟩
theorem op_append {t t2 e bytes size m cap q k : Nat} {d2 : TypeDesc} {z : Value} {A : Option Addr} {s x : Operand} {xv : Value} {xs news : List Value} (S : St n w0 K L a w) (ht : P.underlying t = some (.slice e)) (ht2 : P.underlying t2 = some d2) (hd2 : d2 = .string ∨ ∃ e2, d2 = .slice e2)
   (hi : InfoT P e z size bytes) (hzs : z.cells.size = size) (hs : Ev n true K s (.slice A m cap)) (hx : Ev n true K x xv) (hk : L[k]? = some (.row e size A m cap xs)) (hsrc : Src P w size xv q news) (hb : (m + q) * bytes ≤ 200000000000000) (hb1 : Nat.blt 0 bytes = true) (hb2 : Nat.ble bytes 65536 = true) (hd : Nat.blt d n = true)
   (next : ∀ A' cap' a w, cap ≤ cap' → St n w0 ((d, true, .slice A' (m + q) cap') :: K) (L.set k (.row e size A' (m + q) cap' (xs ++ news))) a w → Z a w) :
   Oper.wp P ⟨some d, .call ⟨.builtin .append, #[s, x], #[t, t2]⟩, ty, pos, aft, gd⟩ a w Z Q := by
 obtain ⟨A', cap', w', hr, ho, hg, hown, hcc⟩ := run_append (P := P) (w := w) (ts := [t, t2]) (ty := ty) ht ⟨t2, d2, rfl, ht2, hd2⟩ hi hzs S.wd.below.size (S.wd.get hk) hsrc hb (Nat.le_of_ble_eq_true hb1) (Nat.le_of_ble_eq_true hb2)
 refine Xv (v := .slice A' (m + q) cap') (w' := w') ?_ (next A' cap' _ _ hcc ⟨S.kn.put hd _, S.wd.change hk hg ho hown⟩)
 simp only [execOp, resolve, invoke, builtin, Sem.run_bind, Sem.run_pure, Result.andThen_ok, List.map_toArray, List.map_cons, List.map_nil, hs a rfl S.kn, hx a rfl S.kn, hr]
theorem Zw {α : Type} {enc : α → List Value} {l : List α} {y : α} {t e bytes size cap c k j g : Nat} {e' : TypeId} {fr : Nat × Nat} {z : Value} {A : Option Addr} {s x : Operand} {vs : List Value} (S : St n w0 K L a w) (ht : P.underlying t = some (.slice e))
   (hi : InfoT P e z size bytes) (hzs : z.cells.size = size) (hk : L[k]? = some (rowOf e size enc A cap l)) (hs : Ev n true K s (.slice A l.length cap)) (hx : Ev n true K x (.slice (some ⟨g, 0, none⟩) 1 c)) (hj : L[j]? = some (.blk g (.cells vs.toArray e' fr))) (hvs : vs = enc y)
   (hlen : (enc y).length = size) (h1 : (enc y).all (·.oneCell') = true) (hb : (l.length + 1) * bytes ≤ 200000000000000) (hb1 : Nat.blt 0 bytes = true) (hb2 : Nat.ble bytes 65536 = true) (hd : Nat.blt d n = true)
   (next : ∀ A' cap' a w, St n w0 ((d, true, .slice A' (l ++ [y]).length cap') :: K) (L.set k (rowOf e size enc A' cap' (l ++ [y]))) a w → Z a w) :
   Oper.wp P ⟨some d, .call ⟨.builtin .append, #[s, x], #[t, t]⟩, ty, pos, aft, gd⟩ a w Z Q := by
 subst hvs
 refine op_append S ht ht (.inr ⟨_, rfl⟩) hi hzs hs hx hk (Src.blk S.wd hj (by rw [hlen, Nat.one_mul]) (by simpa using h1)) hb hb1 hb2 hd (fun A' cap' a w _ S' => next A' cap' a w ?_)
 have e1 : (l ++ [y]).length = l.length + 1 := by simp
 have e2 : (l ++ [y]).flatMap enc = l.flatMap enc ++ enc y := by simp
 unfold rowOf
 rw [e1, e2]; exact S'
theorem lay_all : ∀ (vs cs : List Value) (i : Nat), i + vs.length = cs.length → lay cs i vs = cs.take i ++ vs := by
 intro vs
 induction vs with
 | nil => intro cs i h; simp at h; simp [lay, h]
 | cons v vs ih =>
   intro cs i h
   simp at h
   rw [lay, ih _ _ (by simp; omega)]
   have e : (cs.set i v).take (i + 1) = cs.take i ++ [v] := by
     rw [List.take_succ_eq_append_getElem (by simp; omega)]
     simp [List.take_set]
     exact List.set_eq_of_length_le (by simp; omega)
   rw [e]; simp
theorem Zm {t e sz bytes : Nat} {z v : Value} {x : Operand} {us : List Value} (S : St n w0 K L a w) (ht : P.underlying t = some (.slice e)) (hi : InfoT P e z sz bytes) (hzs : z.cells.size = sz) (hsz : Nat.blt 0 sz = true) (hmax : Nat.ble sz 16777216 = true)
   (hx : Ev n true K x v) (hv : v.cells = us.toArray) (hl : us.length = sz) (hd : Nat.blt d n = true)
   (next : ∀ g a w, St n w0 ((d, true, .slice (some ⟨g, 0, none⟩) 1 1) :: K) (.blk g (.cells us.toArray e) :: L) a w → Z a w) :
   Oper.wp P ⟨some d, .buildSlice t 1 #[(0, x)], ty, pos, aft, gd⟩ a w Z Q := by
 refine Xv (v := .slice (some ⟨w.heap.size, 0, none⟩) 1 1) (w' := w.alloc (.cells us.toArray e)) ?_ (next _ _ _ ⟨S.kn.put hd _, S.wd.alloc _⟩)
 obtain ⟨i, hi1, hi2, hi3, hi4⟩ := hi.parts
 have h0 : sz ≠ 0 := by have := Nat.le_of_ble_eq_true hsz; omega
 have hm : ¬ (16777216 < sz) := by have := Nat.le_of_ble_eq_true hmax; omega
 have hf : fillL (fun i => some (i * sz, sz)) ((Array.range sz).map (fun i => z.cells[i % z.cells.size]!)).toList [(0, v)] = some us := by
   have hll : v.cells.toList.length = sz := by rw [hv]; simpa using hl
   simp only [fillL, hll, Nat.beq_refl, Nat.zero_mul, Nat.zero_add]
   rw [lay_all _ _ _ (by simp [hll])]
   have hbl : Nat.ble sz sz = true := by simp
   simp [hv, hbl]
 have hf' := fill_of hf
 simp only [Array.toArray_toList] at hf'
 simp [execOp, hx a rfl S.kn, Instr.buildSlice, run_underlying ht, sizeOf, typeInfo, zeroValue, hi1, hi2, hi3, hm, h0, hf', newRow]
theorem op_bslice {t e sz len : Nat} {z : Value} {ps : List (Nat × Operand)} {vs us : List Value} (zs : List Value) (S : St n w0 K L a w) (ht : P.underlying t = some (.slice e)) (hsz : ∀ w, (sizeOf e).run P w = .ok sz w) (hz : ∀ w, (zeroValue e).run P w = .ok z w)
   (hzs : (Array.range (len * sz)).map (fun i => (if len * sz = 0 then #[] else z.cells)[i % (if len * sz = 0 then (#[] : Array Value) else z.cells).size]!) = zs.toArray) (hmax : Nat.ble (len * sz) 16777216 = true)
   (hx : EvL n true K (ps.map (·.2)) vs) (hr : fillL (fun i => some (i * sz, sz)) zs ((ps.map (·.1)).zip vs) = some us) (hd : Nat.blt d n = true)
   (next : ∀ g a w, St n w0 ((d, true, .slice (some ⟨g, 0, none⟩) len len) :: K) (.blk g (.cells us.toArray e) :: L) a w → Z a w) :
   Oper.wp P ⟨some d, .buildSlice t len ps.toArray, ty, pos, aft, gd⟩ a w Z Q := by
 refine Xv (v := .slice (some ⟨w.heap.size, 0, none⟩) len len) (w' := w.alloc (.cells us.toArray e)) ?_ (next _ _ _ ⟨S.kn.put hd _, S.wd.alloc _⟩)
 have h := hx a rfl S.kn
 have e : (ps.toArray.map fun (i, x) => (i, a.eval x)) = ((ps.map (·.1)).zip vs).toArray := by
   rw [← h]
   simp only [List.map_toArray, List.map_map, List.zip_map', Function.comp_def]
 have hf := fill_of hr
 have hm : ¬ (2 ^ 24 < len * sz) := by have := Nat.le_of_ble_eq_true hmax; omega
 simp only [execOp, e, Instr.buildSlice, Sem.run_bind, run_underlying ht, Result.andThen_ok, hsz]
 by_cases h0 : len * sz = 0
 · simp only [h0, if_true, Array.range_zero', List.map_toArray, List.map_nil] at hzs
   have hz0 : zs = [] := by simpa using hzs.symm
   subst hz0
   simp [hm, h0, hf, newRow, Array.range_zero']
 · simp only [h0, if_false] at hzs
   simp [hm, h0, hz, hzs, hf, newRow]
end movers
section ops
variable {P : Program} {n : Nat} {w0 : World} {K : KL} {L : List Chunk} {b : Bool} {dst : Option Tmp} {ty : TypeId} {pos : String} {aft : Array Edge} {gd : Option (Nat × Bool)}
theorem ys_slLo {t e lo len cap : Nat} {x y : Operand} {A : Option Addr} {ik : IntKind} {sz : Nat} (h1 : SliceT P t e) (h2 : Size P e sz) (hx : Ev n b K x (.slice A len cap)) (hy : Ev n b K y (.int ik (lo : Int))) (hh : b = true → lo ≤ len ∧ len ≤ cap) :
   Yr P ⟨dst, .slice t x (some y) none none, ty, pos, aft, gd⟩ n K w0 L b (.slice (if cap = lo then A else A.map (·.add (lo * sz))) (len - lo) (cap - lo)) := fun a w hb hkn _ => by
 obtain ⟨h3, h4⟩ := hh hb
 have hc : (lo : Int) ≤ (len : Int) := by omega
 simp only [execOp, hx a hb hkn, Option.map_none, Option.map_some, hy a hb hkn, Instr.sliceAt, Sem.run_bind, run_underlying h1, Result.andThen_ok, Instr.slice, Instr.sliceBounds, Instr.sliceBound, asIntOf, Sem.run_pure]
 simp [hc, h2 w]
theorem ys_cv {s t : TypeId} {x : Operand} {ds : TypeDesc} {k k' : IntKind} {p : Int} (hs : P.underlying s = some ds) (ht : P.underlying t = some (.int k')) (hx : Ev n b K x (.int k p)) : Yr P ⟨dst, .convert s t x, ty, pos, aft, gd⟩ n K w0 L b (.int k' (k'.wrap p)) := fun a w hb hkn _ => by
 simp only [execOp, hx a hb hkn]
 have h := run_convert_int (P := P) (w := w) s t k p (by simp [hs])
 simp [convert, run_underlying hs, run_underlying ht, Conv.intToInt]
theorem ys_cvI {s t : TypeId} {x : Operand} {ds : TypeDesc} {k : IntKind} {p : Int} (hs : P.underlying s = some ds) (ht : P.underlying t = some (.int .i64)) (hx : Ev n b K x (.int k p)) (h : b = true → I64 p) : Yr P ⟨dst, .convert s t x, ty, pos, aft, gd⟩ n K w0 L b (.int .i64 p) :=
 Yr.of_imp (fun hb => by rw [Xa (h hb)]) (ys_cv hs ht hx)
end ops
section eq
variable {P : Program}
def FEq (P : Program) (k : Nat) (xs ys : List Value) (fs : List Field) (r : Bool) : Prop := ∀ d w, (Op.eqFields (d + k) xs.toArray ys.toArray fs).run P w = .ok r w
section fields
variable {xs ys : List Value} {nm : String} {tt o : Nat} {em : Bool} {tg pp : String} {bo : Nat} {fs : List Field} {r : Bool} {k : Nat}
theorem FEq.nil : FEq P k xs ys [] true := fun d w => by simp [Op.eqFields]
theorem FEq.int {ik ik' : IntKind} {p q : Int} (hn : (nm != "_") = true) (ht : P.underlying tt = some (.int ik')) (ha : ∀ w, (isAgg tt).run P w = .ok false w) (hx : nth xs o = some (.int ik p)) (hy : nth ys o = some (.int ik q)) (h : FEq P (k + 1) xs ys fs r) :
   FEq P (k + 1) xs ys (⟨nm, tt, o, em, tg, pp, bo⟩ :: fs) (decide (p = q) && r) := fun d w => by
 have hn' : nm ≠ "_" := by simpa using hn
 rw [nth_eq] at hx hy
 have hpq : (p == q) = decide (p = q) := rfl
 have hh := run_equalIn_int (P := P) w (d + k) tt ik ik' p q ht
 rw [Nat.add_assoc] at hh
 simp only [Op.eqFields, ne_eq, hn', not_false_eq_true, if_true, Sem.run_bind, part, ha, Result.andThen_ok]
 simp [hx, hy, hh, hpq]
 by_cases e : p = q <;> simp [e, h d w]
theorem FEq.str {p q : ByteArray} (hn : (nm != "_") = true) (ht : P.underlying tt = some .string) (ha : ∀ w, (isAgg tt).run P w = .ok false w) (hx : nth xs o = some (.string p)) (hy : nth ys o = some (.string q)) (h : FEq P (k + 1) xs ys fs r) :
   FEq P (k + 1) xs ys (⟨nm, tt, o, em, tg, pp, bo⟩ :: fs) (decide (p = q) && r) := fun d w => by
 have hn' : nm ≠ "_" := by simpa using hn
 rw [nth_eq] at hx hy
 have hpq : (p.toList == q.toList) = decide (p = q) := by
   rw [Bool.eq_iff_iff, ByteArray.toList_eq, ByteArray.toList_eq]
   obtain ⟨⟨x⟩⟩ := p
   obtain ⟨⟨y⟩⟩ := q
   simp
 have hh := run_equalIn_string (P := P) w (d + k) tt p q ht
 rw [Nat.add_assoc] at hh
 simp only [Op.eqFields, ne_eq, hn', not_false_eq_true, if_true, Sem.run_bind, part, ha, Result.andThen_ok]
 simp [hx, hy, hh, hpq]
 by_cases e : p = q <;> simp [e, h d w]
theorem FEq.bool {p q : Bool} (hn : (nm != "_") = true) (ht : P.underlying tt = some .bool) (ha : ∀ w, (isAgg tt).run P w = .ok false w) (hx : nth xs o = some (.bool p)) (hy : nth ys o = some (.bool q)) (h : FEq P (k + 1) xs ys fs r) :
   FEq P (k + 1) xs ys (⟨nm, tt, o, em, tg, pp, bo⟩ :: fs) (decide (p = q) && r) := fun d w => by
 have hn' : nm ≠ "_" := by simpa using hn
 rw [nth_eq] at hx hy
 have hpq : (p == q) = decide (p = q) := by cases p <;> cases q <;> rfl
 have hh := run_equalIn_bool' (P := P) w (d + k) tt p q ht
 rw [Nat.add_assoc] at hh
 simp only [Op.eqFields, ne_eq, hn', not_false_eq_true, if_true, Sem.run_bind, part, ha, Result.andThen_ok]
 simp [hx, hy, hh, hpq]
 by_cases e : p = q <;> simp [e, h d w]
theorem FEq.agg {fs' : List Field} {m : Nat} {us vs : List Value} {r' : Bool} (hn : (nm != "_") = true) (ht : P.underlying tt = some (.struct fs'.toArray)) (hp : P.stoodInHeld tt = false) (ha : ∀ w, (isAgg tt).run P w = .ok true w) (hz : ∀ w, (sizeOf tt).run P w = .ok m w) (hx : cellsAt xs o m = some us) (hy : cellsAt ys o m = some vs)
   (h' : FEq P k us vs fs' r') (h : FEq P (k + 1) xs ys fs r) : FEq P (k + 1) xs ys (⟨nm, tt, o, em, tg, pp, bo⟩ :: fs) (r' && r) := fun d w => by
 have hn' : nm ≠ "_" := by simpa using hn
 have e1 : xs.toArray.extract o (o + m) = us.toArray := by
   rw [(cellsAt_eq hx).2]; simp [List.extract_eq_take_drop, List.extract_toArray]
 have e2 : ys.toArray.extract o (o + m) = vs.toArray := by
   rw [(cellsAt_eq hy).2]; simp [List.extract_eq_take_drop, List.extract_toArray]
 have hh := run_equalIn_struct (P := P) w (d + k) tt us.toArray vs.toArray (by simp [Program.fieldsOf, ht]) hp
 rw [Nat.add_assoc] at hh
 have hf := h' d w
 simp only [Op.eqFields, ne_eq, hn', not_false_eq_true, if_true, Sem.run_bind, part, ha, hz, Result.andThen_ok, Sem.run_pure, e1, e2, hh, Program.fieldsOf, ht, hf]
 cases r' <;> simp [h d w]
end fields
theorem EqT.mk {t k d : Nat} {fs : List Field} {xs ys : List Value} {r r' : Bool} (hu : P.underlying t = some (.struct fs.toArray)) (hs : P.stoodInHeld t = false) (hg : P.eqGuardType P.depth t = false) (hk : d + k = 9999) (h : FEq P k xs ys fs r) (hr : r = r') : EqT P t xs ys r' := fun w => by
 subst hr
 refine ⟨by simp [eqGuard, hg], ?_⟩
 rw [run_equalIn_struct w 9999 t _ _ (by simp [Program.fieldsOf, hu]) hs]
 simp only [Program.fieldsOf, hu]
 rw [← hk]
 exact h d w
end eq
end Go.Fw
namespace Go.Fw
open Go.RowKit
section ops
variable {P : Program} {n : Nat} {w0 : World} {K : KL} {L : List Chunk} {b : Bool} {dst : Option Tmp} {ty : TypeId} {pos : String} {aft : Array Edge} {gd : Option (Nat × Bool)}
theorem Ym {o : Oper} {p : Prop} [Decidable p] (h : p) (hy : Yr P o n K w0 L b (.bool (decide p))) : Yr P o n K w0 L b (.bool true) := Yr.of_imp (fun _ => by rw [decide_eq_true h]) hy
theorem Yf {o : Oper} {p : Prop} [Decidable p] (h : ¬ p) (hy : Yr P o n K w0 L b (.bool (decide p))) : Yr P o n K w0 L b (.bool false) := Yr.of_imp (fun _ => by rw [decide_eq_false h]) hy
theorem ys_pred {t t' : TypeId} {x y : Operand} {k : Nat} (hx : Ev n b K x (.int .i64 ((k + 1 : Nat) : Int))) (hy : Ev n b K y (.int .i64 1)) (h : (k : Int) ≤ 9223372036854775807) : Yr P ⟨dst, .binOp .sub t x y t', ty, pos, aft, gd⟩ n K w0 L b (.int .i64 (k : Int)) :=
 Yr.of_imp (fun _ => by rw [show (((k + 1 : Nat) : Int) - 1) = (k : Int) by omega]) (Xj hx hy (fun _ => by unfold I64; omega))
theorem Zu {x y z : Operand} {u : Value} (hx : Ev n b K x (.bool true)) (hy : Ev n b K y u) : Yr P ⟨dst, .pick x y z, ty, pos, aft, gd⟩ n K w0 L b u := fun a w hb hk _ => by
 simp [execOp, hx a hb hk, hy a hb hk, asBool]
theorem Zs {x y z : Operand} {u : Value} (hx : Ev n b K x (.bool false)) (hz : Ev n b K z u) : Yr P ⟨dst, .pick x y z, ty, pos, aft, gd⟩ n K w0 L b u := fun a w hb hk _ => by
 simp [execOp, hx a hb hk, hz a hb hk, asBool]
end ops
section known
variable {P : Program} {Q : Exit → Act → World → Prop} {n : Nat} {w0 : World} {K : KL} {L Lr : List Chunk} {a : Act} {w : World} {ops : Array Oper} {rest : List Oper} {op : Op} {ty : TypeId} {pos : String} {aft : Array Edge} {v : Value} {d t j i fuel : Nat} {p q : Bool} {listed : Array Bool} {md : Region.Mode} {Z : Act → Prop}
theorem st_yt (S : St n w0 K L a w) (hj : (ops[j]?).bind (·.dst) = some t) (hl : look K t = some (true, .bool p)) (hy : Ys P ⟨some d, op, ty, pos, aft, some (j, p)⟩ n K w0 L true v) (hd : Nat.blt d n = true)
   (next : ∀ a w, St n w0 ((d, true, v) :: K) L a w → wpList P ops Q rest a w) : wpList P ops Q (⟨some d, op, ty, pos, aft, some (j, p)⟩ :: rest) a w :=
 st_mg S hj hl (hy.wp S fun w' hw => next _ _ ⟨S.kn.put hd v, hw⟩)
theorem q_yt (S : Kn n K a) (hj : (ops[j]?).bind (·.dst) = some t) (hl : look K t = some (true, .bool p)) (hy : Ys P ⟨some d, op, ty, pos, aft, some (j, p)⟩ n K w0 L true v) (hd : Nat.blt d n = true)
   (next : ∀ a, Kn n ((d, true, v) :: K) a → wpQuiet P ops (Wd w0 L) Z rest a) : wpQuiet P ops (Wd w0 L) Z (⟨some d, op, ty, pos, aft, some (j, p)⟩ :: rest) a := by
 refine wpQuiet_step fun K' hK => ?_
 have hyd := Yy S hj hl
 rw [if_pos (by simp [Region.wanted, hyd])]
 exact ⟨v, fun w hw => hy a w rfl S hw, hK _ (next _ (S.putg hd true v))⟩
theorem q_skip (S : Kn n K a) (hj : (ops[j]?).bind (·.dst) = some t) (hl : look K t = some (true, .bool p)) (hpq : q = !p) (hd : Nat.blt d n = true)
   (next : ∀ a, Kn n ((d, false, undef) :: K) a → wpQuiet P ops (Wd w0 L) Z rest a) : wpQuiet P ops (Wd w0 L) Z (⟨some d, op, ty, pos, aft, some (j, q)⟩ :: rest) a := by
 refine wpQuiet_step fun K' hK => ?_
 have hyd := Yy S hj hl
 rw [if_neg (by subst hpq; cases p <;> simp_all [Region.wanted])]
 exact hK _ (next _ (S.putg hd false undef))
theorem st_skip0 (S : St n w0 K L a w) (hj : (ops[j]?).bind (·.dst) = some t) (hl : look K t = some (false, v)) (hd : Nat.blt d n = true)
   (next : ∀ a w, St n w0 ((d, false, undef) :: K) L a w → wpList P ops Q rest a w) : wpList P ops Q (⟨some d, op, ty, pos, aft, some (j, q)⟩ :: rest) a w := by
 have hyd : yielded ops a.tmps j = none := by
   unfold yielded
   rw [hj]
   simp [S.kn.slot t false v hl, undef]
 have h := next (a.put (some d) undef) w ⟨S.kn.putg hd false undef, S.wd⟩
 simp only [wpList, Region.wanted, hyd]
 simpa using h
theorem q_skip0 (S : Kn n K a) (hj : (ops[j]?).bind (·.dst) = some t) (hl : look K t = some (false, v)) (hd : Nat.blt d n = true)
   (next : ∀ a, Kn n ((d, false, undef) :: K) a → wpQuiet P ops (Wd w0 L) Z rest a) : wpQuiet P ops (Wd w0 L) Z (⟨some d, op, ty, pos, aft, some (j, q)⟩ :: rest) a := by
 refine wpQuiet_step fun K' hK => ?_
 have hyd : yielded ops a.tmps j = none := by
   unfold yielded
   rw [hj]
   simp [S.slot t false v hl, undef]
 rw [if_neg (by simp [Region.wanted, hyd])]
 exact hK _ (next _ (S.putg hd false undef))
theorem h_yt (S : St n w0 K L a w) (hsub : Lr.Sublist L) (hi : ops[i]? = some ⟨some d, op, ty, pos, aft, some (j, p)⟩) (hs : Region.noSelect ops = true) (hf : Region.free md ops listed i = true) (hr : (Region.ready md ops listed).contains i = true)
   (hQ : ∀ v c a w, Q (.panic c) (a.put (some d) v) w → Q (.panic c) a w) (hj : (ops[j]?).bind (·.dst) = some t) (hl : look K t = some (true, .bool p)) (hy : Yr P ⟨some d, op, ty, pos, aft, some (j, p)⟩ n K w0 Lr true v) (hd : Nat.blt d n = true)
   (next : ∀ a w, St n w0 ((d, true, v) :: K) L a w → wpAnyH P md ops Q (Wd w0 Lr) fuel (listed.setIfInBounds i true) a w) : wpAnyH P md ops Q (Wd w0 Lr) (fuel + 1) listed a w := by
 have hyd := Yy S.kn hj hl
 exact h_take S hsub hi hs hf hr (hQ v) (.inl ⟨by simp [Region.wanted, hyd], fun w hw => hy a w rfl S.kn hw⟩) (next _ _ ⟨S.kn.putg hd true v, S.wd⟩)
theorem h_skip0 (S : St n w0 K L a w) (hsub : Lr.Sublist L) (hi : ops[i]? = some ⟨some d, op, ty, pos, aft, some (j, q)⟩) (hs : Region.noSelect ops = true) (hf : Region.free md ops listed i = true) (hr : (Region.ready md ops listed).contains i = true)
   (hQ : ∀ v c a w, Q (.panic c) (a.put (some d) v) w → Q (.panic c) a w) (hj : (ops[j]?).bind (·.dst) = some t) (hl : look K t = some (false, v)) (hd : Nat.blt d n = true)
   (next : ∀ a w, St n w0 ((d, false, undef) :: K) L a w → wpAnyH P md ops Q (Wd w0 Lr) fuel (listed.setIfInBounds i true) a w) : wpAnyH P md ops Q (Wd w0 Lr) (fuel + 1) listed a w := by
 have hyd : yielded ops a.tmps j = none := by
   unfold yielded
   rw [hj]
   simp [S.kn.slot t false v hl, undef]
 exact h_take S hsub hi hs hf hr (hQ undef) (.inr ⟨by simp [Region.wanted, hyd], rfl⟩) (next _ _ ⟨S.kn.putg hd false undef, S.wd⟩)
end known
end Go.Fw
namespace Go.Fw
open Go.RowKit
structure Dot where
 node : Int
 life : Int
 count : Int
deriving DecidableEq
abbrev Dot.enc (d : Dot) : List Value := [.int .i64 d.node, .int .i64 d.life, .int .i64 d.count]
theorem Dot.mkEnc {x y z : Int} : [Value.int .i64 x, Value.int .i64 y, Value.int .i64 z] = Dot.enc ⟨x, y, z⟩ := rfl
structure Ctx where
 marks : List Dot
 cloud : List Dot
deriving DecidableEq
abbrev Dot.of (d : Dot) (x y : Int) : Prop := d.node = x ∧ d.life = y
def markOf : List Dot → Int → Int → Int
 | [], _, _ => 0
 | m :: r, x, y => if m.node = x ∧ m.life = y then m.count else markOf r x y
def topFrom (n : Int) (x y : Int) : List Dot → Int
 | [] => n
 | d :: r => topFrom (if d.node = x ∧ d.life = y then max n d.count else n) x y r
def Ctx.top (C : Ctx) (x y : Int) : Int := topFrom (markOf C.marks x y) x y C.cloud
def RdCtx (w : World) (B : Nat) (v1 v2 : Value) (C : Ctx) : Prop := Sl Dot.enc 3 w B v1 C.marks ∧ Sl Dot.enc 3 w B v2 C.cloud
theorem RdCtx.old {w0 w : World} {L : List Chunk} {v1 v2 : Value} {C : Ctx} (W : Wd w0 L w) (h : RdCtx w0 w0.heap.size v1 v2 C) : RdCtx w w.heap.size v1 v2 C := ⟨.old W h.1, .old W h.2⟩
def keep (x y : Int) (l : List Dot) : List Dot := l.filter fun d => !decide (d.node = x ∧ d.life = y)
def mayD (d : Dot) : Bool := decide (0 ≤ d.node ∧ d.node < 8 ∧ 1 ≤ d.life ∧ d.life ≤ 1099511627776 ∧ 1 ≤ d.count ∧ d.count ≤ 1099511627776)
def belowD (a b : Dot) : Bool := if a.node ≠ b.node then decide (a.node < b.node) else if a.life ≠ b.life then decide (a.life < b.life) else decide (a.count < b.count)
end Go.Fw
namespace Go.Fw
open Go.RowKit
theorem Sl.of_blk {α : Type} {enc : α → List Value} {size cap k g : Nat} {w w0 : World} {L : List Chunk} {cs : List Value} {e : TypeId} {fr : Nat × Nat} (l : List α) (W : Wd w0 L w) (hk : L[k]? = some (.blk g (.cells cs.toArray e fr))) (hc : cs = l.flatMap enc) (he : ∀ x, (enc x).length = size) (h1 : l.length ≤ cap) (h2 : cap ≤ 9223372036854775807) :
   Sl enc size w w.heap.size (.slice (some ⟨g, 0, none⟩) l.length cap) l := by
 have h := (W.get hk).2
 refine ⟨_, cap, rfl, h1, h2, fun _ => ⟨g, 0, rfl, (Array.getElem?_eq_some_iff.1 h).1, fun i x hx j u hu => ?_⟩⟩
 rw [Nat.zero_add, cell_of_row w g _ _ e fr h]
 subst hc
 simpa using flat_at he hu _ _ hx
theorem Sl.nil_ {α : Type} {enc : α → List Value} {size B : Nat} {w : World} : Sl enc size w B (.slice none 0 0) [] := ⟨none, 0, rfl, Nat.le_refl _, by omega, fun h => absurd h (by simp)⟩
end Go.Fw
namespace Go.Proofs.Ytbijdmfilmecbaa
open Go.Fw Go.Proofs Go.RowKit Go.ChangeShapes Go.WideShapes Go.ChangeAt Go.Deep Go.Joins
theorem bulk_one {H : Type} (d : DataW H) : 1 ≤ Rows.uptoBulk d := by
 cases d with
 | lit l => cases l <;> simp [Rows.uptoBulk]
 | nil => simp [Rows.uptoBulk]
 | ptr d => simp [Rows.uptoBulk]
 | slice elems spare => simp [Rows.uptoBulk]
 | agg parts => simp [Rows.uptoBulk]
 | iface t d => simp [Rows.uptoBulk]
 | map entries => simp [Rows.uptoBulk]
 | held h => simp [Rows.uptoBulk]
theorem bulk_len {H : Type} (l : List (DataW H)) : l.length ≤ Rows.uptoBulkAll l := by
 induction l with
 | nil => simp [Rows.uptoBulkAll]
 | cons x r ih => have := bulk_one x; simp only [Rows.uptoBulkAll, List.length_cons]; omega
theorem bulk_slice {H : Type} (elems spare : List (DataW H)) : elems.length + 1 ≤ Rows.uptoBulk (.slice elems spare) := by
 have h1 := bulk_len elems
 simp only [Rows.uptoBulk]
 omega
theorem bulk_part {H : Type} {d : DataW H} {l : List (DataW H)} (h : d ∈ l) : Rows.uptoBulk d ≤ Rows.uptoBulkAll l := by
 induction l with
 | nil => cases h
 | cons x r ih =>
   simp only [Rows.uptoBulkAll]
   cases List.mem_cons.1 h with
   | inl e => subst e; omega
   | inr e => have := ih e; omega
theorem list_of {α : Type} {Q : Nat → α → Prop} : ∀ {n : Nat}, (∀ i, i < n → ∃ x, Q i x) → ∃ l : List α, l.length = n ∧ ∀ k x, l[k]? = some x → Q k x
 | 0, _ => ⟨[], rfl, fun k x h => by simp at h⟩
 | n + 1, h => by
   obtain ⟨l, h1, h2⟩ := list_of (n := n) fun i hi => h i (by omega)
   obtain ⟨y, hy⟩ := h n (by omega)
   refine ⟨l ++ [y], by simp [h1], fun k x hk => ?_⟩
   rw [List.getElem?_append] at hk
   split at hk
   · exact h2 k x hk
   · rename_i hge
     have : k = n := by
       have := (List.getElem?_eq_some_iff.1 hk).1
       simp at this; omega
     subst this
     rw [h1, Nat.sub_self] at hk
     simp at hk
     subst hk
     exact hy
section
variable {H : Type} {enc : TypeId × Value → H} {P : Program} {w : World}
end
end Go.Proofs.Ytbijdmfilmecbaa
namespace Go.Fw
open Go.RowKit
def RetsO (P : Program) (f : FuncId) (args : Array Value) (w0 w : World) (R : Value → List Chunk → Prop) : Prop :=
 Calls P f args w fun e w' => ∃ v L, e = .returned v ∧ Wd w0 L w' ∧ R v L
section
variable {P : Program} {f : FuncId} {fn : Func} {c : Code} {R : Ending → World → Prop} {w0 w : World} {L : List Chunk} {v0 v1 v2 v3 v4 v5 v6 v7 v8 : Value}
theorem enterW {args : List Value} (W : Wd w0 L w) (hf : P.funcs[f]? = some fn) (hb : fn.body = some c)
   {n : Nat} (hn : fn.ntmps = n) (hsz : Nat.ble args.length n = true) (h : ∀ a, St n w0 (argsK 0 args) L a w → c.wp P (bodyPost P fn R) a w) : Calls P f args.toArray w R :=
 enterL hf hb hn hsz fun a S => h a ⟨S.kn, W⟩
theorem enterW3 (W : Wd w0 L w) (hf : P.funcs[f]? = some fn) (hb : fn.body = some c) {n : Nat} (hn : fn.ntmps = n) (hsz : Nat.ble 3 n = true)
   (h : ∀ a, St n w0 [(0, true, v0), (1, true, v1), (2, true, v2)] L a w → c.wp P (bodyPost P fn R) a w) : Calls P f #[v0, v1, v2] w R := enterW (args := [v0, v1, v2]) W hf hb hn hsz h
end
section
variable {P : Program} {n : Nat} {w0 : World} {K : KL} {L : List Chunk} {ty : TypeId} {pos : String} {aft : Array Edge} {gd : Option (Nat × Bool)} {a : Act} {w : World} {Z : Act → World → Prop} {Q : Exit → Act → World → Prop} {d : Nat} {c c' c'' c3 : Chunk}
theorem op_callO {f : FuncId} {xs : List Operand} {ts : Array TypeId} {vs : List Value} {R : Value → List Chunk → Prop} (S : St n w0 K L a w) (hf : ∀ args w, (callFunc f args).run P w = .ok (.enter f args) w) (hx : EvL n true K xs vs)
   (hc : RetsO P f vs.toArray w0 w R) (hd : Nat.blt d n = true) (next : ∀ v L', R v L' → ∀ a w', St n w0 ((d, true, v) :: K) L' a w' → Z a w') : Oper.wp P ⟨some d, .call ⟨.value (.func f), xs.toArray, ts⟩, ty, pos, aft, gd⟩ a w Z Q :=
 op_call S hf hx hc fun e w' ⟨v, L', he, hw, hr⟩ => ⟨v, he, next v L' hr _ _ ⟨S.kn.put hd v, hw⟩⟩
theorem St.perm (S : St n w0 K L a w) {L' : List Chunk} (h : L.Perm L') : St n w0 K L' a w := ⟨S.kn, S.wd.perm h⟩
theorem St.swap (S : St n w0 K (c :: c' :: L) a w) : St n w0 K (c' :: c :: L) a w := S.perm (.swap _ _ _)
end
end Go.Fw
namespace Go.Fw
open Go.RowKit
section ops
variable {P : Program} {n : Nat} {w0 : World} {K : KL} {L : List Chunk} {b : Bool} {dst : Option Tmp} {ty : TypeId} {pos : String} {aft : Array Edge} {gd : Option (Nat × Bool)}
theorem ys_shr {t t' : TypeId} {x y : Operand} {k k' : IntKind} {p : Int} {m : Nat} (hx : Ev n b K x (.int k p)) (hy : Ev n b K y (.int k' (m : Int))) (hm : Nat.ble m k.bits = true) : Yr P ⟨dst, .binOp .shr t x y t', ty, pos, aft, gd⟩ n K w0 L b (.int k (p.fdiv (2 ^ m))) := fun a w hb hkn _ => by
 have h := Nat.le_of_ble_eq_true hm
 have h2 : ¬ ((m : Int) < 0) := by omega
 have h3 : min m k.bits = m := by omega
 simp only [execOp, hx a hb hkn, hy a hb hkn]
 simp [eqGuard, binOp, Op.shift, h2, h3]
theorem ys_shl {t t' : TypeId} {x y : Operand} {k k' : IntKind} {p : Int} {m : Nat} (hx : Ev n b K x (.int k p)) (hy : Ev n b K y (.int k' (m : Int))) (hm : Nat.ble m k.bits = true) : Yr P ⟨dst, .binOp .shl t x y t', ty, pos, aft, gd⟩ n K w0 L b (.int k (k.wrap (p * 2 ^ m))) := fun a w hb hkn _ => by
 have h := Nat.le_of_ble_eq_true hm
 have h2 : ¬ ((m : Int) < 0) := by omega
 have h3 : min m k.bits = m := by omega
 simp only [execOp, hx a hb hkn, hy a hb hkn]
 simp [eqGuard, binOp, Op.shift, h2, h3]
theorem ys_rem {t t' : TypeId} {x y : Operand} {k : IntKind} {p q : Int} (hx : Ev n b K x (.int k p)) (hy : Ev n b K y (.int k q)) (h : b = true → q ≠ 0) : Yr P ⟨dst, .binOp .rem t x y t', ty, pos, aft, gd⟩ n K w0 L b (.int k (p.tmod q)) := fun a w hb hkn _ => by
 have h2 := h hb
 simp only [execOp, hx a hb hkn, hy a hb hkn]
 simp [eqGuard, binOp, Op.intDiv, h2]
end ops
section
variable {P : Program} {n : Nat} {w0 : World} {K : KL} {L : List Chunk} {ty : TypeId} {pos : String} {aft : Array Edge} {gd : Option (Nat × Bool)} {a : Act} {w : World} {Z : Act → World → Prop} {Q : Exit → Act → World → Prop} {d : Nat}
end
end Go.Fw
namespace Go.Fw
open Go.RowKit
abbrev bs (l : List UInt8) : ByteArray := ⟨l.toArray⟩
theorem bs_of (s : ByteArray) : s = bs s.data.toList := by cases s; simp
theorem bs_size (l : List UInt8) : (bs l).size = l.length := by simp [bs, ByteArray.size]
theorem bs_toList (l : List UInt8) : (bs l).toList = l := by rw [ByteArray.toList_eq]
theorem bs_get {l : List UInt8} {j : Nat} {b : UInt8} (h : l[j]? = some b) : (bs l)[j]? = some b := by
 obtain ⟨h1, h2⟩ := List.getElem?_eq_some_iff.1 h
 have h3 : j < (bs l).size := by rw [bs_size]; exact h1
 rw [getElem?_pos (bs l) j h3]
 show some (l.toArray[j]) = _
 simp [h2]
theorem bs_ext (l : List UInt8) (i j : Nat) : (bs l).extract i j = bs ((l.take j).drop i) := by
 apply ByteArray.ext
 rw [ByteArray.data_extract]
 simp [bs, List.extract_toArray, List.extract_eq_take_drop, List.drop_take]
theorem bs_inj {l m : List UInt8} : bs l = bs m ↔ l = m := by simp [bs]
def b8 (p : Int) : UInt8 := UInt8.ofNat (p % 256).toNat
theorem b8_val (p : Int) : ((b8 p).toNat : Int) = p % 256 := by
 unfold b8
 rw [UInt8.toNat_ofNat']
 omega
theorem u8lt (x : UInt8) : (x.toNat : Int) < 256 := by have := x.toNat_lt; omega
def encB (x : UInt8) : List Value := [.int .u8 (x.toNat : Int)]
theorem flatB (l : List UInt8) : l.flatMap encB = l.map (fun x => Value.int .u8 (x.toNat : Int)) := by
 induction l with
 | nil => rfl
 | cons x r ih => simp [encB, ih]
theorem flatB_len (l : List UInt8) : (l.flatMap encB).length = l.length := by rw [flatB]; simp
def xorK (k : IntKind) (p q : Int) : Int := k.wrap ((BitVec.ofInt k.bits p ^^^ BitVec.ofInt k.bits q).toNat : Int)
section ops
variable {P : Program} {n : Nat} {w0 : World} {K : KL} {L : List Chunk} {b : Bool} {dst : Option Tmp} {ty : TypeId} {pos : String} {aft : Array Edge} {gd : Option (Nat × Bool)}
theorem ys_bxor {t t' : TypeId} {x y : Operand} {k : IntKind} {p q : Int} (hx : Ev n b K x (.int k p)) (hy : Ev n b K y (.int k q)) : Yr P ⟨dst, .binOp .xor t x y t', ty, pos, aft, gd⟩ n K w0 L b (.int k (xorK k p q)) := fun a w hb hkn _ => by
 simp only [execOp, hx a hb hkn, hy a hb hkn]
 simp [eqGuard, binOp, Op.intBits, xorK]
theorem Yv {t t' : TypeId} {x y : Operand} {k k' : IntKind} {p c : Int} {m : Nat} (hx : Ev n b K x (.int k p)) (hy : Ev n b K y (.int k' (m : Int))) (hm : Nat.ble m k.bits = true) (hc : (2 : Int) ^ m = c) : Yr P ⟨dst, .binOp .shr t x y t', ty, pos, aft, gd⟩ n K w0 L b (.int k (p / c)) := by
 subst hc
 exact Yr.of_imp (fun hb => by rw [Int.fdiv_eq_ediv_of_nonneg _ (by exact Int.le_of_lt (Int.pow_pos (by decide)))]) (ys_shr hx hy hm)
theorem ys_ixStr {t : TypeId} {x y : Operand} {l : List UInt8} {j : Nat} {k : IntKind} {u : UInt8} (ht : P.underlying t = some .string) (hx : Ev n b K x (.string (bs l))) (hy : Ev n b K y (.int k (j : Int))) (h : b = true → l[j]? = some u) : Yr P ⟨dst, .index t x y, ty, pos, aft, gd⟩ n K w0 L b (.int .u8 (u.toNat : Int)) := fun a w hb hkn _ => by
 have h1 := bs_get (h hb)
 simp [execOp, hx a hb hkn, hy a hb hkn, Instr.index, asIntOf, run_underlying ht, h1]
theorem ys_lenStr {t t' : TypeId} {x : Operand} {l : List UInt8} (ht : P.underlying t = some .string) (hx : Ev n b K x (.string (bs l))) : Yr P ⟨dst, .call ⟨.builtin .len, #[x], #[t]⟩, t', pos, aft, gd⟩ n K w0 L b (.int .i64 (l.length : Int)) := fun a w hb hkn _ => by
 have h1 := bs_size l
 simp [execOp, resolve, invoke, builtin, Builtin.len_, hx a hb hkn, run_underlying ht, goInt, h1]
theorem ys_eqlStr {t t' : TypeId} {x y : Operand} {l m : List UInt8} (hx : Ev n b K x (.string (bs l))) (hy : Ev n b K y (.string (bs m))) : Yr P ⟨dst, .binOp .eql t x y t', ty, pos, aft, gd⟩ n K w0 L b (.bool (decide (l = m))) := fun a w hb hkn _ => by
 have h : (l == m) = decide (l = m) := by rw [Bool.eq_iff_iff]; simp
 simp only [execOp, hx a hb hkn, hy a hb hkn]
 simp [eqGuard, binOp, Op.stringOp, bs_toList, h]
theorem ys_neqStr {t t' : TypeId} {x y : Operand} {l m : List UInt8} (hx : Ev n b K x (.string (bs l))) (hy : Ev n b K y (.string (bs m))) : Yr P ⟨dst, .binOp .neq t x y t', ty, pos, aft, gd⟩ n K w0 L b (.bool (decide (l ≠ m))) := fun a w hb hkn _ => by
 have h : (!(l == m)) = decide (l ≠ m) := by rw [Bool.eq_iff_iff]; simp
 simp only [execOp, hx a hb hkn, hy a hb hkn]
 simp [eqGuard, binOp, Op.stringOp, bs_toList, h]
theorem wrap_u8 (p : Int) : IntKind.u8.wrap p = ((b8 p).toNat : Int) := by
 rw [b8_val]
 simp [IntKind.wrap, IntKind.bits, IntKind.signed]
theorem Xr {s t : TypeId} {x : Operand} {ds : TypeDesc} {k : IntKind} {p : Int} (hs : P.underlying s = some ds) (ht : P.underlying t = some (.int .u8)) (hx : Ev n b K x (.int k p)) : Yr P ⟨dst, .convert s t x, ty, pos, aft, gd⟩ n K w0 L b (.int .u8 ((b8 p).toNat : Int)) :=
 Yr.of_imp (fun _ => by rw [wrap_u8]) (ys_cv hs ht hx)
theorem ys_arr {t t1 e m sz g : Nat} {x : Operand} (hp : P.underlying t = some (.array m e)) (hz : Size P e sz) (hx : Ev n b K x (.pointer (some ⟨g, 0, none⟩))) : Yr P ⟨dst, .slice t x none none none, ty, pos, aft, gd⟩ n K w0 L b (.slice (some ⟨g, 0, none⟩) m m) := fun a w hb hkn _ => by
 simp only [execOp, hx a hb hkn, Option.map_none, Instr.sliceAt]
 simp [run_underlying hp, Instr.sureAddr, Instr.sliceBounds, Instr.sliceBound, asIntOf, hz w, Addr.add]
theorem ys_ixAI {t e m sz : Nat} {x y : Operand} {g o : Nat} {ik : IntKind} {k : Int} (h1 : ArrayT P t m e) (h2 : Size P e sz) (hx : Ev n b K x (.pointer (some ⟨g, o, none⟩))) (hy : Ev n b K y (.int ik k)) (h : b = true → 0 ≤ k ∧ k < m) :
   Yr P ⟨dst, .indexAddr t x y, ty, pos, aft, gd⟩ n K w0 L b (.pointer (some ⟨g, o + k.toNat * sz, none⟩)) := fun a w hb hkn hw => by
 obtain ⟨h3, h4⟩ := h hb
 obtain ⟨j, rfl⟩ := Int.eq_ofNat_of_zero_le h3
 exact Yj h1 h2 hx hy (fun _ => by omega) a w hb hkn hw
theorem ys_remE {t t' : TypeId} {x y : Operand} {k : IntKind} {p q : Int} (hx : Ev n b K x (.int k p)) (hy : Ev n b K y (.int k q)) (h : b = true → 0 ≤ p ∧ 0 < q) : Yr P ⟨dst, .binOp .rem t x y t', ty, pos, aft, gd⟩ n K w0 L b (.int k (p % q)) :=
 Yr.of_imp (fun hb => by rw [Int.tmod_eq_emod_of_nonneg (h hb).1]) (ys_rem hx hy (fun hb => by have := (h hb).2; omega))
def BuildA (P : Program) (t : TypeId) (zs : List Value) (size : Nat) : Prop :=
 (∃ z, (∀ w, (zeroValue t).run P w = .ok z w) ∧ z.cells = zs.toArray) ∧ ∃ m e, P.underlying t = some (.array m e) ∧ ∀ w, (sizeOf e).run P w = .ok size w
theorem ys_bldA {t size : Nat} {ps : List (Nat × Operand)} {vs zs us : List Value} (h : BuildA P t zs size) (hx : EvL n b K (ps.map (·.2)) vs) (hr : fillL (fun i => some (i * size, size)) zs ((ps.map (·.1)).zip vs) = some us) :
   Yr P ⟨dst, .build t ps.toArray, ty, pos, aft, gd⟩ n K w0 L b (.agg us.toArray) := ys_build hx fun w => by
 obtain ⟨⟨z, hz, hc⟩, m, e, hu, hm⟩ := h
 have h1 := fill_of hr
 simp only [Instr.build, Sem.run_bind, hz, Result.andThen_ok, run_underlying hu, hm, hc]
 simp [h1]
end ops
section
variable {P : Program} {n : Nat} {w0 : World} {K : KL} {L : List Chunk} {ty : TypeId} {pos : String} {aft : Array Edge} {gd : Option (Nat × Bool)} {a : Act} {w : World} {Z : Act → World → Prop} {Q : Exit → Act → World → Prop} {d : Nat}
end
theorem Sl.first {P : Program} {w : World} {α : Type} {enc : α → List Value} {size B : Nat} {A : Option Addr} {l : List α} {cap : Nat} (h : Sl enc size w B (.slice A l.length cap) l) (m : Nat) (hm : m ≤ l.length) (hsz : 0 < size) (he : ∀ x, (enc x).length = size) :
   (Builtin.firstCells size m (.slice A l.length cap)).run P w = .ok ((l.take m).flatMap enc).toArray w := by
 have hflen : ∀ l : List α, (l.flatMap enc).length = l.length * size := by
   intro l
   induction l with
   | nil => simp
   | cons x r ih => simp [he, ih, Nat.add_mul, Nat.add_comm]
 obtain ⟨A', cap', hv, h2, h3, h4⟩ := h
 simp only [Value.slice.injEq, true_and] at hv
 obtain ⟨rfl, rfl⟩ := hv
 rcases Nat.eq_zero_or_pos l.length with h0 | hp
 · have : l = [] := List.eq_nil_of_length_eq_zero h0
   subst this
   have : m = 0 := by simpa using hm
   subst this
   cases A <;> simp [Builtin.firstCells, loadCells, loadCellsFrom]
 · obtain ⟨g, o, rfl, hg, hc⟩ := h4 hp
   have hs := Src.sl (P := P) (w := w) (enc := enc) (size := size) (B := B) (c := cap) (l := l.take m) (A := some ⟨g, o, none⟩) (cap := cap) ⟨_, _, rfl, by simp; omega, h3, fun _ => ⟨g, o, rfl, hg, fun k x hx => hc k x (by
     rw [List.getElem?_take] at hx
     split at hx
     · exact hx
     · cases hx)⟩⟩ hsz he
   have hlen : (l.take m).length = m := by simp; omega
   have e2 : (some (⟨g, o, none⟩ : Addr)) = some ⟨g, o, none⟩ := rfl
   refine run_firstCells_some (P := P) w size m ⟨g, o, none⟩ l.length cap _ (by rw [hflen, hlen]) (fun j u hj => ?_)
   rw [Addr.add_mid]
   have hget : ∀ (l : List α) (j : Nat) (u : Value), (l.flatMap enc)[j]? = some u → ∃ x, l[j / size]? = some x ∧ (enc x)[j % size]? = some u := by
     intro l
     induction l with
     | nil => intro j u hj; simp at hj
     | cons x r ih =>
       intro j u hj
       rw [List.flatMap_cons, List.getElem?_append] at hj
       split at hj
       · rename_i hlt
         rw [he] at hlt
         exact ⟨x, by simp [Nat.div_eq_of_lt hlt], by rw [Nat.mod_eq_of_lt hlt]; exact hj⟩
       · rename_i hge
         rw [he] at hge hj
         obtain ⟨y, h2, h3⟩ := ih _ _ hj
         have hge' : size ≤ j := by omega
         refine ⟨y, ?_, ?_⟩
         · rw [show j / size = (j - size) / size + 1 from Nat.div_eq_sub_div hsz hge']
           simpa using h2
         · rw [Nat.mod_eq_sub_mod hge']; exact h3
   obtain ⟨x, h5, h6⟩ := hget _ j u hj
   rw [List.getElem?_take] at h5
   split at h5
   · have := hc _ x h5 _ u h6
     rw [show o + j = o + j / size * size + j % size by rw [Nat.add_assoc, Nat.mul_comm, Nat.div_add_mod]]
     exact this
   · cases h5
section
variable {P : Program} {n : Nat} {w0 : World} {K : KL} {L : List Chunk} {ty : TypeId} {pos : String} {aft : Array Edge} {gd : Option (Nat × Bool)} {a : Act} {w : World} {Z : Act → World → Prop} {Q : Exit → Act → World → Prop} {d : Nat}
end
section
variable {P : Program} {n : Nat} {w0 : World} {K : KL} {L : List Chunk} {ty : TypeId} {pos : String} {aft : Array Edge} {gd : Option (Nat × Bool)} {a : Act} {w : World} {Z : Act → World → Prop} {Q : Exit → Act → World → Prop} {d : Nat}
theorem op_extend {α : Type} {enc : α → List Value} {l : List α} (ys : List α) {t t2 e bytes size cap k : Nat} {d2 : TypeDesc} {z : Value} {A : Option Addr} {s x : Operand} {xv : Value} (S : St n w0 K L a w) (ht : P.underlying t = some (.slice e)) (ht2 : P.underlying t2 = some d2) (hd2 : d2 = .string ∨ ∃ e2, d2 = .slice e2)
   (hi : InfoT P e z size bytes) (hzs : z.cells.size = size) (hk : L[k]? = some (rowOf e size enc A cap l)) (hs : Ev n true K s (.slice A l.length cap)) (hx : Ev n true K x xv) (hsrc : Src P w size xv ys.length (ys.flatMap enc)) (hb : (l.length + ys.length) * bytes ≤ 200000000000000) (hb1 : Nat.blt 0 bytes = true) (hb2 : Nat.ble bytes 65536 = true) (hd : Nat.blt d n = true)
   (next : ∀ A' cap' a w, St n w0 ((d, true, .slice A' (l ++ ys).length cap') :: K) (L.set k (rowOf e size enc A' cap' (l ++ ys))) a w → Z a w) :
   Oper.wp P ⟨some d, .call ⟨.builtin .append, #[s, x], #[t, t2]⟩, ty, pos, aft, gd⟩ a w Z Q := by
 refine op_append S ht ht2 hd2 hi hzs hs hx hk hsrc hb hb1 hb2 hd (fun A' cap' a w _ S' => next A' cap' a w ?_)
 unfold rowOf
 rw [List.length_append, List.flatMap_append]; exact S'
end
theorem Src.str {P : Program} {w : World} {l : List UInt8} : Src P w 1 (.string (bs l)) l.length (l.flatMap encB) := by
 have e : ((bs l).extract 0 l.length).data.map (fun b => Value.int .u8 (b.toNat : Int)) = (l.flatMap encB).toArray := by
   rw [bs_ext, flatB]; simp [bs]
 exact ⟨fun W => by simp [Builtin.lenOf, bs_size], by simp only [Builtin.firstCells, e]; rfl, by simp only [Builtin.firstCells, e]; rfl, by rw [flatB_len, Nat.mul_one], fun u hu => by
   rw [flatB] at hu
   obtain ⟨x, _, rfl⟩ := List.mem_map.1 hu
   rfl⟩
section
variable {P : Program} {Q : Exit → Act → World → Prop} {J : Act → World → Prop} {l i : Nat} {a : Act} {w : World}
theorem jump_ret (h : Q .ret a w) : Exit.jump l J Q .ret a w := h
theorem st_rounds {c : Code} (n : Nat) (h : Code.rounds P c Q n a w) : (Code.loop c).wp P Q a w := wp_loop_rounds n h
theorem Zt {c : Code} {n : Nat} (h : c.wp P (Exit.then (fun a w => Code.rounds P c Q n a w) Q) a w) : Code.rounds P c Q (n + 1) a w := h
end
section ops
variable {P : Program} {n : Nat} {w0 : World} {K : KL} {L : List Chunk} {b : Bool} {dst : Option Tmp} {ty : TypeId} {pos : String} {aft : Array Edge} {gd : Option (Nat × Bool)}
theorem ys_ldN {t : TypeId} {x : Operand} {g i k : Nat} {cs : List Value} {e : TypeId} {fr : Nat × Nat} {v : Value} (h1 : One P t) (hx : Ev n b K x (.pointer (some ⟨g, i, none⟩)))
   (hk : L[k]? = some (.blk g (.cells cs.toArray e fr))) (hc : b = true → cs[i]? = some v) : Yr P ⟨dst, .load t x, ty, pos, aft, gd⟩ n K w0 L b v := fun a w hb hkn hw => by
 have hg := (hw.get hk).2
 simp [execOp, hx a hb hkn, Instr.loadAt, Instr.sureAddr, run_load_one h1 (ad := ⟨g, i, none⟩) ((cell_of_row w g i _ e fr hg).trans (by simpa using hc hb))]
end ops
end Go.Fw
namespace Go.Fw
open Go.RowKit
def Run (P : Program) (n : Nat) (w0 : World) (L : List Chunk) (ops : Array Oper) (K : KL) (os : List Oper) (K' : KL) (os' : List Oper) : Prop :=
 ∀ (Q : Exit → Act → World → Prop) (a : Act) (w : World), St n w0 K L a w → (∀ a w, St n w0 K' L a w → wpList P ops Q os' a w) → wpList P ops Q os a w
section
variable {P : Program} {Q : Exit → Act → World → Prop} {n : Nat} {w0 : World} {K K' : KL} {L : List Chunk} {a : Act} {w : World} {ops : Array Oper} {os os' rest : List Oper} {op : Op} {ty : TypeId} {pos : String} {aft : Array Edge} {v : Value} {d x y t t' g k : Nat} {e : TypeId} {fr : Nat × Nat} {cs : List Value}
theorem run (S : St n w0 K L a w) (h : Run P n w0 L ops K os K' os') (next : ∀ a w, St n w0 K' L a w → wpList P ops Q os' a w) : wpList P ops Q os a w := h _ _ _ S next
theorem Run.z : Run P n w0 L ops K os K os := fun _ _ _ S next => next _ _ S
theorem Run.xx (hy : Ys P ⟨some d, op, ty, pos, aft, none⟩ n K w0 L true v) (hd : Nat.blt d n = true) (h : Run P n w0 L ops ((d, true, v) :: K) rest K' os') : Run P n w0 L ops K (⟨some d, op, ty, pos, aft, none⟩ :: rest) K' os' :=
 fun _ _ _ S next => st_y S hy hd fun _ _ S => h _ _ _ S next
theorem Run.yy (hy : Yr P ⟨some d, op, ty, pos, aft, none⟩ n K w0 L true v) (hd : Nat.blt d n = true) (h : Run P n w0 L ops ((d, true, v) :: K) rest K' os') : Run P n w0 L ops K (⟨some d, op, ty, pos, aft, none⟩ :: rest) K' os' :=
 Run.xx hy.ys hd h
abbrev lk (K : KL) (d n x : Nat) : Option (Bool × Value) × Bool := (look K x, Nat.blt d n)
theorem lk1 {u : Value} (h : lk K d n x = (some (true, u), true)) : look K x = some (true, u) := congrArg Prod.fst h
theorem lk2 {r : Option (Bool × Value)} (h : lk K d n x = (r, true)) : Nat.blt d n = true := congrArg Prod.snd h
theorem Run.mv (h : lk K d n x = (some (true, v), true)) (r : Run P n w0 L ops ((d, true, v) :: K) rest K' os') : Run P n w0 L ops K (⟨some d, .move (.tmp x), ty, pos, aft, none⟩ :: rest) K' os' :=
 Run.yy (Zd (Ev.t (lk1 h))) (lk2 h) r
theorem Run.mc (hd : Nat.blt d n = true) (r : Run P n w0 L ops ((d, true, v) :: K) rest K' os') : Run P n w0 L ops K (⟨some d, .move (.const v), ty, pos, aft, none⟩ :: rest) K' os' :=
 Run.yy (Zd Ev.c) hd r
theorem Run.as (h : lk K d n x = (some (true, v), true)) (r : Run P n w0 L ops ((d, true, v) :: K) rest K' os') : Run P n w0 L ops K (⟨some d, .assign (.tmp x), ty, pos, aft, none⟩ :: rest) K' os' :=
 Run.yy (Yp (Ev.t (lk1 h))) (lk2 h) r
theorem Run.ac (hd : Nat.blt d n = true) (r : Run P n w0 L ops ((d, true, v) :: K) rest K' os') : Run P n w0 L ops K (⟨some d, .assign (.const v), ty, pos, aft, none⟩ :: rest) K' os' :=
 Run.yy (Yp Ev.c) hd r
theorem Run.ld {i : Nat} (h1 : One P t) (k : Nat) (h : lk K d n x = (some (true, .pointer (some ⟨g, i, none⟩)), true)) (hk : L[k]? = some (.blk g (.cells cs.toArray e fr))) (hc : nth cs i = some v)
   (r : Run P n w0 L ops ((d, true, v) :: K) rest K' os') : Run P n w0 L ops K (⟨some d, .load t (.tmp x), ty, pos, aft, none⟩ :: rest) K' os' :=
 Run.yy (Yg h1 (Ev.t (lk1 h)) (k := k) hk hc) (lk2 h) r
theorem Run.la {i m : Nat} {vs : List Value} (h1 : Many P t m) (k : Nat) (h : lk K d n x = (some (true, .pointer (some ⟨g, i, none⟩)), true)) (hk : L[k]? = some (.blk g (.cells cs.toArray e fr))) (hc : cellsAt cs i m = some vs)
   (r : Run P n w0 L ops ((d, true, .agg vs.toArray) :: K) rest K' os') : Run P n w0 L ops K (⟨some d, .load t (.tmp x), ty, pos, aft, none⟩ :: rest) K' os' :=
 Run.yy (ys_ldA h1 (Ev.t (lk1 h)) (k := k) hk hc) (lk2 h) r
theorem Run.fa {f i m : Nat} {fs : Array Field} {nm tg pp : String} {tt o bo : Nat} {em : Bool} (hu : P.underlying t = some (.struct fs)) (hz : ∀ w, (sizeOf tt).run P w = .ok m w) (i' : Nat) (hf : (fs[f]?, Nat.blt 0 m) = (some ⟨nm, tt, o, em, tg, pp, bo⟩, true)) (h : lk K d n x = (some (true, .pointer (some ⟨g, i, none⟩)), true)) (hi : i + o = i')
   (r : Run P n w0 L ops ((d, true, .pointer (some ⟨g, i', none⟩)) :: K) rest K' os') : Run P n w0 L ops K (⟨some d, .fieldAddr t (.tmp x) f, ty, pos, aft, none⟩ :: rest) K' os' :=
 Run.yy (Zp (FieldT.mk hu (congrArg Prod.fst hf) hz (congrArg Prod.snd hf)) (Ev.t (lk1 h)) (i' := i') hi) (lk2 h) r
theorem Run.lt {ik : IntKind} {p q : Int} (hp : p < q) (h : lk K d n x = (some (true, .int ik p), true)) (h' : look K y = some (true, .int ik q)) (r : Run P n w0 L ops ((d, true, .bool true) :: K) rest K' os') : Run P n w0 L ops K (⟨some d, .binOp .lss t (.tmp x) (.tmp y) t', ty, pos, aft, none⟩ :: rest) K' os' :=
 Run.yy (Ym hp (Zy (Ev.t (lk1 h)) (Ev.t h'))) (lk2 h) r
theorem Run.ge {ik : IntKind} {p q : Int} (hp : ¬ p < q) (h : lk K d n x = (some (true, .int ik p), true)) (h' : look K y = some (true, .int ik q)) (r : Run P n w0 L ops ((d, true, .bool false) :: K) rest K' os') : Run P n w0 L ops K (⟨some d, .binOp .lss t (.tmp x) (.tmp y) t', ty, pos, aft, none⟩ :: rest) K' os' :=
 Run.yy (Yf hp (Zy (Ev.t (lk1 h)) (Ev.t h'))) (lk2 h) r
theorem Run.ad {p q : Int} (hp : I64 (p + q)) (h : lk K d n x = (some (true, .int .i64 p), true)) (r : Run P n w0 L ops ((d, true, .int .i64 (p + q)) :: K) rest K' os') : Run P n w0 L ops K (⟨some d, .binOp .add t (.tmp x) (.const (.int .i64 q)) t', ty, pos, aft, none⟩ :: rest) K' os' :=
 Run.yy (ys_addI (Ev.t (lk1 h)) Ev.c fun _ => hp) (lk2 h) r
theorem Run.ix {sz o len cap j : Nat} {ik : IntKind} (h1 : SliceT P t e) (h2 : Size P e sz) (hj : j < len) (h : lk K d n x = (some (true, .slice (some ⟨g, o, none⟩) len cap), true)) (h' : look K y = some (true, .int ik (j : Int)))
   (r : Run P n w0 L ops ((d, true, .pointer (some ⟨g, o + j * sz, none⟩)) :: K) rest K' os') : Run P n w0 L ops K (⟨some d, .indexAddr t (.tmp x) (.tmp y), ty, pos, aft, none⟩ :: rest) K' os' :=
 Run.yy (Yi h1 h2 (Ev.t (lk1 h)) (Ev.t h') fun _ => hj) (lk2 h) r
theorem Run.ln {A : Option Addr} {m c : Nat} (h1 : SliceT P t e) (h : lk K d n x = (some (true, .slice A m c), true)) (r : Run P n w0 L ops ((d, true, .int .i64 (m : Int)) :: K) rest K' os') : Run P n w0 L ops K (⟨some d, .call ⟨.builtin .len, #[.tmp x], #[t]⟩, ty, pos, aft, none⟩ :: rest) K' os' :=
 Run.yy (ys_lenS h1 (Ev.t (lk1 h))) (lk2 h) r
theorem Run.ex {i : Nat} {vs : List Value} (h : lk K d n x = (some (true, .tuple vs.toArray), true)) (hv : vs[i]? = some v) (r : Run P n w0 L ops ((d, true, v) :: K) rest K' os') : Run P n w0 L ops K (⟨some d, .extract (.tmp x) i, ty, pos, aft, none⟩ :: rest) K' os' :=
 Run.yy (ys_ext (Ev.t (lk1 h)) hv) (lk2 h) r
theorem Run.nt {p : Bool} (h : lk K d n x = (some (true, .bool p), true)) (r : Run P n w0 L ops ((d, true, .bool (!p)) :: K) rest K' os') : Run P n w0 L ops K (⟨some d, .unOp .not t (.tmp x), ty, pos, aft, none⟩ :: rest) K' os' :=
 Run.yy (ys_not (Ev.t (lk1 h))) (lk2 h) r
theorem Run.gx {j : Nat} {p : Bool} (hj : ((ops[j]?).bind (·.dst), Nat.blt d n) = (some t, true)) (hl : look K t = some (true, .bool p)) (hy : Ys P ⟨some d, op, ty, pos, aft, some (j, p)⟩ n K w0 L true v) (h : Run P n w0 L ops ((d, true, v) :: K) rest K' os') : Run P n w0 L ops K (⟨some d, op, ty, pos, aft, some (j, p)⟩ :: rest) K' os' :=
 fun _ _ _ S next => st_yt S (congrArg Prod.fst hj) hl hy (congrArg Prod.snd hj) fun _ _ S => h _ _ _ S next
theorem Run.gy {j : Nat} {p : Bool} (hj : ((ops[j]?).bind (·.dst), Nat.blt d n) = (some t, true)) (hl : look K t = some (true, .bool p)) (hy : Yr P ⟨some d, op, ty, pos, aft, some (j, p)⟩ n K w0 L true v) (h : Run P n w0 L ops ((d, true, v) :: K) rest K' os') : Run P n w0 L ops K (⟨some d, op, ty, pos, aft, some (j, p)⟩ :: rest) K' os' :=
 Run.gx hj hl hy.ys h
theorem Run.sk {j : Nat} {p q : Bool} (hj : ((ops[j]?).bind (·.dst), Nat.blt d n) = (some t, true)) (hl : look K t = some (true, .bool p)) (hpq : q = !p) (h : Run P n w0 L ops ((d, false, undef) :: K) rest K' os') : Run P n w0 L ops K (⟨some d, op, ty, pos, aft, some (j, q)⟩ :: rest) K' os' :=
 fun _ _ _ S next => st_skip S (congrArg Prod.fst hj) hl hpq (congrArg Prod.snd hj) fun _ _ S => h _ _ _ S next
theorem Run.s0 {j : Nat} {q : Bool} {u : Value} (hj : ((ops[j]?).bind (·.dst), Nat.blt d n) = (some t, true)) (hl : look K t = some (false, u)) (h : Run P n w0 L ops ((d, false, undef) :: K) rest K' os') : Run P n w0 L ops K (⟨some d, op, ty, pos, aft, some (j, q)⟩ :: rest) K' os' :=
 fun _ _ _ S next => st_skip0 S (congrArg Prod.fst hj) hl (congrArg Prod.snd hj) fun _ _ S => h _ _ _ S next
def QRun (P : Program) (n : Nat) (w0 : World) (L : List Chunk) (ops : Array Oper) (K : KL) (os : List Oper) (K' : KL) (os' : List Oper) : Prop :=
 ∀ (Z : Act → Prop) (a : Act), Kn n K a → (∀ a, Kn n K' a → wpQuiet P ops (Wd w0 L) Z os' a) → wpQuiet P ops (Wd w0 L) Z os a
theorem qrun {Z : Act → Prop} (S : Kn n K a) (h : QRun P n w0 L ops K os K' os') (next : ∀ a, Kn n K' a → wpQuiet P ops (Wd w0 L) Z os' a) : wpQuiet P ops (Wd w0 L) Z os a := h _ _ S next
theorem QRun.z : QRun P n w0 L ops K os K os := fun _ _ S next => next _ S
theorem QRun.xx (hy : Ys P ⟨some d, op, ty, pos, aft, none⟩ n K w0 L true v) (hd : Nat.blt d n = true) (h : QRun P n w0 L ops ((d, true, v) :: K) rest K' os') : QRun P n w0 L ops K (⟨some d, op, ty, pos, aft, none⟩ :: rest) K' os' :=
 fun _ _ S next => q_y S hy hd fun _ S => h _ _ S next
theorem QRun.yy (hy : Yr P ⟨some d, op, ty, pos, aft, none⟩ n K w0 L true v) (hd : Nat.blt d n = true) (h : QRun P n w0 L ops ((d, true, v) :: K) rest K' os') : QRun P n w0 L ops K (⟨some d, op, ty, pos, aft, none⟩ :: rest) K' os' :=
 QRun.xx hy.ys hd h
theorem QRun.gx {j : Nat} {p : Bool} (hj : ((ops[j]?).bind (·.dst), Nat.blt d n) = (some t, true)) (hl : look K t = some (true, .bool p)) (hy : Ys P ⟨some d, op, ty, pos, aft, some (j, p)⟩ n K w0 L true v) (h : QRun P n w0 L ops ((d, true, v) :: K) rest K' os') : QRun P n w0 L ops K (⟨some d, op, ty, pos, aft, some (j, p)⟩ :: rest) K' os' :=
 fun _ _ S next => q_yt S (congrArg Prod.fst hj) hl hy (congrArg Prod.snd hj) fun _ S => h _ _ S next
theorem QRun.gy {j : Nat} {p : Bool} (hj : ((ops[j]?).bind (·.dst), Nat.blt d n) = (some t, true)) (hl : look K t = some (true, .bool p)) (hy : Yr P ⟨some d, op, ty, pos, aft, some (j, p)⟩ n K w0 L true v) (h : QRun P n w0 L ops ((d, true, v) :: K) rest K' os') : QRun P n w0 L ops K (⟨some d, op, ty, pos, aft, some (j, p)⟩ :: rest) K' os' :=
 QRun.gx hj hl hy.ys h
theorem QRun.sk {j : Nat} {p q : Bool} (hj : ((ops[j]?).bind (·.dst), Nat.blt d n) = (some t, true)) (hl : look K t = some (true, .bool p)) (hpq : q = !p) (h : QRun P n w0 L ops ((d, false, undef) :: K) rest K' os') : QRun P n w0 L ops K (⟨some d, op, ty, pos, aft, some (j, q)⟩ :: rest) K' os' :=
 fun _ _ S next => q_skip S (congrArg Prod.fst hj) hl hpq (congrArg Prod.snd hj) fun _ S => h _ _ S next
theorem QRun.s0 {j : Nat} {q : Bool} {u : Value} (hj : ((ops[j]?).bind (·.dst), Nat.blt d n) = (some t, true)) (hl : look K t = some (false, u)) (h : QRun P n w0 L ops ((d, false, undef) :: K) rest K' os') : QRun P n w0 L ops K (⟨some d, op, ty, pos, aft, some (j, q)⟩ :: rest) K' os' :=
 fun _ _ S next => q_skip0 S (congrArg Prod.fst hj) hl (congrArg Prod.snd hj) fun _ S => h _ _ S next
theorem QRun.mv (h : lk K d n x = (some (true, v), true)) (r : QRun P n w0 L ops ((d, true, v) :: K) rest K' os') : QRun P n w0 L ops K (⟨some d, .move (.tmp x), ty, pos, aft, none⟩ :: rest) K' os' :=
 QRun.yy (Zd (Ev.t (lk1 h))) (lk2 h) r
theorem QRun.mc (hd : Nat.blt d n = true) (r : QRun P n w0 L ops ((d, true, v) :: K) rest K' os') : QRun P n w0 L ops K (⟨some d, .move (.const v), ty, pos, aft, none⟩ :: rest) K' os' :=
 QRun.yy (Zd Ev.c) hd r
theorem QRun.as (h : lk K d n x = (some (true, v), true)) (r : QRun P n w0 L ops ((d, true, v) :: K) rest K' os') : QRun P n w0 L ops K (⟨some d, .assign (.tmp x), ty, pos, aft, none⟩ :: rest) K' os' :=
 QRun.yy (Yp (Ev.t (lk1 h))) (lk2 h) r
theorem QRun.ac (hd : Nat.blt d n = true) (r : QRun P n w0 L ops ((d, true, v) :: K) rest K' os') : QRun P n w0 L ops K (⟨some d, .assign (.const v), ty, pos, aft, none⟩ :: rest) K' os' :=
 QRun.yy (Yp Ev.c) hd r
theorem QRun.ld {i : Nat} (h1 : One P t) (k : Nat) (h : lk K d n x = (some (true, .pointer (some ⟨g, i, none⟩)), true)) (hk : L[k]? = some (.blk g (.cells cs.toArray e fr))) (hc : nth cs i = some v)
   (r : QRun P n w0 L ops ((d, true, v) :: K) rest K' os') : QRun P n w0 L ops K (⟨some d, .load t (.tmp x), ty, pos, aft, none⟩ :: rest) K' os' :=
 QRun.yy (Yg h1 (Ev.t (lk1 h)) (k := k) hk hc) (lk2 h) r
theorem QRun.la {i m : Nat} {vs : List Value} (h1 : Many P t m) (k : Nat) (h : lk K d n x = (some (true, .pointer (some ⟨g, i, none⟩)), true)) (hk : L[k]? = some (.blk g (.cells cs.toArray e fr))) (hc : cellsAt cs i m = some vs)
   (r : QRun P n w0 L ops ((d, true, .agg vs.toArray) :: K) rest K' os') : QRun P n w0 L ops K (⟨some d, .load t (.tmp x), ty, pos, aft, none⟩ :: rest) K' os' :=
 QRun.yy (ys_ldA h1 (Ev.t (lk1 h)) (k := k) hk hc) (lk2 h) r
theorem QRun.fa {f i m : Nat} {fs : Array Field} {nm tg pp : String} {tt o bo : Nat} {em : Bool} (hu : P.underlying t = some (.struct fs)) (hz : ∀ w, (sizeOf tt).run P w = .ok m w) (i' : Nat) (hf : (fs[f]?, Nat.blt 0 m) = (some ⟨nm, tt, o, em, tg, pp, bo⟩, true)) (h : lk K d n x = (some (true, .pointer (some ⟨g, i, none⟩)), true)) (hi : i + o = i')
   (r : QRun P n w0 L ops ((d, true, .pointer (some ⟨g, i', none⟩)) :: K) rest K' os') : QRun P n w0 L ops K (⟨some d, .fieldAddr t (.tmp x) f, ty, pos, aft, none⟩ :: rest) K' os' :=
 QRun.yy (Zp (FieldT.mk hu (congrArg Prod.fst hf) hz (congrArg Prod.snd hf)) (Ev.t (lk1 h)) (i' := i') hi) (lk2 h) r
theorem QRun.lt {ik : IntKind} {p q : Int} (hp : p < q) (h : lk K d n x = (some (true, .int ik p), true)) (h' : look K y = some (true, .int ik q)) (r : QRun P n w0 L ops ((d, true, .bool true) :: K) rest K' os') : QRun P n w0 L ops K (⟨some d, .binOp .lss t (.tmp x) (.tmp y) t', ty, pos, aft, none⟩ :: rest) K' os' :=
 QRun.yy (Ym hp (Zy (Ev.t (lk1 h)) (Ev.t h'))) (lk2 h) r
theorem QRun.ge {ik : IntKind} {p q : Int} (hp : ¬ p < q) (h : lk K d n x = (some (true, .int ik p), true)) (h' : look K y = some (true, .int ik q)) (r : QRun P n w0 L ops ((d, true, .bool false) :: K) rest K' os') : QRun P n w0 L ops K (⟨some d, .binOp .lss t (.tmp x) (.tmp y) t', ty, pos, aft, none⟩ :: rest) K' os' :=
 QRun.yy (Yf hp (Zy (Ev.t (lk1 h)) (Ev.t h'))) (lk2 h) r
theorem QRun.ad {p q : Int} (hp : I64 (p + q)) (h : lk K d n x = (some (true, .int .i64 p), true)) (r : QRun P n w0 L ops ((d, true, .int .i64 (p + q)) :: K) rest K' os') : QRun P n w0 L ops K (⟨some d, .binOp .add t (.tmp x) (.const (.int .i64 q)) t', ty, pos, aft, none⟩ :: rest) K' os' :=
 QRun.yy (ys_addI (Ev.t (lk1 h)) Ev.c fun _ => hp) (lk2 h) r
theorem QRun.ix {sz o len cap j : Nat} {ik : IntKind} (h1 : SliceT P t e) (h2 : Size P e sz) (hj : j < len) (h : lk K d n x = (some (true, .slice (some ⟨g, o, none⟩) len cap), true)) (h' : look K y = some (true, .int ik (j : Int)))
   (r : QRun P n w0 L ops ((d, true, .pointer (some ⟨g, o + j * sz, none⟩)) :: K) rest K' os') : QRun P n w0 L ops K (⟨some d, .indexAddr t (.tmp x) (.tmp y), ty, pos, aft, none⟩ :: rest) K' os' :=
 QRun.yy (Yi h1 h2 (Ev.t (lk1 h)) (Ev.t h') fun _ => hj) (lk2 h) r
theorem QRun.ln {A : Option Addr} {m c : Nat} (h1 : SliceT P t e) (h : lk K d n x = (some (true, .slice A m c), true)) (r : QRun P n w0 L ops ((d, true, .int .i64 (m : Int)) :: K) rest K' os') : QRun P n w0 L ops K (⟨some d, .call ⟨.builtin .len, #[.tmp x], #[t]⟩, ty, pos, aft, none⟩ :: rest) K' os' :=
 QRun.yy (ys_lenS h1 (Ev.t (lk1 h))) (lk2 h) r
theorem QRun.ex {i : Nat} {vs : List Value} (h : lk K d n x = (some (true, .tuple vs.toArray), true)) (hv : vs[i]? = some v) (r : QRun P n w0 L ops ((d, true, v) :: K) rest K' os') : QRun P n w0 L ops K (⟨some d, .extract (.tmp x) i, ty, pos, aft, none⟩ :: rest) K' os' :=
 QRun.yy (ys_ext (Ev.t (lk1 h)) hv) (lk2 h) r
theorem QRun.nt {p : Bool} (h : lk K d n x = (some (true, .bool p), true)) (r : QRun P n w0 L ops ((d, true, .bool (!p)) :: K) rest K' os') : QRun P n w0 L ops K (⟨some d, .unOp .not t (.tmp x), ty, pos, aft, none⟩ :: rest) K' os' :=
 QRun.yy (ys_not (Ev.t (lk1 h))) (lk2 h) r
end
end Go.Fw
namespace Go.Proofs.Ytbijdmfilmecbaa
theorem gt3 : Go.Fw.One Go.Proofs.Try.prog 3 := ⟨Go.Proofs.Try.isAgg3, Go.Proofs.Try.sizeOf3⟩
theorem gt9 : Go.Fw.One Go.Proofs.Try.prog 9 := ⟨Go.Proofs.Try.isAgg9, Go.Proofs.Try.sizeOf9⟩
theorem gt22 : Go.Fw.One Go.Proofs.Try.prog 22 := ⟨Go.Proofs.Try.isAgg22, Go.Proofs.Try.sizeOf22⟩
theorem gt23 : Go.Fw.One Go.Proofs.Try.prog 23 := ⟨Go.Proofs.Try.isAgg23, Go.Proofs.Try.sizeOf23⟩
theorem gt24 : Go.Fw.One Go.Proofs.Try.prog 24 := ⟨Go.Proofs.Try.isAgg24, Go.Proofs.Try.sizeOf24⟩
theorem gt28 : Go.Fw.Many Go.Proofs.Try.prog 28 3 := ⟨Go.Proofs.Try.isAgg28, Go.Proofs.Try.sizeOf28⟩
theorem gt55 : Go.Fw.One Go.Proofs.Try.prog 55 := ⟨Go.Proofs.Try.isAgg55, Go.Proofs.Try.sizeOf55⟩
theorem gt61 : Go.Fw.One Go.Proofs.Try.prog 61 := ⟨Go.Proofs.Try.isAgg61, Go.Proofs.Try.sizeOf61⟩
theorem gt71 : Go.Fw.Many Go.Proofs.Try.prog 71 2 := ⟨Go.Proofs.Try.isAgg71, Go.Proofs.Try.sizeOf71⟩
theorem gt75 : Go.Fw.Many Go.Proofs.Try.prog 75 2 := ⟨Go.Proofs.Try.isAgg75, Go.Proofs.Try.sizeOf75⟩
theorem gt111 : Go.Fw.Many Go.Proofs.Try.prog 111 17 := ⟨Go.Proofs.Try.isAgg111, Go.Proofs.Try.sizeOf111⟩
theorem gt130 : Go.Fw.Many Go.Proofs.Try.prog 130 19 := ⟨Go.Proofs.Try.isAgg130, Go.Proofs.Try.sizeOf130⟩
theorem gt132 : Go.Fw.One Go.Proofs.Try.prog 132 := ⟨Go.Proofs.Try.isAgg132, Go.Proofs.Try.sizeOf132⟩
theorem gt148 : Go.Fw.Many Go.Proofs.Try.prog 148 8 := ⟨Go.Proofs.Try.isAgg148, Go.Proofs.Try.sizeOf148⟩
end Go.Proofs.Ytbijdmfilmecbaa
namespace Go.Proofs.Ytbijdmfilmecbaa
open Go.Fw Go.Proofs Go.RowKit Go.ChangeShapes Go.WideShapes Go.ChangeAt Go.Deep Go.Joins Go.Proofs.Try
section
variable {H : Type} {enc : TypeId × Value → H} {P : Program} {w : World}
theorem read_str {t : TypeId} {v : Value} {n : Nat} {x : DataW H × List MemPlace} (ht : P.underlying t = some .string) (h : DataW.trod enc P w 0 (fun _ => true) true n t [v] = some x) : ∃ s : List UInt8, v = .string (bs s) ∧ s.length + 1 ≤ Rows.uptoBulk x.1 := by
 obtain ⟨s, e, hx, _⟩ := DataW.trod_string ht h
 simp only [List.cons.injEq, and_true] at e
 refine ⟨s.data.toList, by rw [e, ← bs_of], ?_⟩
 rw [hx]
 simp [Rows.uptoBulk]
def encI (x : Int) : List Value := [.int .i64 x]
end
end Go.Proofs.Ytbijdmfilmecbaa
namespace Go.Proofs.Ytbijdmfilmecbaa
open Go.Fw Go.Proofs Go.RowKit Go.ChangeShapes Go.WideShapes Go.ChangeAt Go.Deep Go.Joins Go.Proofs.Try
section
variable {H : Type} {enc : TypeId × Value → H} {P : Program} {w : World}
def Rdr (enc : TypeId × Value → H) (P : Program) (w : World) (t : TypeId) (R : List Value → Nat → Prop) : Prop :=
 ∀ fuel cs x, DataW.trod enc P w 0 (fun _ => true) true fuel t cs = some x → R cs (Rows.uptoBulk x.1)
theorem Rdr.int {t : TypeId} {k : IntKind} (ht : P.underlying t = some (.int k)) : Rdr enc P w t fun cs _ => ∃ n, cs = [.int k n] ∧ (Lit.int k n).wf = true := fun fuel cs x h => by
 obtain ⟨n, e, hw⟩ := DataW.trod_int ht h
 exact ⟨n, e, hw.2⟩
theorem Rdr.str {t : TypeId} (ht : P.underlying t = some .string) : Rdr enc P w t fun cs b => ∃ s : List UInt8, cs = [.string (bs s)] ∧ s.length + 1 ≤ b := fun fuel cs x h => by
 obtain ⟨s, hc, hx⟩ := DataW.trod_string ht h
 obtain ⟨s', e, hb⟩ := read_str (v := .string s) ht (by rw [hc] at h; exact h)
 exact ⟨s', by rw [hc, e], hb⟩
theorem Rdr.mono {t : TypeId} {R R' : List Value → Nat → Prop} (h : Rdr enc P w t R) (hR : ∀ cs b, R cs b → R' cs b) : Rdr enc P w t R' := fun fuel cs x hx => hR _ _ (h fuel cs x hx)
def AllR : List (List Value → Nat → Prop) → List Value → Nat → Prop
 | [], cs, _ => cs = []
 | R :: Rs, cs, b => ∃ c cs', cs = c ++ cs' ∧ (∃ b', b' ≤ b ∧ R c b') ∧ AllR Rs cs' b
inductive RdrL (enc : TypeId × Value → H) (P : Program) (w : World) : List Field → List (List Value → Nat → Prop) → Prop
 | nil : RdrL enc P w [] []
 | cons {f : Field} {fs : List Field} {R : List Value → Nat → Prop} {Rs : List (List Value → Nat → Prop)} : Rdr enc P w f.type R → RdrL enc P w fs Rs → RdrL enc P w (f :: fs) (R :: Rs)
def offs (P : Program) : List Field → Nat → Nat → Bool
 | [], o, n => Nat.beq o n
 | f :: r, o, n => Nat.beq f.offset o && offs P r (o + P.cellsOf f.type) n
theorem all_fields {n b : Nat} {fuel : Nat} {cs : List Value} (hl : cs.length = n) : ∀ {l : List Field} {Rs : List (List Value → Nat → Prop)} {o : Nat}, RdrL enc P w l Rs → offs P l o n = true →
   (∀ f ∈ l, ∃ x, DataW.trod enc P w 0 (fun _ => true) true fuel f.type ((cs.drop f.offset).take (P.cellsOf f.type)) = some x ∧ Rows.uptoBulk x.1 ≤ b) → AllR Rs (cs.drop o) b
 | _, _, o, .nil, ho, _ => by
   have : o = n := by simpa [offs] using ho
   unfold AllR
   rw [List.drop_of_length_le (by omega)]
 | _, _, o, .cons (f := f) hr hrs, ho, hx => by
   simp only [offs, Bool.and_eq_true] at ho
   have h0 : f.offset = o := by simpa using ho.1
   obtain ⟨x, hx1, hx2⟩ := hx f (by simp)
   rw [h0] at hx1
   unfold AllR
   refine ⟨(cs.drop o).take (P.cellsOf f.type), cs.drop (o + P.cellsOf f.type), ?_, ⟨_, hx2, hr _ _ _ hx1⟩, all_fields hl hrs ho.2 fun g hg => hx g (by simp [hg])⟩
   rw [← List.drop_drop, List.take_append_drop]
theorem bulk_agg {l : List (DataW H)} {d : DataW H} (h : d ∈ l) : Rows.uptoBulk d ≤ Rows.uptoBulk (.agg l) := by
 refine Nat.le_trans (bulk_part h) ?_
 simp only [Rows.uptoBulk]
 omega
theorem Rdr.struct {t : TypeId} {fs : Array Field} {Rs : List (List Value → Nat → Prop)} (ht : P.underlying t = some (.struct fs)) (ho : offs P fs.toList 0 (P.cellsOf t) = true) (hr : RdrL enc P w fs.toList Rs) : Rdr enc P w t (AllR Rs) := fun fuel cs x h => by
 obtain ⟨xs, n, _, rfl, hl, hlen, hf⟩ := DataW.trod_struct ht h
 have := all_fields (b := Rows.uptoBulk (.agg (xs.map (·.1)))) (fuel := n) hl hr ho fun f hm => by
   obtain ⟨i, hi, e⟩ := List.getElem_of_mem hm
   have hi' : i < fs.size := by simpa using hi
   have h1 := hf i f (by rw [Array.getElem?_eq_getElem hi', ← e]; simp)
   obtain ⟨y, hy⟩ : ∃ y, xs[i]? = some y := ⟨_, List.getElem?_eq_getElem (by omega)⟩
   exact ⟨y, h1.trans hy, bulk_agg (List.mem_map.2 ⟨y, List.mem_of_getElem? hy, rfl⟩)⟩
 rwa [List.drop_zero] at this
theorem Rdr.slice {α : Type} {enc1 : α → List Value} {T : α → Nat → Prop} {t e : TypeId} {k : Nat} (ht : P.underlying t = some (.slice e)) (hC : P.cellsOf e = k) (hk : Nat.blt 0 k = true) (he : ∀ x, (enc1 x).length = k) (hr : Rdr enc P w e fun cs b => ∃ x, cs = enc1 x ∧ T x b) :
   Rdr enc P w t fun cs b => ∃ v l, cs = [v] ∧ Sl enc1 k w w.heap.size v l ∧ l.length + 1 ≤ b ∧ ∀ x ∈ l, ∃ b', b' ≤ b ∧ T x b' := fun fuel cs x h => by
 have hk' : 0 < k := by simpa [Nat.blt_eq] using hk
 rcases open_slice ht h with ⟨rfl, rfl⟩ | ⟨a, len, cap, m, n, D, Pl, rfl, hb, hl, hm, hmm, rfl, hi⟩
 · exact ⟨_, [], rfl, Sl.nil_, bulk_one _, fun x hx => by simp at hx⟩
 · have hlm : len ≤ m := by rw [hmm]; split <;> omega
   have key : ∀ i, i < len → ∃ x : α, (∀ j u, (enc1 x)[j]? = some u → w.cell? (a.add (i * k + j)) = some u) ∧ ∃ b', b' ≤ Rows.uptoBulk (D i) ∧ T x b' := fun i hil => by
     obtain ⟨cs', hc, ht'⟩ := hi i (by omega)
     obtain ⟨x, rfl, hT⟩ := hr _ _ _ ht'
     rw [hC] at hc
     obtain ⟨_, hcl, hat⟩ := World.cells?_some hc
     refine ⟨x, fun j u hj => ?_, _, Nat.le_refl _, hT⟩
     have hjl : j < k := by rw [← he x]; exact (List.getElem?_eq_some_iff.1 hj).1
     have h1 := hat j hjl
     rw [Go.Deep.add_add, hj] at h1
     exact h1
   obtain ⟨l, rfl, hl2⟩ := list_of key
   refine ⟨_, l, rfl, ⟨some a, cap, rfl, hl, by simpa [maxLen] using hm, fun hp => ?_⟩, ?_, fun x hx => ?_⟩
   · obtain ⟨b, off, spot⟩ := a
     have h0 : 0 < (enc1 (l[0]'(by omega))).length := by rw [he]; exact hk'
     have hc := (hl2 0 (l[0]'(by omega)) (by simp [hp])).1 0 ((enc1 (l[0]'(by omega)))[0]'h0) (List.getElem?_eq_getElem h0)
     have hspot : spot = none := by simpa [Addr.add] using World.cell?_spot hc
     subst hspot
     refine ⟨b, off, rfl, by simpa [Addr.add] using World.block_lt_of_cell? w _ hc, fun k x hx j u hu => ?_⟩
     have := (hl2 k x hx).1 j u hu
     rw [Addr.add_mid, ← Nat.add_assoc] at this
     exact this
   · have := bulk_slice ((List.range l.length).map D) ((List.range (m - l.length)).map fun j => D (l.length + j))
     simpa using this
   · obtain ⟨i, hil, e⟩ := List.getElem_of_mem hx
     obtain ⟨_, b', h1, h2⟩ := hl2 i x (by rw [List.getElem?_eq_getElem hil, e])
     refine ⟨b', Nat.le_trans h1 ?_, h2⟩
     have h3 : D i ∈ (List.range l.length).map D := List.mem_map.2 ⟨i, List.mem_range.2 hil, rfl⟩
     have := bulk_part h3
     simp only [Rows.uptoBulk]
     omega
theorem Rdr.top {t : TypeId} {v : Value} {d : DataW H} {p : List MemPlace} {R : List Value → Nat → Prop} (hr : Rdr enc P w t R) (h : DataW.Trod enc P w 0 (fun _ => true) true t v d p) : R v.cells.toList (Rows.uptoBulk d) := by
 obtain ⟨n, hn⟩ := h
 exact hr _ _ _ hn
end
end Go.Proofs.Ytbijdmfilmecbaa
namespace Go.Fw
open Go.RowKit
theorem flat_len {α : Type} {enc : α → List Value} {size : Nat} (he : ∀ x, (enc x).length = size) (l : List α) : (l.flatMap enc).length = l.length * size := by
 induction l with
 | nil => simp
 | cons x r ih => simp [he, ih, Nat.add_mul, Nat.add_comm]
theorem flat_get {α : Type} {enc : α → List Value} {size : Nat} (he : ∀ x, (enc x).length = size) (hs : 0 < size) : ∀ (l : List α) (j : Nat) (x : α), l[j / size]? = some x → (l.flatMap enc)[j]? = (enc x)[j % size]?
 | [], j, x, h => by simp at h
 | y :: r, j, x, h => by
   rw [List.flatMap_cons, List.getElem?_append, he]
   split
   · rename_i hlt
     rw [Nat.div_eq_of_lt hlt] at h
     simp at h
     subst h
     rw [Nat.mod_eq_of_lt hlt]
   · rename_i hge
     have hge' : size ≤ j := by omega
     rw [show j / size = (j - size) / size + 1 from Nat.div_eq_sub_div hs hge'] at h
     rw [Nat.mod_eq_sub_mod hge']
     exact flat_get he hs r (j - size) x (by simpa using h)
theorem flat_drop {α : Type} {enc : α → List Value} {size : Nat} (he : ∀ x, (enc x).length = size) : ∀ (l : List α) (m : Nat), (l.flatMap enc).drop (m * size) = (l.drop m).flatMap enc
 | [], m => by simp
 | x :: r, 0 => by simp
 | x :: r, m + 1 => by
   have h1 : (m + 1) * size = (enc x).length + m * size := by rw [he, Nat.add_mul]; omega
   rw [List.flatMap_cons, h1, List.drop_append, List.drop_succ_cons]
   rw [List.drop_eq_nil_of_le (by omega), show (enc x).length + m * size - (enc x).length = m * size by omega, flat_drop he r m]
   simp
section
variable {w0 w w' : World} {L : List Chunk}
theorem Wd.open_row (W : Wd w0 L w) {k e size n cap : Nat} {A : Option Addr} {xs : List Value} (hk : L[k]? = some (.row e size A n cap xs)) (hc : cap ≠ 0) :
   ∃ (g : Nat) (cs : List Value), A = some ⟨g, 0, none⟩ ∧ cs.length = cap * size ∧ n ≤ cap ∧ cap ≤ maxLen ∧ cs.take (n * size) = xs ∧ Wd w0 (L.set k (.blk g (.cells cs.toArray e))) w := by
 have h := W.get hk
 rcases h.2 with ⟨_, h0⟩ | ⟨g, cur, rfl, hp, hB, hg, hn, hm, hcs, ht⟩
 · exact absurd h0 hc
 · exact ⟨g, cur.toList, rfl, by simpa using hcs, hn, hm, ht, W.retell hk ⟨hB, by simpa using hg⟩ fun b hb => ⟨hc, by simp only [Chunk.own] at hb; simp [hb]⟩⟩
theorem Wd.close_row (W : Wd w0 L w) {k e size g : Nat} {cs : List Value} (hk : L[k]? = some (.blk g (.cells cs.toArray e))) (n cap : Nat) (xs : List Value) (hc : cap ≠ 0) (hl : cs.length = cap * size) (hn : n ≤ cap) (hm : cap ≤ maxLen) (ht : cs.take (n * size) = xs) :
   Wd w0 (L.set k (.row e size (some ⟨g, 0, none⟩) n cap xs)) w := by
 have h := W.get hk
 refine W.retell hk ⟨?_, .inr ⟨g, _, rfl, Nat.pos_of_ne_zero hc, h.1, h.2, hn, hm, by simpa using hl, by simpa using ht⟩⟩ fun b hb => ?_
 · subst ht
   have := Nat.mul_le_mul_right size hn
   simp; omega
 · obtain ⟨_, hb⟩ := hb
   simpa [Chunk.own, eq_comm] using hb
end
end Go.Fw
namespace Go.Fw
open Go.RowKit
section ops
variable {P : Program} {n : Nat} {w0 : World} {K : KL} {L : List Chunk} {b : Bool} {dst : Option Tmp} {ty : TypeId} {pos : String} {aft : Array Edge} {gd : Option (Nat × Bool)}
end ops
section
variable {P : Program} {n : Nat} {w0 : World} {K : KL} {L : List Chunk} {ty : TypeId} {pos : String} {aft : Array Edge} {gd : Option (Nat × Bool)} {a : Act} {w : World} {Z : Act → World → Prop} {Q : Exit → Act → World → Prop} {d : Nat}
end
section ops
variable {P : Program} {n : Nat} {w0 : World} {K : KL} {L : List Chunk} {b : Bool} {dst : Option Tmp} {ty : TypeId} {pos : String} {aft : Array Edge} {gd : Option (Nat × Bool)}
end ops
theorem Wd.room {w0 w : World} {L : List Chunk} (W : Wd w0 L w) {k e size n cap : Nat} {A : Option Addr} {xs : List Value} (hk : L[k]? = some (.row e size A n cap xs)) : n ≤ cap ∧ cap ≤ 9223372036854775807 := by
 rcases (W.get hk).2 with ⟨h1, h2⟩ | ⟨g, cur, _, hp, _, _, h1, h2, _⟩
 · omega
 · exact ⟨h1, by simpa [maxLen] using h2⟩
theorem Wd.row_at {w0 w : World} {L : List Chunk} (W : Wd w0 L w) {k e size n cap : Nat} {A : Option Addr} {xs : List Value} (hk : L[k]? = some (.row e size A n cap xs)) (hc : cap ≠ 0) : ∃ g, A = some ⟨g, 0, none⟩ := by
 obtain ⟨g, cs, h, _⟩ := W.open_row hk hc
 exact ⟨g, h⟩
end Go.Fw
namespace Go.Fw
open Go.RowKit
theorem wrap_u64 {x : Int} (h0 : 0 ≤ x) (h1 : x ≤ 18446744073709551615) : IntKind.u64.wrap x = x := by
 simp only [IntKind.wrap, IntKind.bits, IntKind.signed]
 simp
 omega
section ops
variable {P : Program} {n : Nat} {w0 : World} {K : KL} {L : List Chunk} {b : Bool} {dst : Option Tmp} {ty : TypeId} {pos : String} {aft : Array Edge} {gd : Option (Nat × Bool)}
end ops
section
variable {n : Nat} {w0 : World} {K : KL} {L : List Chunk} {a : Act} {w : World} {c : Chunk}
theorem perm_pull {α : Type} : ∀ {L : List α} {k : Nat} {c : α}, L[k]? = some c → L.Perm (c :: L.eraseIdx k)
 | [], k, c, h => by simp at h
 | x :: r, 0, c, h => by simp at h; subst h; exact List.Perm.refl _
 | x :: r, k + 1, c, h => by
   have := perm_pull (L := r) (k := k) (by simpa using h)
   exact (this.cons x).trans (List.Perm.swap _ _ _)
theorem Wd.pull (W : Wd w0 L w) (k : Nat) (hk : L[k]? = some c) : Wd w0 (c :: L.eraseIdx k) w := W.perm (perm_pull hk)
theorem St.pull (S : St n w0 K L a w) (k : Nat) (hk : L[k]? = some c) : St n w0 K (c :: L.eraseIdx k) a w := ⟨S.kn, S.wd.pull k hk⟩
end
theorem flat_one {α : Type} {enc : α → List Value} (h : ∀ x, ∀ u ∈ enc x, u.oneCell' = true) (l : List α) : ∀ u ∈ l.flatMap enc, u.oneCell' = true := fun u hu => by
 obtain ⟨x, _, hx⟩ := List.mem_flatMap.1 hu
 exact h x u hx
theorem Wd.cell {w0 w : World} {L : List Chunk} (W : Wd w0 L w) {k g i : Nat} {cs : List Value} {e : TypeId} {fr : Nat × Nat} {v : Value} (hk : L[k]? = some (.blk g (.cells cs.toArray e fr))) (hc : nth cs i = some v) : w.cell? ⟨g, i, none⟩ = some v := by
 rw [cell_of_row w g i _ e fr (W.get hk).2]
 rw [nth_eq] at hc
 simpa using hc
theorem encB_one (x : UInt8) : ∀ u ∈ encB x, u.oneCell' = true := fun u hu => by simp [encB] at hu; subst hu; rfl
section split
variable {P : Program} {Q : Exit → Act → World → Prop} {n : Nat} {w0 : World} {K : KL} {L Lr : List Chunk} {a : Act} {w : World} {ops : Array Oper} {fuel : Nat} {listed : Array Bool} {md : Region.Mode}
theorem h_split {i j : Nat} {di dj : Option Tmp} {opi opj : Op} {tyi tyj : TypeId} {posi posj : String} {ai aj : Array Edge} (hr : Region.ready md ops listed = [i, j]) (hi : ops[i]? = some ⟨di, opi, tyi, posi, ai, none⟩) (hj : ops[j]? = some ⟨dj, opj, tyj, posj, aj, none⟩)
   (h1 : Oper.wp P ⟨di, opi, tyi, posi, ai, none⟩ a w (fun a' w' => Wd w0 Lr w' ∧ wpAnyH P md ops Q (Wd w0 Lr) fuel (listed.setIfInBounds i true) a' w') Q)
   (h2 : Oper.wp P ⟨dj, opj, tyj, posj, aj, none⟩ a w (fun a' w' => Wd w0 Lr w' ∧ wpAnyH P md ops Q (Wd w0 Lr) fuel (listed.setIfInBounds j true) a' w') Q) : wpAnyH P md ops Q (Wd w0 Lr) (fuel + 1) listed a w :=
 wpAnyH_all hr (by simp) fun k hk => by
   simp only [List.mem_cons, List.not_mem_nil, or_false] at hk
   rcases hk with rfl | rfl
   · unfold wpOp
     simp only [hi, Region.wanted, if_true]
     exact .inl h1
   · unfold wpOp
     simp only [hj, Region.wanted, if_true]
     exact .inl h2
theorem op_y {op : Op} {ty : TypeId} {pos : String} {aft : Array Edge} {gd : Option (Nat × Bool)} {d : Nat} {v : Value} {Z : Act → World → Prop} (S : St n w0 K L a w) (hy : Ys P ⟨some d, op, ty, pos, aft, gd⟩ n K w0 L true v) (hd : Nat.blt d n = true)
   (next : ∀ a w, St n w0 ((d, true, v) :: K) L a w → Z a w) : Oper.wp P ⟨some d, op, ty, pos, aft, gd⟩ a w Z Q := hy.wp S fun w' hw => next _ _ ⟨S.kn.put hd v, hw⟩
end split
def zrep (len : Nat) (z : Value) : List Value := (List.replicate len ()).flatMap fun _ => z.cells.toList
theorem zrep_eq {z : Value} {sz : Nat} (len : Nat) (hz : z.cells.size = sz) : (Array.range (len * sz)).map (fun i => (if len * sz = 0 then #[] else z.cells)[i % (if len * sz = 0 then (#[] : Array Value) else z.cells).size]!) = (zrep len z).toArray := by
 have hl : (zrep len z).length = len * sz := by
   unfold zrep
   rw [flat_len (size := sz) (fun _ => by simpa using hz)]; simp
 apply Array.ext
 · simp [hl]
 · intro i h1 h2
   have hi : i < len * sz := by simpa using h1
   have hs : 0 < sz := by rcases Nat.eq_zero_or_pos sz with h | h; rw [h] at hi; simp at hi; exact h
   have hx : (List.replicate len ())[i / sz]? = some () := by
     rw [List.getElem?_replicate, if_pos ((Nat.div_lt_iff_lt_mul hs).2 hi)]
   have h3 := flat_get (enc := fun (_ : Unit) => z.cells.toList) (size := sz) (fun _ => by simpa using hz) hs (List.replicate len ()) i () hx
   have h4 : i % sz < z.cells.size := by rw [hz]; exact Nat.mod_lt _ hs
   rw [Array.getElem_map, Array.getElem_range, if_neg (by omega), hz, getElem!_pos z.cells _ h4]
   have h5 : (zrep len z)[i]? = some z.cells[i % sz] := by
     unfold zrep
     rw [h3, Array.getElem?_toList, Array.getElem?_eq_getElem h4]
   rw [List.getElem_toArray]
   exact (Option.some.inj ((List.getElem?_eq_getElem (by rw [hl]; exact hi)).symm.trans h5)).symm
section
variable {P : Program} {n : Nat} {w0 : World} {K : KL} {L : List Chunk} {ty : TypeId} {pos : String} {aft : Array Edge} {gd : Option (Nat × Bool)} {a : Act} {w : World} {Z : Act → World → Prop} {Q : Exit → Act → World → Prop} {d : Nat}
theorem op_bsliceZ {t e sz len : Nat} {z : Value} {ps : List (Nat × Operand)} {vs us : List Value} (S : St n w0 K L a w) (ht : P.underlying t = some (.slice e)) (hsz : ∀ w, (sizeOf e).run P w = .ok sz w) (hz : ∀ w, (zeroValue e).run P w = .ok z w)
   (hzc : z.cells.size = sz) (hmax : Nat.ble (len * sz) 16777216 = true) (hx : EvL n true K (ps.map (·.2)) vs) (hr : fillL (fun i => some (i * sz, sz)) (zrep len z) ((ps.map (·.1)).zip vs) = some us) (hd : Nat.blt d n = true)
   (next : ∀ g a w, St n w0 ((d, true, .slice (some ⟨g, 0, none⟩) len len) :: K) (.blk g (.cells us.toArray e) :: L) a w → Z a w) :
   Oper.wp P ⟨some d, .buildSlice t len ps.toArray, ty, pos, aft, gd⟩ a w Z Q := op_bslice (zrep len z) S ht hsz hz (zrep_eq len hzc) hmax hx hr hd next
end
end Go.Fw
namespace Go.Fw
open Go.Proofs Go.RowKit
section
variable {P : Program} {n : Nat} {w0 : World} {K : KL} {L : List Chunk} {ty : TypeId} {pos : String} {aft : Array Edge} {gd : Option (Nat × Bool)} {dst : Option Tmp} {b : Bool}
theorem ys_mkFunc {f : Fn} {cs : List Operand} {vs : List Value} (hx : EvL n b K cs vs) : Yr P ⟨dst, .makeFunc f #[] cs.toArray, ty, pos, aft, gd⟩ n K w0 L b (.func f #[] vs.toArray) := fun a w hb hk _ => by
 have e : (cs.toArray.map a.eval) = vs.toArray := by rw [List.map_toArray, hx a hb hk]
 simp only [execOp, e]
 simp [Instr.makeFunc]
end
section
variable {P : Program} {n : Nat} {w0 : World} {K : KL} {L : List Chunk} {ty : TypeId} {pos : String} {aft : Array Edge} {gd : Option (Nat × Bool)} {a : Act} {w : World} {Z : Act → World → Prop} {Q : Exit → Act → World → Prop} {d : Nat}
end
end Go.Fw
namespace Go.Fw
open Go.Proofs Go.RowKit
section
variable {P : Program} {n : Nat} {w0 : World} {K : KL} {L : List Chunk} {ty : TypeId} {pos : String} {aft : Array Edge} {gd : Option (Nat × Bool)} {a : Act} {w : World} {Z : Act → World → Prop} {Q : Exit → Act → World → Prop} {d : Nat} {dst : Option Tmp} {b : Bool}
theorem Zz {x : Operand} {A : Addr} (hx : Ev n b K x (.pointer (some A))) : Yr P ⟨dst, .nilCheck x, ty, pos, aft, gd⟩ n K w0 L b (.pointer (some A)) := fun a w hb hk _ => by
 simp [execOp, hx a hb hk]
theorem ys_pNot {t t' e : TypeId} {x y : Operand} {A : Option Addr} (ht : P.underlying t = some (.pointer e)) (hx : Ev n b K x (.pointer A)) (hy : Ev n b K y (.pointer none)) : Yr P ⟨dst, .binOp .neq t x y t', ty, pos, aft, gd⟩ n K w0 L b (.bool (!A.isNone)) := fun a w hb hkn _ => by
 have h := run_neq_pointer_nil (P := P) w t A (by unfold Program.pointee; rw [ht])
 simp only [execOp, hx a hb hkn, hy a hb hkn]
 simp [eqGuard, h]
end
end Go.Fw
set_option maxRecDepth 100000
namespace Go.Fw
open Go.Proofs Go.RowKit
inductive Picks : List Chunk → List Chunk → Prop
 | nil {L : List Chunk} : Picks L []
 | rest {L L' : List Chunk} : L'.Sublist L → Picks L L'
 | take {L L' : List Chunk} {c : Chunk} (k : Nat) : L[k]? = some c → Picks (L.eraseIdx k) L' → Picks L (c :: L')
theorem Picks.perm {L L' : List Chunk} (h : Picks L L') : ∃ R, L.Perm (L' ++ R) := by
 induction h with
 | @nil L => exact ⟨L, List.Perm.refl _⟩
 | @rest L L' h => exact h.exists_perm_append
 | @take L L' c k hk _ ih =>
   obtain ⟨R, hR⟩ := ih
   exact ⟨R, (perm_pull hk).trans (hR.cons c)⟩
theorem Wd.picks {w0 w : World} {L L' : List Chunk} (W : Wd w0 L w) (h : Picks L L') : Wd w0 L' w := by
 obtain ⟨R, hR⟩ := h.perm
 exact (W.perm hR).sub (List.sublist_append_left _ _)
theorem St.picks {n : Nat} {w0 : World} {K K' : KL} {L L' : List Chunk} {a : Act} {w : World} (S : St n w0 K L a w) (hK : Fits [] K K') (h : Picks L L') : St n w0 K' L' a w := ⟨S.kn.fits hK, S.wd.picks h⟩
section split
variable {P : Program} {Q : Exit → Act → World → Prop} {n : Nat} {w0 : World} {K : KL} {L Lr : List Chunk} {a : Act} {w : World} {ops : Array Oper} {fuel : Nat} {listed : Array Bool} {md : Region.Mode}
end split
end Go.Fw
namespace Go.Fw
open Go.Proofs Go.RowKit
section
variable {P : Program} {n : Nat} {w0 : World} {K : KL} {L : List Chunk} {ty : TypeId} {pos : String} {aft : Array Edge} {gd : Option (Nat × Bool)} {a : Act} {w : World} {Z : Act → World → Prop} {Q : Exit → Act → World → Prop} {d : Nat} {dst : Option Tmp} {b : Bool}
theorem ys_pNotS {t t' e : TypeId} {x y : Operand} {A : Addr} (ht : P.underlying t = some (.pointer e)) (hx : Ev n b K x (.pointer (some A))) (hy : Ev n b K y (.pointer none)) : Yr P ⟨dst, .binOp .neq t x y t', ty, pos, aft, gd⟩ n K w0 L b (.bool true) := ys_pNot ht hx hy
theorem Wd.cellOld (W : Wd w0 L w) {g i : Nat} {v : Value} (h : w0.cell? ⟨g, i, none⟩ = some v) : w.cell? ⟨g, i, none⟩ = some v := (W.below.toBelow.cell (World.block_lt_of_cell? w0 _ h)).trans h
variable {K' : Act → World → Prop} {i : Nat} {ps : List PanicEntry}
end
section
variable {P : Program} {f : FuncId} {fn : Func} {c : Code} {R : Ending → World → Prop} {w0 w : World} {L : List Chunk} {v0 v1 v2 v3 v4 v5 v6 v7 v8 : Value}
end
def dropK (ms : List Nat) : KL → KL
 | [] => []
 | (i, v) :: r => bif ms.elem i then dropK ms r else (i, v) :: dropK ms r
theorem st_loopM {P : Program} {Q : Exit → Act → World → Prop} {n : Nat} {w0 : World} {K : KL} {L : List Chunk} {a : Act} {w : World} {c : Code} {X : Type} (S : St n w0 K L a w) (ms : List Nat) (KX : X → KL) (LX : X → List Chunk) (φ : X → Prop) (μ : X → Nat) (x0 : X) (h0 : φ x0)
   (hK : Fits [] K (KX x0 ++ dropK ms K)) (hL : Picks L (LX x0))
   (round : ∀ x a w, φ x → St n w0 (KX x ++ dropK ms K) (LX x) a w → c.wp P (Exit.then (fun a' w' => ∃ x', φ x' ∧ μ x' < μ x ∧ St n w0 (KX x' ++ dropK ms K) (LX x') a' w') Q) a w) : (Code.loop c).wp P Q a w :=
 st_loop (fun x a w => φ x ∧ St n w0 (KX x ++ dropK ms K) (LX x) a w) μ x0 ⟨h0, S.picks hK hL⟩ fun x a w ⟨h1, h2⟩ =>
   wp_mono (round x a w h1 h2) fun e a w h => by
     cases e with
     | normal => obtain ⟨x', h3, h4, h5⟩ := h; exact ⟨x', ⟨h3, h5⟩, h4⟩
     | _ => exact h
theorem Sl.le {w : World} {α : Type} {enc : α → List Value} {size B : Nat} {A : Option Addr} {l : List α} {cap : Nat} (h : Sl enc size w B (.slice A l.length cap) l) : l.length ≤ cap ∧ cap ≤ 9223372036854775807 := by
 obtain ⟨A', cap', hv, h2, h3, h4⟩ := h
 simp only [Value.slice.injEq, true_and] at hv
 obtain ⟨rfl, rfl⟩ := hv
 exact ⟨h2, h3⟩
theorem u64_range (x : Int) : 0 ≤ IntKind.u64.wrap x ∧ IntKind.u64.wrap x ≤ 18446744073709551615 := by
 unfold IntKind.wrap
 simp [IntKind.signed, IntKind.bits]
 omega
theorem at_step {α : Type} {l l' : List α} {k : Nat} {m m' : α} (h : l.take k = l'.take k) (hm : l[k]? = some m) (hm' : l'[k]? = some m') (e : m = m') : l.take (k + 1) = l'.take (k + 1) := by
 rw [List.take_add_one, List.take_add_one, hm, hm', h, e]
theorem at_ne {α : Type} [DecidableEq α] {l l' : List α} {k : Nat} {m m' : α} (hm : l[k]? = some m) (hm' : l'[k]? = some m') (e : ¬ m = m') : decide (l = l') = false := by
 rw [decide_eq_false_iff_not]
 intro h
 subst h
 rw [hm] at hm'
 exact e (by simpa using hm')
theorem Sl.sub {w : World} {α : Type} {enc : α → List Value} {size B : Nat} {A : Option Addr} {l : List α} {cap : Nat} (h : Sl enc size w B (.slice A l.length cap) l) (lo hi : Nat) (hlo : lo ≤ hi) (hhi : hi ≤ l.length) :
   Sl enc size w B (.slice (if cap = lo then A else A.map (·.add (lo * size))) (hi - lo) (cap - lo)) ((l.drop lo).take (hi - lo)) := by
 obtain ⟨A', cap', hv, h2, h3, h4⟩ := h
 simp only [Value.slice.injEq, true_and] at hv
 obtain ⟨rfl, rfl⟩ := hv
 have hl : ((l.drop lo).take (hi - lo)).length = hi - lo := by simp; omega
 refine ⟨if cap = lo then A else A.map (·.add (lo * size)), cap - lo, by rw [hl], by rw [hl]; omega, by omega, fun hp => ?_⟩
 rw [hl] at hp
 obtain ⟨g, o, rfl, hg, hc⟩ := h4 (by omega)
 rw [if_neg (by omega)]
 refine ⟨g, o + lo * size, by simp [Addr.add_mid], hg, fun k x hx j u hu => ?_⟩
 rw [List.getElem?_take] at hx
 split at hx
 · rw [List.getElem?_drop] at hx
   have := hc _ x hx j u hu
   rw [Nat.add_mul] at this
   rw [show o + lo * size + k * size + j = o + (lo * size + k * size) + j by omega]
   exact this
 · cases hx
theorem Src.subS {P : Program} {w : World} {α : Type} {enc : α → List Value} {size B : Nat} {A : Option Addr} {l : List α} {cap lo hi c : Nat} (h : Sl enc size w B (.slice A l.length cap) l) (hsz : 0 < size) (he : ∀ x, (enc x).length = size) (h1 : ∀ x, ∀ u ∈ enc x, u.oneCell' = true) (hlo : lo ≤ hi) (hhi : hi ≤ l.length) :
   Src P w size (.slice (if cap = lo then A else A.map (·.add (lo * size))) (hi - lo) c) ((l.drop lo).take (hi - lo)).length (((l.drop lo).take (hi - lo)).flatMap enc) := by
 have hl : ((l.drop lo).take (hi - lo)).length = hi - lo := by simp; omega
 have h' : Sl enc size w B (.slice (if cap = lo then A else A.map (·.add (lo * size))) ((l.drop lo).take (hi - lo)).length (cap - lo)) ((l.drop lo).take (hi - lo)) := by rw [hl]; exact h.sub lo hi hlo hhi
 have := Src.sl (P := P) (c := c) h' hsz he h1
 rw [hl] at this
 rw [hl]
 exact this
theorem Src.sub {P : Program} {α : Type} {enc : α → List Value} {size e cap k lo hi c : Nat} {w w0 : World} {L : List Chunk} {A : Option Addr} {l : List α} (W : Wd w0 L w) (hk : L[k]? = some (rowOf e size enc A cap l)) (hsz : 0 < size) (he : ∀ x, (enc x).length = size) (h1 : ∀ x, ∀ u ∈ enc x, u.oneCell' = true) (hlo : lo ≤ hi) (hhi : hi ≤ l.length) :
   Src P w size (.slice (if cap = lo then A else A.map (·.add (lo * size))) (hi - lo) c) ((l.drop lo).take (hi - lo)).length (((l.drop lo).take (hi - lo)).flatMap enc) :=
 Src.subS (Sl.of_own W hk he) hsz he h1 hlo hhi
end Go.Fw
namespace Go.Fw
open Go.Proofs Go.RowKit
theorem St.pk {n : Nat} {w0 : World} {K K' : KL} {L L' : List Chunk} {a : Act} {w : World} (S : St n w0 K L a w) (hK : Fits [] K K' := by repeat (first | exact Fits.nil | refine Fits.skip rfl ?_ | refine Fits.cons rfl ?_)) (h : Picks L L' := by repeat (first | exact Picks.nil | (refine Picks.rest ?_; (repeat (first | exact List.Sublist.refl _ | refine List.Sublist.cons_cons _ ?_ | refine List.Sublist.cons _ ?_)); done) | refine Picks.take 0 rfl ?_ | refine Picks.take 1 rfl ?_ | refine Picks.take 2 rfl ?_ | refine Picks.take 3 rfl ?_ | refine Picks.take 4 rfl ?_ | refine Picks.take 5 rfl ?_ | refine Picks.take 6 rfl ?_ | refine Picks.take 7 rfl ?_ | refine Picks.take 8 rfl ?_ | refine Picks.take 9 rfl ?_ | refine Picks.take 10 rfl ?_ | refine Picks.take 11 rfl ?_)) : St n w0 K' L' a w := S.picks hK h
theorem St.wk {n : Nat} {w0 : World} {K K' : KL} {L L' : List Chunk} {a : Act} {w : World} (S : St n w0 K L a w) (hK : Fits [] K K' := by repeat (first | exact Fits.nil | refine Fits.skip rfl ?_ | refine Fits.cons rfl ?_)) (hL : L'.Sublist L := by repeat (first | exact List.Sublist.refl _ | exact List.nil_sublist _ | refine .cons_cons _ ?_ | refine .cons _ ?_)) : St n w0 K' L' a w := S.weak hK hL
theorem Wd.pk {w0 w : World} {L L' : List Chunk} (W : Wd w0 L w) (h : Picks L L' := by repeat (first | exact Picks.nil | (refine Picks.rest ?_; (repeat (first | exact List.Sublist.refl _ | refine List.Sublist.cons_cons _ ?_ | refine List.Sublist.cons _ ?_)); done) | refine Picks.take 0 rfl ?_ | refine Picks.take 1 rfl ?_ | refine Picks.take 2 rfl ?_ | refine Picks.take 3 rfl ?_ | refine Picks.take 4 rfl ?_ | refine Picks.take 5 rfl ?_ | refine Picks.take 6 rfl ?_ | refine Picks.take 7 rfl ?_ | refine Picks.take 8 rfl ?_ | refine Picks.take 9 rfl ?_ | refine Picks.take 10 rfl ?_ | refine Picks.take 11 rfl ?_)) : Wd w0 L' w := W.picks h
theorem Ye {P : Program} {Q : Exit → Act → World → Prop} {n : Nat} {w0 : World} {K : KL} {L : List Chunk} {a : Act} {w : World} {c : Code} {X : Type} (S : St n w0 K L a w) (ms : List Nat) (KX : X → KL) (LX : X → List Chunk) (φ : X → Prop) (μ : X → Nat) (x0 : X) (h0 : φ x0)
   (round : ∀ x a w, φ x → St n w0 (KX x ++ dropK ms K) (LX x) a w → c.wp P (Exit.then (fun a' w' => ∃ x', φ x' ∧ μ x' < μ x ∧ St n w0 (KX x' ++ dropK ms K) (LX x') a' w') Q) a w)
   (hK : Fits [] K (KX x0 ++ dropK ms K) := by repeat (first | exact Fits.nil | refine Fits.skip rfl ?_ | refine Fits.cons rfl ?_)) (hL : Picks L (LX x0) := by repeat (first | exact Picks.nil | (refine Picks.rest ?_; (repeat (first | exact List.Sublist.refl _ | refine List.Sublist.cons_cons _ ?_ | refine List.Sublist.cons _ ?_)); done) | refine Picks.take 0 rfl ?_ | refine Picks.take 1 rfl ?_ | refine Picks.take 2 rfl ?_ | refine Picks.take 3 rfl ?_ | refine Picks.take 4 rfl ?_ | refine Picks.take 5 rfl ?_ | refine Picks.take 6 rfl ?_ | refine Picks.take 7 rfl ?_ | refine Picks.take 8 rfl ?_ | refine Picks.take 9 rfl ?_ | refine Picks.take 10 rfl ?_ | refine Picks.take 11 rfl ?_)) : (Code.loop c).wp P Q a w := st_loopM S ms KX LX φ μ x0 h0 hK hL round
theorem st_lpK {P : Program} {Q : Exit → Act → World → Prop} {n : Nat} {w0 : World} {K : KL} {L : List Chunk} {a : Act} {w : World} {c : Code} {X : Type} (S : St n w0 K L a w) (KX : X → KL) (LX : X → List Chunk → List Chunk) (φ : X → Prop) (μ : X → Nat) (x0 : X) (h0 : φ x0)
   (round : ∀ x a w, φ x → St n w0 (KX x ++ K) (LX x L) a w → c.wp P (Exit.then (fun a' w' => ∃ x', φ x' ∧ μ x' < μ x ∧ St n w0 (KX x' ++ K) (LX x' L) a' w') Q) a w)
   (hK : Fits [] K (KX x0 ++ K) := by repeat (first | exact Fits.nil | refine Fits.skip rfl ?_ | refine Fits.cons rfl ?_)) (hL : (LX x0 L).Sublist L := by repeat (first | exact List.Sublist.refl _ | exact List.nil_sublist _ | refine .cons_cons _ ?_ | refine .cons _ ?_)) : (Code.loop c).wp P Q a w := st_loopK S KX LX φ μ x0 h0 hK hL round
section
variable {P : Program} {Q : Exit → Act → World → Prop} {n : Nat} {w0 : World} {K K' : KL} {L Lr : List Chunk} {a : Act} {w : World} {ops : Array Oper} {md : Region.Mode} {fuel : Nat} {listed : Array Bool} {op : Op} {ty : TypeId} {pos : String} {aft : Array Edge} {v : Value} {d t j : Nat} {g p q : Bool}
theorem rg {id : Nat} {l : List Oper} {y : Act → World → Prop} {Kc : Act → World → Prop} (S : St n w0 K L a w) (h : Run P n w0 L l.toArray K l K' []) (hk : ∀ a w, y a w → Kc a w) (next : ∀ a w, St n w0 K' L a w → y a w) : (Code.region id l.toArray false).wp P (Exit.then Kc Q) a w :=
 wp_region_lit (run S h fun a w S => Zb (Za (hk _ _ (next a w S))))
theorem sg {id : Nat} {l : List Oper} {y : Code} (S : St n w0 K L a w) (h : Run P n w0 L l.toArray K l K' []) (next : ∀ a w, St n w0 K' L a w → y.wp P Q a w) : ((Code.region id l.toArray false).seq y).wp P Q a w :=
 wp_seq_k fun _ hK => rg S h hK next
theorem Yw (S : St n w0 K L a w) (h : wpAnyH P md ops Q (Wd w0 Lr) fuel listed a w) (h2 : Lr.Sublist L := by repeat (first | exact List.Sublist.refl _ | exact List.nil_sublist _ | refine .cons_cons _ ?_ | refine .cons _ ?_)) : Wd w0 Lr w ∧ wpAnyH P md ops Q (Wd w0 Lr) fuel listed a w := h_on S _ (List.Sublist.refl _) h2 h
theorem h_n2 (S : St n w0 K L a w) (h : wpAnyH P md ops Q (Wd w0 L) fuel listed a w) (h1 : Lr.Sublist L := by repeat (first | exact List.Sublist.refl _ | exact List.nil_sublist _ | refine .cons_cons _ ?_ | refine .cons _ ?_)) : Wd w0 Lr w ∧ wpAnyH P md ops Q (Wd w0 Lr) fuel listed a w := h_on S _ h1 (List.Sublist.refl _) h
theorem hy (i : Nat) (S : St n w0 K L a w) (hi : ops[i]? = some ⟨some d, op, ty, pos, aft, none⟩) (hy : Yr P ⟨some d, op, ty, pos, aft, none⟩ n K w0 Lr true v) (hd : Nat.blt d n = true)
   (next : ∀ a w, St n w0 ((d, true, v) :: K) L a w → wpAnyH P md ops Q (Wd w0 Lr) fuel (listed.setIfInBounds i true) a w)
   (hsub : Lr.Sublist L := by repeat (first | exact List.Sublist.refl _ | exact List.nil_sublist _ | refine .cons_cons _ ?_ | refine .cons _ ?_)) (hs : Region.noSelect ops = true := by kernel_rfl) (hf : Region.free md ops listed i = true := by kernel_rfl) (hr : (Region.ready md ops listed).contains i = true := by kernel_rfl) (hQ : ∀ v c a w, Q (.panic c) (a.put (some d) v) w → Q (.panic c) a w := by exact fun _ _ _ _ h => h) : wpAnyH P md ops Q (Wd w0 Lr) (fuel + 1) listed a w := h_y S hsub hi hs hf hr hQ hy hd next
theorem hyg (i : Nat) (S : St n w0 K L a w) (hi : ops[i]? = some ⟨some d, op, ty, pos, aft, some (j, true)⟩) (hj : (ops[j]?).bind (·.dst) = some t) (hl : look K t = some (g, .bool p)) (hy : Yr P ⟨some d, op, ty, pos, aft, some (j, true)⟩ n K w0 Lr (g && p) v) (hd : Nat.blt d n = true)
   (next : ∀ a w, St n w0 ((d, g && p, v) :: K) L a w → wpAnyH P md ops Q (Wd w0 Lr) fuel (listed.setIfInBounds i true) a w)
   (hsub : Lr.Sublist L := by repeat (first | exact List.Sublist.refl _ | exact List.nil_sublist _ | refine .cons_cons _ ?_ | refine .cons _ ?_)) (hs : Region.noSelect ops = true := by kernel_rfl) (hf : Region.free md ops listed i = true := by kernel_rfl) (hr : (Region.ready md ops listed).contains i = true := by kernel_rfl) (hQ : ∀ v c a w, Q (.panic c) (a.put (some d) v) w → Q (.panic c) a w := by exact fun _ _ _ _ h => h) : wpAnyH P md ops Q (Wd w0 Lr) (fuel + 1) listed a w := h_yg S hsub hi hs hf hr hQ hj hl hy hd next
theorem hyg1 (i : Nat) (S : St n w0 K L a w) (hi : ops[i]? = some ⟨some d, op, ty, pos, aft, some (j, true)⟩) (hj : (ops[j]?).bind (·.dst) = some t) (hl : look K t = some (true, .bool p)) (hy : Yr P ⟨some d, op, ty, pos, aft, some (j, true)⟩ n K w0 Lr p v) (hd : Nat.blt d n = true)
   (next : ∀ a w, St n w0 ((d, p, v) :: K) L a w → wpAnyH P md ops Q (Wd w0 Lr) fuel (listed.setIfInBounds i true) a w)
   (hsub : Lr.Sublist L := by repeat (first | exact List.Sublist.refl _ | exact List.nil_sublist _ | refine .cons_cons _ ?_ | refine .cons _ ?_)) (hs : Region.noSelect ops = true := by kernel_rfl) (hf : Region.free md ops listed i = true := by kernel_rfl) (hr : (Region.ready md ops listed).contains i = true := by kernel_rfl) (hQ : ∀ v c a w, Q (.panic c) (a.put (some d) v) w → Q (.panic c) a w := by exact fun _ _ _ _ h => h) : wpAnyH P md ops Q (Wd w0 Lr) (fuel + 1) listed a w := h_yg1 S hsub hi hs hf hr hQ hj hl hy hd next
theorem hyf (i : Nat) (S : St n w0 K L a w) (hi : ops[i]? = some ⟨some d, op, ty, pos, aft, some (j, false)⟩) (hj : (ops[j]?).bind (·.dst) = some t) (hl : look K t = some (g, .bool p)) (hy : Yr P ⟨some d, op, ty, pos, aft, some (j, false)⟩ n K w0 Lr (g && !p) v) (hd : Nat.blt d n = true)
   (next : ∀ a w, St n w0 ((d, g && !p, v) :: K) L a w → wpAnyH P md ops Q (Wd w0 Lr) fuel (listed.setIfInBounds i true) a w)
   (hsub : Lr.Sublist L := by repeat (first | exact List.Sublist.refl _ | exact List.nil_sublist _ | refine .cons_cons _ ?_ | refine .cons _ ?_)) (hs : Region.noSelect ops = true := by kernel_rfl) (hf : Region.free md ops listed i = true := by kernel_rfl) (hr : (Region.ready md ops listed).contains i = true := by kernel_rfl) (hQ : ∀ v c a w, Q (.panic c) (a.put (some d) v) w → Q (.panic c) a w := by exact fun _ _ _ _ h => h) : wpAnyH P md ops Q (Wd w0 Lr) (fuel + 1) listed a w := h_yf S hsub hi hs hf hr hQ hj hl hy hd next
theorem hyf1 (i : Nat) (S : St n w0 K L a w) (hi : ops[i]? = some ⟨some d, op, ty, pos, aft, some (j, false)⟩) (hj : (ops[j]?).bind (·.dst) = some t) (hl : look K t = some (true, .bool p)) (hy : Yr P ⟨some d, op, ty, pos, aft, some (j, false)⟩ n K w0 Lr (!p) v) (hd : Nat.blt d n = true)
   (next : ∀ a w, St n w0 ((d, !p, v) :: K) L a w → wpAnyH P md ops Q (Wd w0 Lr) fuel (listed.setIfInBounds i true) a w)
   (hsub : Lr.Sublist L := by repeat (first | exact List.Sublist.refl _ | exact List.nil_sublist _ | refine .cons_cons _ ?_ | refine .cons _ ?_)) (hs : Region.noSelect ops = true := by kernel_rfl) (hf : Region.free md ops listed i = true := by kernel_rfl) (hr : (Region.ready md ops listed).contains i = true := by kernel_rfl) (hQ : ∀ v c a w, Q (.panic c) (a.put (some d) v) w → Q (.panic c) a w := by exact fun _ _ _ _ h => h) : wpAnyH P md ops Q (Wd w0 Lr) (fuel + 1) listed a w := h_yf1 S hsub hi hs hf hr hQ hj hl hy hd next
theorem hyt (i : Nat) (S : St n w0 K L a w) (hi : ops[i]? = some ⟨some d, op, ty, pos, aft, some (j, p)⟩) (hj : (ops[j]?).bind (·.dst) = some t) (hl : look K t = some (true, .bool p)) (hy : Yr P ⟨some d, op, ty, pos, aft, some (j, p)⟩ n K w0 Lr true v) (hd : Nat.blt d n = true)
   (next : ∀ a w, St n w0 ((d, true, v) :: K) L a w → wpAnyH P md ops Q (Wd w0 Lr) fuel (listed.setIfInBounds i true) a w)
   (hsub : Lr.Sublist L := by repeat (first | exact List.Sublist.refl _ | exact List.nil_sublist _ | refine .cons_cons _ ?_ | refine .cons _ ?_)) (hs : Region.noSelect ops = true := by kernel_rfl) (hf : Region.free md ops listed i = true := by kernel_rfl) (hr : (Region.ready md ops listed).contains i = true := by kernel_rfl) (hQ : ∀ v c a w, Q (.panic c) (a.put (some d) v) w → Q (.panic c) a w := by exact fun _ _ _ _ h => h) : wpAnyH P md ops Q (Wd w0 Lr) (fuel + 1) listed a w := h_yt S hsub hi hs hf hr hQ hj hl hy hd next
theorem hsk (i : Nat) (S : St n w0 K L a w) (hi : ops[i]? = some ⟨some d, op, ty, pos, aft, some (j, q)⟩) (hj : (ops[j]?).bind (·.dst) = some t) (hl : look K t = some (true, .bool p)) (hpq : q = !p) (hd : Nat.blt d n = true)
   (next : ∀ a w, St n w0 ((d, false, undef) :: K) L a w → wpAnyH P md ops Q (Wd w0 Lr) fuel (listed.setIfInBounds i true) a w)
   (hsub : Lr.Sublist L := by repeat (first | exact List.Sublist.refl _ | exact List.nil_sublist _ | refine .cons_cons _ ?_ | refine .cons _ ?_)) (hs : Region.noSelect ops = true := by kernel_rfl) (hf : Region.free md ops listed i = true := by kernel_rfl) (hr : (Region.ready md ops listed).contains i = true := by kernel_rfl) (hQ : ∀ v c a w, Q (.panic c) (a.put (some d) v) w → Q (.panic c) a w := by exact fun _ _ _ _ h => h) : wpAnyH P md ops Q (Wd w0 Lr) (fuel + 1) listed a w := h_skip S hsub hi hs hf hr hQ hj hl hpq hd next
theorem hs0 (i : Nat) (S : St n w0 K L a w) (hi : ops[i]? = some ⟨some d, op, ty, pos, aft, some (j, q)⟩) (hj : (ops[j]?).bind (·.dst) = some t) (hl : look K t = some (false, v)) (hd : Nat.blt d n = true)
   (next : ∀ a w, St n w0 ((d, false, undef) :: K) L a w → wpAnyH P md ops Q (Wd w0 Lr) fuel (listed.setIfInBounds i true) a w)
   (hsub : Lr.Sublist L := by repeat (first | exact List.Sublist.refl _ | exact List.nil_sublist _ | refine .cons_cons _ ?_ | refine .cons _ ?_)) (hs : Region.noSelect ops = true := by kernel_rfl) (hf : Region.free md ops listed i = true := by kernel_rfl) (hr : (Region.ready md ops listed).contains i = true := by kernel_rfl) (hQ : ∀ v c a w, Q (.panic c) (a.put (some d) v) w → Q (.panic c) a w := by exact fun _ _ _ _ h => h) : wpAnyH P md ops Q (Wd w0 Lr) (fuel + 1) listed a w := h_skip0 S hsub hi hs hf hr hQ hj hl hd next
end
end Go.Fw
namespace Go.Fw
open Go.Proofs Go.RowKit Go.ChangeMaps
section plain
variable {α β : Type} [DecidableEq α]
end plain
section maps
variable {α β : Type} (kv : α → Value) (vv : β → Value)
def mL : Nat → List (α × β) → List MapEntry
 | _, [] => []
 | i, (x, v) :: r => ⟨kv x, vv v, i⟩ :: mL (i + 1) r
abbrev mapK (l : List (α × β)) : Obj := .map (mL kv vv 0 l).toArray l.length
end maps
section laws
variable {P : Program} {n : Nat} {w0 : World} {K : KL} {L : List Chunk} {ty : TypeId} {pos : String} {aft : Array Edge} {gd : Option (Nat × Bool)} {a : Act} {w : World} {Z : Act → World → Prop} {Q : Exit → Act → World → Prop} {d : Nat} {dst : Option Tmp} {b : Bool}
variable {α β : Type} [DecidableEq α] {kv : α → Value} {vv : β → Value} {t : TypeId} {z : β}
set_option linter.unusedSectionVars false
theorem op_makeMap (kv : α → Value) (vv : β → Value) (S : St n w0 K L a w) (hd : Nat.blt d n = true)
   (next : ∀ g a w, St n w0 ((d, true, .map (some g)) :: K) (.blk g (mapK kv vv []) :: L) a w → Z a w) : Oper.wp P ⟨some d, .makeMap t none, ty, pos, aft, gd⟩ a w Z Q := by
 refine Xv (v := .map (some w.heap.size)) (w' := w.alloc (.map #[] 0)) ?_ (next w.heap.size _ _ ⟨S.kn.put hd _, S.wd.alloc _⟩)
 simp [execOp, Instr.makeMap]
theorem Wd.setBlk {L : List Chunk} (W : Wd w0 L w) {k g : Nat} {o o' : Obj} (hk : L[k]? = some (.blk g o)) : Wd w0 (L.set k (.blk g o')) (setBlock w g o') := by
 have h := W.get hk
 have hlt := (Array.getElem?_eq_some_iff.1 h.2).1
 refine W.change hk ⟨rfl, rfl, rfl, by simp [setBlock], fun j hj hn => ?_, Nat.le_refl _⟩ ⟨h.1, by simp [setBlock, hlt]⟩ fun b hb => .inl hb
 simp only [Chunk.own] at hn
 simp only [setBlock]
 rw [Array.getElem?_setIfInBounds_ne (fun e => hn e.symm)]
theorem ys_callVC {f : FuncId} {x0 : Operand} {xs : List Operand} {ts : Array TypeId} {vs cs : List Value} {v : Value} (h0 : Ev n b K x0 (.func (.func f) #[] cs.toArray)) (hf : ∀ args w, (callFunc f args).run P w = .ok (.enter f args) w) (hx : EvL n b K xs vs)
   (hc : b = true → ∀ w, Wd w0 L w → Calls P f (vs ++ cs).toArray w fun e w' => e = .returned v ∧ Bel w.heap.size w w') : Ys P ⟨dst, .call ⟨.value x0, xs.toArray, ts⟩, ty, pos, aft, gd⟩ n K w0 L b v := fun a w hb hkn hw => by
 have e : (xs.toArray.map a.eval) = vs.toArray := by rw [List.map_toArray, hx a hb hkn]
 have hrun : (execOp a.eval ⟨dst, .call ⟨.value x0, xs.toArray, ts⟩, ty, pos, aft, gd⟩).run P w = .ok (.enter f (vs ++ cs).toArray) w := by
   simp only [execOp, resolve, e, h0 a hb hkn]
   simp [Deferred.ofValue, invoke, hf]
 rw [hrun]
 exact ⟨rfl, (hc hb w hw).mono fun e w' ⟨he, hbe⟩ => ⟨he, hw.step hbe⟩⟩
end laws
end Go.Fw
namespace Go.Fw
open Go.RowKit
structure Mbr where
 node : Int
 epoch : Int
 stamp : Int
 status : Int
deriving DecidableEq
abbrev Mbr.enc (r : Mbr) : List Value := [.int .i64 r.node, .int .i64 r.epoch, .int .i64 r.stamp, .int .i64 r.status]
theorem Mbr.mkEnc {x y z s : Int} : [Value.int .i64 x, Value.int .i64 y, Value.int .i64 z, Value.int .i64 s] = Mbr.enc ⟨x, y, z, s⟩ := rfl
theorem Mbr.enc_len (r : Mbr) : (Mbr.enc r).length = 4 := rfl
theorem Mbr.enc_one (r : Mbr) : ∀ u ∈ Mbr.enc r, u.oneCell' = true := fun u hu => by simp [Mbr.enc] at hu; rcases hu with rfl | rfl | rfl | rfl <;> rfl
abbrev Mbr.zero : Mbr := ⟨0, 0, 0, 0⟩
instance : Inhabited Mbr := ⟨Mbr.zero⟩
structure Rng where
 parts : Int
 copies : Int
 spots : Int
 mem : List Mbr
deriving DecidableEq
def logP (p : Int) : Int := if p = 1 then 0 else if p = 2 then 1 else if p = 4 then 2 else if p = 8 then 3 else if p = 16 then 4 else if p = 32 then 5 else if p = 64 then 6 else -1
def Mbr.ok (m : Mbr) : Prop := (0 ≤ m.node ∧ m.node < 8) ∧ (1 ≤ m.epoch ∧ m.epoch ≤ 524288) ∧ (1 ≤ m.stamp ∧ m.stamp ≤ 1099511627776) ∧ (m.status = 1 ∨ m.status = 2)
instance (m : Mbr) : Decidable m.ok := by unfold Mbr.ok; infer_instance
def goodL (l : List Mbr) : Prop := (∀ m ∈ l, m.ok) ∧ l.Pairwise (fun a b => a.node < b.node)
instance (l : List Mbr) : Decidable (goodL l) := by unfold goodL; infer_instance
def shapeP (p c s : Int) : Prop := 0 ≤ logP p ∧ (1 ≤ c ∧ c ≤ 5) ∧ (1 ≤ s ∧ s ≤ 16)
instance (p c s : Int) : Decidable (shapeP p c s) := by unfold shapeP; infer_instance
def Rng.can (r : Rng) : Prop := shapeP r.parts r.copies r.spots ∧ goodL r.mem
instance (r : Rng) : Decidable r.can := by unfold Rng.can; infer_instance
def lessM (a b : Mbr) : Prop := a.epoch < b.epoch ∨ (a.epoch = b.epoch ∧ (a.stamp < b.stamp ∨ (a.stamp = b.stamp ∧ a.status < b.status)))
instance (a b : Mbr) : Decidable (lessM a b) := by unfold lessM; infer_instance
end Go.Fw
namespace Go.Fw
open Go.RowKit
def minTo (w : Nat → Int) : Nat → Int
 | 0 => w 0
 | k + 1 => if w (k + 1) < minTo w k then w (k + 1) else minTo w k
section walk
variable (way : Int → Nat → Int) (s : Nat)
def ahead (a b : Int) : Prop := minTo (way a) (s - 1) < minTo (way b) (s - 1) ∨ (minTo (way a) (s - 1) = minTo (way b) (s - 1) ∧ a < b)
instance (a b : Int) : Decidable (ahead way s a b) := by unfold ahead; infer_instance
variable {way s}
variable (way s)
variable {way s}
def lessP (a b : Int × Int) : Prop := a.1 < b.1 ∨ (a.1 = b.1 ∧ a.2 < b.2)
instance (a b : Int × Int) : Decidable (lessP a b) := by unfold lessP; infer_instance
def places (way : Int → Nat → Int) (s : Nat) (all : List Int) : List (Int × Int) := all.flatMap fun n => (List.range s).map fun i => (way n i, n)
def rest (all l : List Int) : List Int := all.filter fun n => decide (n ∉ l)
end walk
end Go.Fw
namespace Go.Fw
open Go.RowKit
section ops
variable {P : Program} {n : Nat} {w0 : World} {K : KL} {L : List Chunk} {b : Bool} {dst : Option Tmp} {ty : TypeId} {pos : String} {aft : Array Edge} {gd : Option (Nat × Bool)}
theorem ys_ixAgg {t e m : Nat} {x y : Operand} {vs : List Value} {j : Nat} {k : IntKind} {v : Value} (ht : P.underlying t = some (.array m e)) (hs : One P e) (hx : Ev n b K x (.agg vs.toArray)) (hy : Ev n b K y (.int k (j : Int))) (h : vs[j]? = some v) (hj : Nat.blt j m = true) :
   Yr P ⟨dst, .index t x y, ty, pos, aft, gd⟩ n K w0 L b v := fun a w hb hkn _ => by
 have hj' : (j : Int) < m := by have := Nat.le_of_ble_eq_true hj; omega
 simp [execOp, hx a hb hkn, hy a hb hkn, Instr.index, asIntOf, run_underlying ht, hs.1 w, hs.2 w, hj', Go.part, h]
 intro hle; omega
end ops
section app
variable {P : Program} {n : Nat} {w0 : World} {K : KL} {L : List Chunk} {ty : TypeId} {pos : String} {aft : Array Edge} {gd : Option (Nat × Bool)} {a : Act} {w : World} {Z : Act → World → Prop} {Q : Exit → Act → World → Prop} {d : Nat}
theorem op_appFull {α : Type} {enc : α → List Value} {l : List α} {t t2 e bytes size m q : Nat} {d2 : TypeDesc} {z : Value} {A : Option Addr} {s x : Operand} {xv : Value} {xs news : List Value} (S : St n w0 K L a w) (ht : P.underlying t = some (.slice e)) (ht2 : P.underlying t2 = some d2) (hd2 : d2 = .string ∨ ∃ e2, d2 = .slice e2)
   (hi : InfoT P e z size bytes) (hzs : z.cells.size = size) (hs : Ev n true K s (.slice A m m)) (hx : Ev n true K x xv) (hdst : Src P w size (.slice A m m) m xs) (hsrc : Src P w size xv q news) (hq : 0 < q) (hll : l.length = m + q) (hl : l.flatMap enc = xs ++ news) (hb : (m + q) * bytes ≤ 200000000000000) (hb1 : Nat.blt 0 bytes = true) (hb2 : Nat.ble bytes 65536 = true) (hd : Nat.blt d n = true)
   (next : ∀ A' cap' a w, St n w0 ((d, true, .slice A' l.length cap') :: K) (rowOf e size enc A' cap' l :: L) a w → Z a w) :
   Oper.wp P ⟨some d, .call ⟨.builtin .append, #[s, x], #[t, t2]⟩, ty, pos, aft, gd⟩ a w Z Q := by
 obtain ⟨i, hi1, hi2, hi3, hi4⟩ := hi.parts
 subst hi3; subst hi4
 have hb1 := Nat.le_of_ble_eq_true hb1
 have hb2 := Nat.le_of_ble_eq_true hb2
 have hlen : (xs ++ news).length = (m + q) * i.size := by rw [List.length_append, hdst.length, hsrc.length, Nat.add_mul]
 have hnm : m + q ≤ 200000000000000 := by
   have := Nat.le_mul_of_pos_right (m + q) hb1
   omega
 have hlx := hsrc.len w
 have holds := hdst.drew
 have hroom : ¬ m + q ≤ m := by omega
 have h63 : ¬ (9223372036854775807 < ((m : Int) + (q : Int))) := by omega
 have hnc := nextcap_le (need := m + q) (old := m) (by omega)
 have hfit : Builtin.nextslicecap (m + q) m * i.bytes ≤ 281474976710656 := by
   have h1 : Builtin.nextslicecap (m + q) m * i.bytes ≤ (m + q + (m + q) / 4 + 512) * i.bytes := Nat.mul_le_mul_right _ hnc
   have h2 : (m + q + (m + q) / 4 + 512) * i.bytes = (m + q) * i.bytes + (m + q) / 4 * i.bytes + 512 * i.bytes := by rw [Nat.add_mul, Nat.add_mul]
   have h3 : (m + q) / 4 * i.bytes * 4 ≤ (m + q) * i.bytes := by
     rw [Nat.mul_right_comm]; exact Nat.mul_le_mul_right _ (Nat.div_mul_le_self _ _)
   omega
 have hfit' : ¬ (281474976710656 < Builtin.nextslicecap (m + q) m * i.bytes) := by omega
 have hge := grownCap_ge w (m + q) m e
 have hcm : grownCap w (m + q) m e ≤ maxLen := grownCap_le_maxLen w (m + q) m e (by simp only [maxLen]; omega)
 have hrun : (Builtin.append_ #[t, t2] ty #[.slice A m m, xv]).run P w = .ok (.slice (some ⟨w.heap.size, 0, none⟩) (m + q) (grownCap w (m + q) m e)) (w.drew.alloc (.cells (xs.toArray ++ news.toArray ++ Builtin.zeroCells z.cells (grownCap w (m + q) m e - (m + q))) e)) := by
   have hh := hsrc.drew
   have ea : ∀ Z : Array Value, xs.toArray ++ (news.toArray ++ Z) = (xs ++ news).toArray ++ Z := fun Z => by rw [← List.append_toArray, Array.append_assoc]
   rcases hd2 with rfl | ⟨e2, rfl⟩ <;> simp [Builtin.append_, run_underlying ht, run_underlying ht2, sizeOf, typeInfo, hi1, hi2, hlx, hh, hroom, h63, hfit', holds, zeroValue, Question.forced, newRow, grownCap] <;> rw [ea]
 refine Xv (v := .slice (some ⟨w.heap.size, 0, none⟩) (m + q) (grownCap w (m + q) m e)) (w' := _) (by simp only [execOp, resolve, invoke, builtin, Sem.run_bind, Sem.run_pure, Result.andThen_ok, List.map_toArray, List.map_cons, List.map_nil, hs a rfl S.kn, hx a rfl S.kn, hrun]; rfl) (next _ _ _ _ ⟨by rw [hll]; exact S.kn.put hd _, S.wd.more (((Bel.refl _ w).drew).alloc (Nat.le_refl _) _) ?_⟩)
 show Owns _ _ _ _ _ _ _ _
 rw [hll, hl]
 refine ⟨hlen, .inr ⟨w.heap.size, _, rfl, by omega, Nat.le_refl _, heap_alloc_new w.drew _, hge, hcm, ?_, ?_⟩⟩
 · simp only [Array.size_append, List.size_toArray, size_zeroCells, hzs, hdst.length, hsrc.length, ← Nat.add_mul]
   congr 1
   omega
 · simp only [Array.toList_append]
   rw [← hlen]
   exact List.take_left
theorem txt_one (l : List UInt8) : ∀ u ∈ l.map (fun u => Value.int .u8 (u.toNat : Int)), u.oneCell' = true := fun u hu => by
 obtain ⟨x, _, rfl⟩ := List.mem_map.1 hu; rfl
theorem appB (l m : List UInt8) : (l ++ m).flatMap encB = l.map (fun u => Value.int .u8 (u.toNat : Int)) ++ m.map (fun u => Value.int .u8 (u.toNat : Int)) := by rw [List.flatMap_append, flatB, flatB]
def txtC (l : List UInt8) (m : Nat) : List Value := l.map (fun u => Value.int .u8 (u.toNat : Int)) ++ List.replicate m (.int .u8 0)
theorem op_bytes {t s e : TypeId} {x : Operand} {l : List UInt8} (S : St n w0 K L a w) (hs : P.underlying s = some .string) (ht : P.underlying t = some (.slice e)) (he : P.underlying e = some (.int .u8)) (hx : Ev n true K x (.string (bs l))) (hl : l.length ≤ 4611686018427387904) (hd : Nat.blt d n = true)
   (next : ∀ g m fr, l.length + m ≤ 9223372036854775807 → ∀ a w, St n w0 ((d, true, .slice (some ⟨g, 0, none⟩) l.length (l.length + m)) :: K) (.blk g (.cells (txtC l m).toArray e fr) :: L) a w → Z a w) :
   Oper.wp P ⟨some d, .convert s t x, ty, pos, aft, gd⟩ a w Z Q := by
 have hge := grownCap_ge w l.length 0 e
 have hcm : grownCap w l.length 0 e ≤ maxLen := grownCap_le_maxLen w l.length 0 e (by simp only [maxLen]; omega)
 obtain ⟨m, hm⟩ : ∃ m, grownCap w l.length 0 e = l.length + m := ⟨grownCap w l.length 0 e - l.length, by omega⟩
 have hsize : (bs l).size = l.length := by simp [ByteArray.size]
 have hcs : bytesRow (bs l) (grownCap w (bs l).size 0 e) = (txtC l m).toArray := by
   rw [hsize, hm]
   simp [bytesRow, txtC, hsize, show l.length + m - l.length = m by omega]
 have hrun := run_bytes_of_string (P := P) w s t e (bs l) hs ht he
 rw [hcs, hsize, hm] at hrun
 refine Xv ?_ (next w.heap.size m ((txtC l m).toArray.size, (txtC l m).toArray.size + 1) (by simp only [maxLen] at hcm; omega) _ _ ⟨S.kn.put hd _, S.wd.drew.alloc _⟩)
 simp only [execOp, hx a rfl S.kn, Sem.run_bind, hrun, Result.andThen_ok]
 rfl
theorem Sl.of_txt {l : List UInt8} {k g m : Nat} {e : TypeId} {fr : Nat × Nat} (W : Wd w0 L w) (hk : L[k]? = some (.blk g (.cells (txtC l m).toArray e fr))) (hm : l.length + m ≤ 9223372036854775807) : Sl encB 1 w w.heap.size (.slice (some ⟨g, 0, none⟩) l.length (l.length + m)) l := by
 have h := W.get hk
 refine ⟨_, _, rfl, by omega, hm, fun _ => ⟨g, 0, rfl, (Array.getElem?_eq_some_iff.1 h.2).1, fun i x hi j u hu => ?_⟩⟩
 have hj : j = 0 := by
   have := (List.getElem?_eq_some_iff.1 hu).1
   simp [encB] at this; exact this
 subst hj
 have hu' : u = .int .u8 (x.toNat : Int) := by simpa [encB] using hu.symm
 subst hu'
 rw [cell_of_row w g _ _ e fr h.2]
 have hlt := (List.getElem?_eq_some_iff.1 hi).1
 obtain ⟨_, rfl⟩ := List.getElem?_eq_some_iff.1 hi
 simp [txtC, List.getElem?_append, hlt]
end app
end Go.Fw
namespace Go.Fw
open Go.RowKit
def fnvF (h : Int) (c : UInt8) : Int := IntKind.u64.wrap (xorK .u64 h (c.toNat : Int) * 1099511628211)
def stirF (h m : Int) : Int := IntKind.u64.wrap (xorK .u64 h (h / 8589934592) * m)
def hashL (l : List UInt8) : Int :=
 let h := stirF (stirF (l.foldl fnvF 14695981039346656037) 18397679294719823053) 14181476777654086739
 xorK .u64 h (h / 8589934592)
def eightL (n : Int) : List UInt8 := [b8 (n / 72057594037927936), b8 (n / 281474976710656), b8 (n / 1099511627776), b8 (n / 4294967296), b8 (n / 16777216), b8 (n / 65536), b8 (n / 256), b8 (n / 1)]
def mixL (a b : Int) : Int := hashL (eightL a ++ eightL b)
theorem xorK_u64 (p q : Int) : 0 ≤ xorK .u64 p q ∧ xorK .u64 p q ≤ 18446744073709551615 := u64_range _
theorem hash_range (l : List UInt8) : 0 ≤ hashL l ∧ hashL l ≤ 18446744073709551615 := xorK_u64 _ _
theorem mix_range (a b : Int) : 0 ≤ mixL a b ∧ mixL a b ≤ 18446744073709551615 := hash_range _
def startOk (part p : Int) : Prop := 0 ≤ logP p ∧ 0 ≤ part ∧ part < p
instance (part p : Int) : Decidable (startOk part p) := by unfold startOk; infer_instance
end Go.Fw
namespace Go.Fw
open Go.RowKit
def ltM (a b : Dot) : Prop := a.node < b.node ∨ (a.node = b.node ∧ a.life < b.life)
def ltC (a b : Dot) : Prop := a.node < b.node ∨ (a.node = b.node ∧ (a.life < b.life ∨ (a.life = b.life ∧ a.count < b.count)))
theorem belowC_iff (a b : Dot) : belowD a b = true ↔ ltC a b := by
 simp only [belowD, ltC]
 split
 · simp; omega
 · split <;> simp <;> omega
structure Nf (C : Ctx) : Prop where
 marks : C.marks.Pairwise ltM
 cloud : C.cloud.Pairwise ltC
 mayM : ∀ x ∈ C.marks, mayD x = true
 mayC : ∀ x ∈ C.cloud, mayD x = true
 gap : ∀ x ∈ C.cloud, markOf C.marks x.node x.life + 1 < x.count
end Go.Fw
namespace Go.Fw
open Go.RowKit
theorem Xm {α : Type} {R : α → α → Prop} (irr : ∀ a, ¬ R a a) (asym : ∀ a b, R a b → ¬ R b a) : ∀ {l r : List α}, l.Pairwise R → r.Pairwise R → (∀ x, x ∈ l ↔ x ∈ r) → l = r
 | [], [], _, _, _ => rfl
 | [], y :: r, _, _, h => absurd ((h y).2 (by simp)) (by simp)
 | x :: l, [], _, _, h => absurd ((h x).1 (by simp)) (by simp)
 | x :: l, y :: r, hl, hr, h => by
   obtain ⟨h1, h2⟩ := List.pairwise_cons.1 hl
   obtain ⟨h3, h4⟩ := List.pairwise_cons.1 hr
   have e : x = y := by
     rcases List.mem_cons.1 ((h x).1 (by simp)) with e | hx
     · exact e
     · rcases List.mem_cons.1 ((h y).2 (by simp)) with e | hy
       · exact e.symm
       · exact absurd (h1 y hy) (asym y x (h3 x hx))
   subst e
   congr 1
   refine Xm irr asym h2 h4 fun z => ⟨fun hz => ?_, fun hz => ?_⟩
   · rcases List.mem_cons.1 ((h z).1 (by simp [hz])) with rfl | hz'
     · exact absurd (h1 z hz) (irr z)
     · exact hz'
   · rcases List.mem_cons.1 ((h z).2 (by simp [hz])) with rfl | hz'
     · exact absurd (h3 z hz) (irr z)
     · exact hz'
end Go.Fw
namespace Go.Fw
open Go.RowKit
theorem Xi : ∀ a : List UInt8, Op.bytesLess a a = false
 | [] => rfl
 | x :: r => by unfold Op.bytesLess; rw [Xi r]; simp
theorem less_nil (a : List UInt8) : Op.bytesLess a [] = false := by cases a <;> rfl
theorem less_cons (x y : UInt8) (a b : List UInt8) : Op.bytesLess (x :: a) (y :: b) = true ↔ x < y ∨ (x = y ∧ Op.bytesLess a b = true) := by
 rw [Op.bytesLess]
 simp
theorem less_trans : ∀ {a b c : List UInt8}, Op.bytesLess a b = true → Op.bytesLess b c = true → Op.bytesLess a c = true
 | _, [], _, h, _ => by rw [less_nil] at h; cases h
 | _, _ :: _, [], _, h => by rw [less_nil] at h; cases h
 | [], _ :: _, _ :: _, _, _ => rfl
 | x :: a, y :: b, z :: c, h, h' => by
   rw [less_cons] at h h' ⊢
   rcases h with h | ⟨rfl, h⟩
   · rcases h' with h' | ⟨rfl, h'⟩
     · exact .inl (UInt8.lt_trans h h')
     · exact .inl h
   · rcases h' with h' | ⟨rfl, h'⟩
     · exact .inl h'
     · exact .inr ⟨rfl, less_trans h h'⟩
theorem Xt : ∀ {a b : List UInt8}, a ≠ b → Op.bytesLess a b = true ∨ Op.bytesLess b a = true
 | [], [], h => absurd rfl h
 | [], _ :: _, _ => .inl rfl
 | _ :: _, [], _ => .inr rfl
 | x :: a, y :: b, h => by
   rw [less_cons, less_cons]
   by_cases e : x = y
   · subst e
     have h2 : a ≠ b := fun e => h (by rw [e])
     rcases Xt h2 with h | h
     · exact .inl (.inr ⟨rfl, h⟩)
     · exact .inr (.inr ⟨rfl, h⟩)
   · rcases UInt8.lt_or_lt_of_ne e with h | h
     · exact .inl (.inl h)
     · exact .inr (.inl h)
theorem Xd {a b : List UInt8} (h : Op.bytesLess a b = true) : Op.bytesLess b a = false := by
 rw [Bool.eq_false_iff]
 intro h'
 have := less_trans h h'
 rw [Xi] at this
 cases this
theorem less_ne {a b : List UInt8} (h : Op.bytesLess a b = true) : a ≠ b := fun e => by rw [e, Xi] at h; cases h
theorem less_gt (l m : List UInt8) : (!(Op.bytesLess l m || l == m)) = Op.bytesLess m l := by
 by_cases e : l = m
 · subst e; simp [Xi]
 · rw [beq_false_of_ne e, Bool.or_false]
   rcases Xt e with h | h
   · rw [h, Xd h]; rfl
   · rw [h, Xd h]; rfl
theorem less_ge (l m : List UInt8) : (Op.bytesLess l m || l == m) = !Op.bytesLess m l := by
 rw [← less_gt l m, Bool.not_not]
end Go.Fw
namespace Go.Fw
open Go.RowKit
def charB (c : UInt8) : Bool := (decide (97 ≤ c.toNat) && decide (c.toNat ≤ 122)) || (decide (65 ≤ c.toNat) && decide (c.toNat ≤ 90)) || (decide (48 ≤ c.toNat) && decide (c.toNat ≤ 57)) || decide (c.toNat = 45) || decide (c.toNat = 95) || decide (c.toNat = 46)
def nameB (s : List UInt8) : Bool := decide (s ≠ []) && decide (s.length ≤ 32) && s.all charB
structure Ent where
 item : List UInt8
 dot : Dot
 qty : Int
 price : UInt64
deriving DecidableEq
abbrev Ent.enc (e : Ent) : List Value := [.string (bs e.item), .int .i64 e.dot.node, .int .i64 e.dot.life, .int .i64 e.dot.count, .int .i64 e.qty, .int .u64 (e.price.toNat : Int)]
theorem Ent.enc_len (e : Ent) : (Ent.enc e).length = 6 := rfl
theorem Ent.enc_one (e : Ent) : ∀ u ∈ Ent.enc e, u.oneCell' = true := fun u hu => by simp [Ent.enc] at hu; rcases hu with rfl | rfl | rfl | rfl | rfl | rfl <;> rfl
structure Cart where
 ents : List Ent
 ctx : Ctx
deriving DecidableEq
abbrev Cart.zero : Cart := ⟨[], ⟨[], []⟩⟩
structure Line where
 item : List UInt8
 qty : Int
 price : UInt64
deriving DecidableEq
abbrev Line.enc (e : Line) : List Value := [.string (bs e.item), .int .i64 e.qty, .int .u64 (e.price.toNat : Int)]
theorem Line.enc_len (e : Line) : (Line.enc e).length = 3 := rfl
theorem Line.enc_one (e : Line) : ∀ u ∈ Line.enc e, u.oneCell' = true := fun u hu => by simp [Line.enc] at hu; rcases hu with rfl | rfl | rfl <;> rfl
def ltE (a b : Ent) : Prop := Op.bytesLess a.item b.item = true ∨ (a.item = b.item ∧ ltC a.dot b.dot)
instance (a b : Ent) : Decidable (ltE a b) := decidable_of_iff (Op.bytesLess a.item b.item = true ∨ (a.item = b.item ∧ belowD a.dot b.dot = true)) (by rw [belowC_iff]; rfl)
def clashE (a b : Cart) : Prop := ∃ x ∈ a.ents, ∃ y ∈ b.ents, x.dot = y.dot ∧ x ≠ y
instance (a b : Cart) : Decidable (clashE a b) := by unfold clashE; infer_instance
end Go.Fw
namespace Go.Fw
open Go.RowKit
abbrev KH := List UInt8 × Int
def placeK (k : List UInt8) : Nat := (hashL k % 16).toNat
theorem Xg (k : List UInt8) : placeK k < 16 := by unfold placeK; omega
def setT (k : List UInt8) (h : Int) : List KH → List KH
 | [] => [(k, h)]
 | (x, u) :: r => if Op.bytesLess k x = true then (k, h) :: (x, u) :: r else if k = x then (k, h) :: r else (x, u) :: setT k h r
def hasT (T : List KH) (k : List UInt8) : Bool := T.any fun x => decide (x.1 = k)
abbrev ltK (a b : KH) : Prop := Op.bytesLess a.1 b.1 = true
structure KhOk (T : List KH) : Prop where
 sorted : T.Pairwise ltK
 name : ∀ x ∈ T, nameB x.1 = true
 hash : ∀ x ∈ T, 0 ≤ x.2 ∧ x.2 ≤ 18446744073709551615
theorem kh_nil : KhOk [] := ⟨List.Pairwise.nil, by simp, by simp⟩
theorem ltK_irr (a : KH) : ¬ ltK a a := by show ¬ Op.bytesLess a.1 a.1 = true; rw [Xi]; simp
theorem ltK_asymm (a b : KH) (h : ltK a b) : ¬ ltK b a := by show ¬ Op.bytesLess b.1 a.1 = true; rw [Xd h]; simp
theorem Xb {k : List UInt8} {h : Int} {x : KH} : ∀ {T : List KH}, T.Pairwise ltK → (x ∈ setT k h T ↔ x = (k, h) ∨ (x ∈ T ∧ x.1 ≠ k))
 | [], _ => by simp [setT]
 | (y, u) :: r, hs => by
   rw [List.pairwise_cons] at hs
   have hr : ∀ z ∈ r, ¬ z.1 = y := fun z hz e => by have := hs.1 z hz; exact less_ne this e.symm
   rw [setT]
   by_cases h1 : Op.bytesLess k y = true
   · rw [if_pos h1]
     have hk : ∀ z ∈ (y, u) :: r, z.1 ≠ k := fun z hz e => by
       rcases List.mem_cons.1 hz with rfl | hz
       · exact less_ne h1 e.symm
       · have := less_trans h1 (hs.1 z hz)
         exact less_ne this e.symm
     rw [List.mem_cons]
     constructor
     · rintro (rfl | hx)
       · exact .inl rfl
       · exact .inr ⟨hx, hk x hx⟩
     · rintro (rfl | ⟨hx, _⟩)
       · exact .inl rfl
       · exact .inr hx
   · rw [if_neg h1]
     by_cases h2 : k = y
     · rw [if_pos h2]
       subst h2
       rw [List.mem_cons, List.mem_cons]
       constructor
       · rintro (rfl | hx)
         · exact .inl rfl
         · exact .inr ⟨.inr hx, hr x hx⟩
       · rintro (rfl | ⟨rfl | hx, hne⟩)
         · exact .inl rfl
         · exact absurd rfl hne
         · exact .inr hx
     · rw [if_neg h2, List.mem_cons, List.mem_cons, Xb hs.2]
       constructor
       · rintro (rfl | rfl | ⟨hx, hne⟩)
         · exact .inr ⟨.inl rfl, fun e => h2 e.symm⟩
         · exact .inl rfl
         · exact .inr ⟨.inr hx, hne⟩
       · rintro (rfl | ⟨rfl | hx, hne⟩)
         · exact .inr (.inl rfl)
         · exact .inl rfl
         · exact .inr (.inr ⟨hx, hne⟩)
theorem setT_sorted {k : List UInt8} {h : Int} : ∀ {T : List KH}, T.Pairwise ltK → (setT k h T).Pairwise ltK
 | [], _ => List.pairwise_singleton ..
 | (y, u) :: r, hs => by
   have hs' := List.pairwise_cons.1 hs
   rw [setT]
   by_cases h1 : Op.bytesLess k y = true
   · rw [if_pos h1]
     refine List.Pairwise.cons (fun z hz => ?_) hs
     rcases List.mem_cons.1 hz with rfl | hz
     · exact h1
     · exact less_trans h1 (hs'.1 z hz)
   · rw [if_neg h1]
     by_cases h2 : k = y
     · rw [if_pos h2]
       subst h2
       exact List.Pairwise.cons (fun z hz => hs'.1 z hz) hs'.2
     · rw [if_neg h2]
       refine List.Pairwise.cons (fun z hz => ?_) (setT_sorted hs'.2)
       rcases (Xb hs'.2).1 hz with rfl | ⟨hz, _⟩
       · exact (Xt h2).resolve_left h1
       · exact hs'.1 z hz
theorem setT_ok {k : List UInt8} {h : Int} {T : List KH} (hT : KhOk T) (hk : nameB k = true) (hh : 0 ≤ h ∧ h ≤ 18446744073709551615) : KhOk (setT k h T) := by
 refine ⟨setT_sorted hT.sorted, fun x hx => ?_, fun x hx => ?_⟩
 · rcases (Xb hT.sorted).1 hx with rfl | ⟨hx, _⟩
   · exact hk
   · exact hT.name x hx
 · rcases (Xb hT.sorted).1 hx with rfl | ⟨hx, _⟩
   · exact hh
   · exact hT.hash x hx
theorem setT_len (k : List UInt8) (h : Int) : ∀ T : List KH, (setT k h T).length ≤ T.length + 1
 | [] => by simp [setT]
 | (y, u) :: r => by
   have ih := setT_len k h r
   rw [setT]
   split
   · simp
   · split
     · simp
     · simp only [List.length_cons]; omega
theorem kh_ext {T U : List KH} (hT : T.Pairwise ltK) (hU : U.Pairwise ltK) (h : ∀ x, x ∈ T ↔ x ∈ U) : T = U :=
 Xm ltK_irr ltK_asymm hT hU h
def partT (T : List KH) (i : Nat) : List KH := T.filter fun x => decide (placeK x.1 = i)
theorem Zv {T : List KH} {i : Nat} {x : KH} : x ∈ partT T i ↔ x ∈ T ∧ placeK x.1 = i := by
 unfold partT
 rw [List.mem_filter, decide_eq_true_eq]
theorem partT_sorted {T : List KH} (hT : T.Pairwise ltK) (i : Nat) : (partT T i).Pairwise ltK := hT.filter _
theorem partT_len (T : List KH) (i : Nat) : (partT T i).length ≤ T.length := List.length_filter_le _ _
theorem part_set {k : List UInt8} {h : Int} {T : List KH} (hT : T.Pairwise ltK) {i : Nat} (hi : i ≠ placeK k) : partT (setT k h T) i = partT T i :=
 kh_ext (partT_sorted (setT_sorted hT) i) (partT_sorted hT i) fun x => by
   rw [Zv, Zv, Xb hT]
   constructor
   · rintro ⟨rfl | ⟨h1, _⟩, h2⟩
     · exact absurd h2.symm hi
     · exact ⟨h1, h2⟩
   · rintro ⟨h1, h2⟩
     exact ⟨.inr ⟨h1, fun e => hi (by rw [← h2, e])⟩, h2⟩
def leafF (h : Int) (x : KH) : Int := mixL h (mixL (hashL x.1) x.2)
def leafH (l : List KH) : Int := l.foldl leafF 0
theorem leaf_range (l : List KH) : 0 ≤ leafH l ∧ leafH l ≤ 18446744073709551615 := by
 have key : ∀ (l : List KH) (h : Int), 0 ≤ h ∧ h ≤ 18446744073709551615 → 0 ≤ l.foldl leafF h ∧ l.foldl leafF h ≤ 18446744073709551615 := by
   intro l
   induction l with
   | nil => exact fun h hh => hh
   | cons x r ih => exact fun h hh => ih _ (mix_range _ _)
 exact key l 0 (by omega)
def hashT (T : List KH) : Nat → Nat → Int
 | 0, p => leafH (partT T p)
 | d + 1, p => if hashT T d (2 * p) = 0 ∧ hashT T d (2 * p + 1) = 0 then 0 else mixL (hashT T d (2 * p)) (hashT T d (2 * p + 1))
theorem hashT_range (T : List KH) : ∀ d p, 0 ≤ hashT T d p ∧ hashT T d p ≤ 18446744073709551615
 | 0, p => leaf_range _
 | d + 1, p => by
   rw [hashT]
   split
   · omega
   · exact mix_range _ _
structure Sm where
 place : Int
 key : List UInt8
 hash : Int
deriving DecidableEq
abbrev Sm.enc (x : Sm) : List Value := [.int .i64 x.place, .string (bs x.key), .int .u64 x.hash]
theorem Sm.enc_len (x : Sm) : (Sm.enc x).length = 3 := rfl
theorem Sm.enc_one (x : Sm) : ∀ u ∈ Sm.enc x, u.oneCell' = true := fun u hu => by simp [Sm.enc] at hu; rcases hu with rfl | rfl | rfl <;> rfl
theorem Sm.mkEnc {p h : Int} {s : List UInt8} : [Value.int .i64 p, .string (bs s), .int .u64 h] = Sm.enc ⟨p, s, h⟩ := rfl
def smP (p : Int) (x : KH) : Sm := ⟨p, x.1, x.2⟩
def hashOk (l : List Sm) : Prop := ∀ x ∈ l, 0 ≤ x.hash ∧ x.hash ≤ 18446744073709551615
def setsT (T : List KH) (l : List Sm) : List KH := l.foldl (fun T x => if nameB x.key = true then setT x.key x.hash T else T) T
theorem sets_ok : ∀ (l : List Sm) {T : List KH}, hashOk l → KhOk T → KhOk (setsT T l)
 | [], _, _, h => h
 | x :: r, T, hl, h => by
   show KhOk (setsT (if nameB x.key = true then setT x.key x.hash T else T) r)
   refine sets_ok r (fun y hy => hl y (by simp [hy])) ?_
   split
   · rename_i hk
     exact setT_ok h hk (hl x (by simp))
   · exact h
theorem sets_len : ∀ (l : List Sm) (T : List KH), (setsT T l).length ≤ T.length + l.length
 | [], T => by simp [setsT]
 | x :: r, T => by
   have h1 := sets_len r (if nameB x.key = true then setT x.key x.hash T else T)
   have h2 : (if nameB x.key = true then setT x.key x.hash T else T).length ≤ T.length + 1 := by
     split
     · exact setT_len _ _ _
     · omega
   show (setsT (if nameB x.key = true then setT x.key x.hash T else T) r).length ≤ _
   rw [List.length_cons]
   omega
theorem sets_snoc {T : List KH} {l : List Sm} {i : Nat} {x : Sm} (h : l[i]? = some x) : setsT T (l.take (i + 1)) = if nameB x.key = true then setT x.key x.hash (setsT T (l.take i)) else setsT T (l.take i) := by
 unfold setsT
 rw [List.take_add_one, h, Option.toList_some, List.foldl_append]
 rfl
def okP (level deep : Int) (l : List Int) : Bool := decide (0 ≤ level) && decide (level ≤ deep) && l.all fun p => decide (0 ≤ p ∧ p < 2 ^ level.toNat)
def sumsT (T : List KH) (level : Int) (l : List Int) : List Sm := l.map fun p => ⟨p, [], hashT T (4 - level).toNat p.toNat⟩
def keysT (T : List KH) (l : List Int) : List Sm := l.flatMap fun p => (partT T p.toNat).map (smP p)
def unlikeT (T : List KH) (level : Int) (l : List Sm) : List Int := (l.filter fun s => decide (hashT T (4 - level).toNat s.place.toNat ≠ s.hash)).map (·.place)
def belowT (l : List Int) : List Int := l.flatMap fun p => [2 * p, 2 * p + 1]
end Go.Fw
namespace Go.Fw
open Go.RowKit Go.Maps Go.Sort Go.Proofs Go.Shelf Go.ChangeMaps Go.Proofs.Ytbijdmfilmecbaa
def smE (vv : Int → Value) (l : List (KH × Nat)) : List MapEntry := l.map fun p => ⟨.string (bs p.1.1), vv p.1.2, p.2⟩
abbrev smO (vv : Int → Value) (l : List (KH × Nat)) (c : Nat) : Obj := .map (smE vv l).toArray c
structure SmOk (l : List (KH × Nat)) (c : Nat) : Prop where
 keys : (l.map (·.1.1)).Nodup
 born : (l.map (·.2)).Nodup
 lt : ∀ p ∈ l, p.2 < c
def MapV (vv : Int → Value) (o : Obj) (f : List KH) : Prop := ∃ l c, o = smO vv l c ∧ SmOk l c ∧ ∀ x, x ∈ l.map (·.1) ↔ x ∈ f
abbrev MapC := MapV fun x => .int .u64 x
theorem mapV_nil {vv : Int → Value} : MapV vv (.map #[] 0) [] := ⟨[], 0, rfl, ⟨List.nodup_nil, List.nodup_nil, by simp⟩, by simp⟩
theorem mapC_nil : MapC (.map #[] 0) [] := ⟨[], 0, rfl, ⟨List.nodup_nil, List.nodup_nil, by simp⟩, by simp⟩
theorem mapC_congr {vv : Int → Value} {o : Obj} {f g : List KH} (h : MapV vv o f) (e : ∀ x, x ∈ f ↔ x ∈ g) : MapV vv o g := by
 obtain ⟨l, c, h1, h2, h3⟩ := h
 exact ⟨l, c, h1, h2, fun x => (h3 x).trans (e x)⟩
def sfind (k : List UInt8) : Nat → List (KH × Nat) → Option (Nat × Int)
 | _, [] => none
 | i, (x, _) :: r => if k = x.1 then some (i, x.2) else sfind k (i + 1) r
theorem sfind_some : ∀ {l : List (KH × Nat)} {k : List UInt8} {i j : Nat} {h : Int}, sfind k i l = some (j, h) → i ≤ j ∧ ∃ b, l[j - i]? = some ((k, h), b)
 | [], _, _, _, _, e => by simp [sfind] at e
 | ((x, u), b) :: r, k, i, j, h, e => by
   unfold sfind at e
   split at e
   · rename_i hk
     simp only [Option.some.injEq, Prod.mk.injEq] at e
     obtain ⟨rfl, rfl⟩ := e
     dsimp only at hk
     subst hk
     exact ⟨Nat.le_refl _, b, by simp⟩
   · obtain ⟨h1, b', h2⟩ := sfind_some e
     refine ⟨by omega, b', ?_⟩
     rw [show j - i = (j - (i + 1)) + 1 by omega]
     simpa using h2
theorem sfind_none : ∀ {l : List (KH × Nat)} {k : List UInt8} {i : Nat}, sfind k i l = none → ∀ p ∈ l, p.1.1 ≠ k
 | [], _, _, _ => by simp
 | ((x, u), b) :: r, k, i, e => by
   unfold sfind at e
   split at e
   · cases e
   · rename_i hk
     intro p hp
     rcases List.mem_cons.1 hp with rfl | hp
     · exact fun h => hk h.symm
     · exact sfind_none e p hp
theorem bs_beq (k x : List UInt8) : (bs k == bs x) = decide (k = x) := by
 have : (bs k == bs x) = (k.toArray == x.toArray) := rfl
 rw [this, Bool.eq_iff_iff, decide_eq_true_eq]
 simp
theorem find_now (vv : Int → Value) (k : List UInt8) : ∀ (l : List (KH × Nat)) (i : Nat), Instr.findNow .string (.string (bs k)) (smE vv l) i = some ((sfind k i l).map fun p => (p.1, vv p.2))
 | [], i => rfl
 | ((x, u), b) :: r, i => by
   have ih := find_now vv k r (i + 1)
   unfold smE at ih ⊢
   rw [List.map_cons, Instr.findNow, Instr.sameNow, bs_beq]
   unfold sfind
   by_cases e : k = x
   · rw [decide_eq_true e, if_pos e]; rfl
   · rw [decide_eq_false e, if_neg e]; exact ih
section
variable {P : Program} {kt et t : TypeId} {vv : Int → Value}
theorem find_S (h : P.underlying kt = some .string) (k : List UInt8) (l : List (KH × Nat)) (w : World) : (Instr.findKey kt (.string (bs k)) (smE vv l)).run P w = .ok ((sfind k 0 l).map fun p => (p.1, vv p.2)) w := by
 simp [Instr.findKey, run_underlying h, find_now vv k l 0]
theorem check_S (h : P.underlying kt = some .string) (b : Bool) (k : List UInt8) (w : World) : (Instr.checkKey b 10000 kt (.string (bs k))).run P w = .ok () w := by
 have hc : ∀ m, (Instr.checkKey b (m + 1) kt (.string (bs k))).run P w = .ok () w := fun m => by
   simp only [Instr.checkKey, Sem.run_bind, run_underlying h, Result.andThen_ok]
   rfl
 exact hc 9999
theorem same_S (k : List UInt8) : Instr.sameBits 10000 (.string (bs k)) (.string (bs k)) = true := by
 show (bs k == bs k) = true
 rw [bs_beq, decide_eq_true rfl]
structure SmV (vv : Int → Value) (P : Program) (t : TypeId) : Prop where
 ty : ∃ kt et, P.underlying t = some (.map kt et) ∧ P.underlying kt = some .string ∧ ∀ w, (zeroValue et).run P w = .ok (vv 0) w
theorem smE_get (vv : Int → Value) (l : List (KH × Nat)) (j : Nat) : (smE vv l)[j]? = (l[j]?).map fun p => ⟨.string (bs p.1.1), vv p.1.2, p.2⟩ := by unfold smE; rw [List.getElem?_map]
abbrev SmT := SmV fun x => .int .u64 x
theorem run_updS {g : Nat} {o : Obj} {f f' : List KH} {k : List UInt8} {h : Int} {w : World} (T : SmV vv P t) (hb : w.heap[g]? = some o) (hC : MapV vv o f) (hf : ∀ x, x ∈ f' ↔ x = (k, h) ∨ (x ∈ f ∧ x.1 ≠ k)) :
   ∃ o', MapV vv o' f' ∧ (Instr.mapUpdate t (.map (some g)) (.string (bs k)) (vv h)).run P w = .ok () (setBlock w g o') := by
 obtain ⟨kt, et, ht, hk, hz⟩ := T.ty
 obtain ⟨l, c, rfl, ok, hm⟩ := hC
 have hset : ∀ o, (setObj g o).run P w = .ok () (setBlock w g o) := fun o => MapKept.run_setObj_map o hb
 cases hs : sfind k 0 l with
 | none =>
   have hne := sfind_none hs
   refine ⟨smO vv (l ++ [((k, h), c)]) (c + 1), ⟨_, _, rfl, ⟨?_, ?_, ?_⟩, fun x => ?_⟩, ?_⟩
   · rw [List.map_append, List.nodup_append]
     refine ⟨ok.keys, by simp, fun a ha b hb' => ?_⟩
     obtain ⟨p, hp, rfl⟩ := List.mem_map.1 ha
     simp at hb'
     subst hb'
     exact hne p hp
   · rw [List.map_append, List.nodup_append]
     refine ⟨ok.born, by simp, fun a ha b hb' => ?_⟩
     obtain ⟨p, hp, rfl⟩ := List.mem_map.1 ha
     simp at hb'
     subst hb'
     have := ok.lt p hp
     omega
   · intro p hp
     rcases List.mem_append.1 hp with hp | hp
     · have := ok.lt p hp; omega
     · simp at hp; subst hp; simp
   · rw [hf, List.map_append, List.mem_append, hm]
     constructor
     · rintro (hx | hx)
       · refine .inr ⟨hx, fun e => ?_⟩
         obtain ⟨p, hp, rfl⟩ := List.mem_map.1 ((hm x).2 hx)
         exact hne p hp e
       · simp at hx; exact .inl hx
     · rintro (rfl | ⟨hx, _⟩)
       · exact .inr (by simp)
       · exact .inl hx
   · simp only [Instr.mapUpdate, Sem.run_bind, run_underlying ht, Result.andThen_ok, MapKept.run_getObj_map hb, check_S hk, find_S hk, hs, Option.map_none, hset]
     congr 2
     simp [smO, smE]
 | some q =>
   obtain ⟨j, u⟩ := q
   obtain ⟨_, b, hj⟩ := sfind_some hs
   simp only [Nat.sub_zero] at hj
   have hjl : j < l.length := (List.getElem?_eq_some_iff.1 hj).1
   have he : (smE vv l)[j]? = some ⟨.string (bs k), vv u, b⟩ := by rw [smE_get, hj]; rfl
   have hk1 : (l.set j ((k, h), b)).map (·.1.1) = l.map (·.1.1) := by
     apply List.ext_getElem?
     intro i
     rw [List.getElem?_map, List.getElem?_map, List.getElem?_set]
     by_cases e : j = i
     · subst e; rw [if_pos rfl, if_pos hjl, hj]; rfl
     · rw [if_neg e]
   have hk2 : (l.set j ((k, h), b)).map (·.2) = l.map (·.2) := by
     apply List.ext_getElem?
     intro i
     rw [List.getElem?_map, List.getElem?_map, List.getElem?_set]
     by_cases e : j = i
     · subst e; rw [if_pos rfl, if_pos hjl, hj]; rfl
     · rw [if_neg e]
   have huniq : ∀ i p, l[i]? = some p → p.1.1 = k → i = j := fun i p hi hp => by
     have h1 : (l.map (·.1.1))[i]? = some k := by rw [List.getElem?_map, hi]; simp [hp]
     have h2 : (l.map (·.1.1))[j]? = some k := by rw [List.getElem?_map, hj]; rfl
     have hil : i < (l.map (·.1.1)).length := (List.getElem?_eq_some_iff.1 h1).1
     exact (List.getElem?_inj hil ok.keys).1 (h1.trans h2.symm)
   refine ⟨smO vv (l.set j ((k, h), b)) c, ⟨_, _, rfl, ⟨by rw [hk1]; exact ok.keys, by rw [hk2]; exact ok.born, fun p hp => ?_⟩, fun x => ?_⟩, ?_⟩
   · obtain ⟨i, hi⟩ := List.mem_iff_getElem?.1 hp
     rw [List.getElem?_set] at hi
     split at hi
     · simp [hjl] at hi
       subst hi
       show b < c
       exact ok.lt ((k, u), b) (List.mem_of_getElem? hj)
     · exact ok.lt p (List.mem_of_getElem? hi)
   · rw [hf]
     constructor
     · intro hx
       obtain ⟨p, hp, rfl⟩ := List.mem_map.1 hx
       obtain ⟨i, hi⟩ := List.mem_iff_getElem?.1 hp
       rw [List.getElem?_set] at hi
       split at hi
       · simp [hjl] at hi
         subst hi
         exact .inl rfl
       · rename_i hne
         exact .inr ⟨(hm _).1 (List.mem_map.2 ⟨p, List.mem_of_getElem? hi, rfl⟩), fun e => hne (huniq i p hi e).symm⟩
     · rintro (rfl | ⟨hx, hne⟩)
       · exact List.mem_map.2 ⟨((k, h), b), List.mem_of_getElem? (i := j) (by rw [List.getElem?_set, if_pos rfl, if_pos hjl]), rfl⟩
       · obtain ⟨p, hp, rfl⟩ := List.mem_map.1 ((hm x).2 hx)
         obtain ⟨i, hi⟩ := List.mem_iff_getElem?.1 hp
         refine List.mem_map.2 ⟨p, List.mem_of_getElem? (i := i) ?_, rfl⟩
         rw [List.getElem?_set, if_neg (fun e => ?_)]
         · exact hi
         · subst e
           rw [hj] at hi
           simp at hi
           subst hi
           exact hne rfl
   · simp only [Instr.mapUpdate, Sem.run_bind, run_underlying ht, Result.andThen_ok, MapKept.run_getObj_map hb, check_S hk, find_S hk, hs, Option.map_some, Instr.keyThatStays, List.getElem?_toArray, he, Option.getD_some, same_S, if_true, Sem.run_pure, hset]
     congr 2
     simp only [smO]
     congr 1
     apply Array.toList_inj.1
     rw [Array.toList_modify]
     apply List.ext_getElem?
     intro i
     rw [List.getElem?_modify, smE_get vv l, smE_get vv (l.set _ _), List.getElem?_set]
     by_cases e : j = i
     · subst e
       rw [if_pos rfl, if_pos hjl, hj]
       simp
     · rw [if_neg e]
       simp [e]
theorem run_lookS {g : Nat} {o : Obj} {f : List KH} {k : List UInt8} {ok : Bool} {w : World} {r : Option Int} (T : SmV vv P t) (hb : w.heap[g]? = some o) (hC : MapV vv o f) (hr : match r with | some h => (k, h) ∈ f | none => ∀ x ∈ f, x.1 ≠ k) :
   (Instr.lookup t (.map (some g)) (.string (bs k)) ok).run P w = .ok (if ok then .tuple #[vv (r.getD 0), .bool r.isSome] else vv (r.getD 0)) w := by
 obtain ⟨kt, et, ht, hk, hz⟩ := T.ty
 obtain ⟨l, c, rfl, okl, hm⟩ := hC
 have hs : (sfind k 0 l).map (·.2) = r := by
   cases hs : sfind k 0 l with
   | none =>
     have hne := sfind_none hs
     cases r with
     | none => rfl
     | some h =>
       obtain ⟨p, hp, e⟩ := List.mem_map.1 ((hm _).2 hr)
       exact absurd (by rw [e]) (hne p hp)
   | some q =>
     obtain ⟨j, u⟩ := q
     obtain ⟨_, b, hj⟩ := sfind_some hs
     simp only [Nat.sub_zero] at hj
     cases r with
     | none => exact absurd rfl (hr (k, u) ((hm _).1 (List.mem_map.2 ⟨_, List.mem_of_getElem? hj, rfl⟩)))
     | some h =>
       obtain ⟨p, hp, e⟩ := List.mem_map.1 ((hm _).2 hr)
       obtain ⟨i, hi⟩ := List.mem_iff_getElem?.1 hp
       have h1 : (l.map (·.1.1))[i]? = some k := by rw [List.getElem?_map, hi]; simp [e]
       have h2 : (l.map (·.1.1))[j]? = some k := by rw [List.getElem?_map, hj]; rfl
       have hil : i < (l.map (·.1.1)).length := (List.getElem?_eq_some_iff.1 h1).1
       have hij := (List.getElem?_inj hil okl.keys).1 (h1.trans h2.symm)
       subst hij
       rw [hj] at hi
       simp at hi
       subst hi
       simp at e
       simp [e]
 simp only [Instr.lookup, Sem.run_bind, run_underlying ht, Result.andThen_ok, MapKept.run_getObj_map hb, check_S hk, find_S hk, Sem.run_pure]
 cases h : sfind k 0 l with
 | none =>
   rw [h] at hs
   subst hs
   cases ok <;> simp [hz]
 | some q =>
   rw [h] at hs
   subst hs
   cases ok <;> simp
end
section
variable {vv : Int → Value} {P : Program} {n : Nat} {w0 : World} {K : KL} {L : List Chunk} {ty : TypeId} {pos : String} {aft : Array Edge} {gd : Option (Nat × Bool)} {a : Act} {w : World} {Z : Act → World → Prop} {Q : Exit → Act → World → Prop} {d : Nat} {dst : Option Tmp} {b : Bool} {t : TypeId}
theorem op_updS {j g : Nat} {o : Obj} {f : List KH} {k : List UInt8} {h : Int} {x y u : Operand} (f' : List KH) (S : St n w0 K L a w) (T : SmV vv P t) (hx : Ev n true K x (.map (some g))) (hy : Ev n true K y (.string (bs k))) (hu : Ev n true K u (vv h)) (hk : L[j]? = some (.blk g o)) (hC : MapV vv o f) (hf : ∀ x, x ∈ f' ↔ x = (k, h) ∨ (x ∈ f ∧ x.1 ≠ k))
   (next : ∀ o', MapV vv o' f' → ∀ a w, St n w0 K (L.set j (.blk g o')) a w → Z a w) : Oper.wp P ⟨none, .mapUpdate t x y u, ty, pos, aft, gd⟩ a w Z Q := by
 obtain ⟨o', hC', h⟩ := run_updS (h := h) T (S.wd.get hk).2 hC hf
 refine run_wp0 (w' := setBlock w g o') ?_ (next o' hC' _ _ ⟨S.kn, S.wd.setBlk hk⟩)
 simp only [execOp, hx a rfl S.kn, hy a rfl S.kn, hu a rfl S.kn]
 simp [h]
theorem ys_lookS {j g : Nat} {o : Obj} {f : List KH} {k : List UInt8} {r : Option Int} {x y : Operand} (T : SmV vv P t) (hx : Ev n b K x (.map (some g))) (hy : Ev n b K y (.string (bs k))) (hk : L[j]? = some (.blk g o)) (hC : MapV vv o f) (hr : match r with | some h => (k, h) ∈ f | none => ∀ x ∈ f, x.1 ≠ k) :
   Yr P ⟨dst, .lookup t x y true, ty, pos, aft, gd⟩ n K w0 L b (.tuple #[vv (r.getD 0), .bool r.isSome]) := fun a w hb hkn hw => by
 have h := run_lookS (ok := true) T (hw.get hk).2 hC hr
 simp only [execOp, hx a hb hkn, hy a hb hkn]
 simp [h]
theorem ys_lookSO {g : Nat} {o : Obj} {f : List KH} {k : List UInt8} {h : Int} {x y : Operand} (T : SmV vv P t) (hx : Ev n b K x (.map (some g))) (hy : Ev n b K y (.string (bs k))) (hk : w0.heap[g]? = some o) (hC : MapV vv o f) (hr : (k, h) ∈ f) :
   Yr P ⟨dst, .lookup t x y false, ty, pos, aft, gd⟩ n K w0 L b (vv h) := fun a w hb hkn hw => by
 have hlt := (Array.getElem?_eq_some_iff.1 hk).1
 have h := run_lookS (ok := false) (r := some h) T ((hw.below.block g hlt).trans hk) hC hr
 simp only [execOp, hx a hb hkn, hy a hb hkn]
 simp [h]
end
end Go.Fw
namespace Go.Fw
open Go.RowKit Go.Maps Go.Sort Go.Proofs Go.Shelf Go.ChangeMaps Go.Proofs.Ytbijdmfilmecbaa
def encS' (x : List UInt8) : List Value := [.string (bs x)]
theorem le_less (a b : List UInt8) : a ≤ b ↔ Op.bytesLess b a = false := by
 have key : ∀ a b : List UInt8, Op.bytesLess a b = true ↔ a < b := by
   intro a
   induction a with
   | nil => intro b; cases b <;> simp [Op.bytesLess]
   | cons x r ih =>
     intro b
     cases b with
     | nil => simp [less_nil]
     | cons y s => rw [less_cons, ih s, List.cons_lt_cons_iff]
 rw [← List.not_lt, ← key b a, Bool.not_eq_true]
theorem nodup_mapS {l : List (List UInt8)} (h : l.Nodup) : (l.map fun x => Value.string (bs x)).Nodup := by
 refine (List.pairwise_map.2 (h.imp fun hne e => ?_))
 simp only [Value.string.injEq] at e
 exact hne (bs_inj.1 e)
theorem nodup_of {α β : Type} (f : α → β) {l : List α} (h : (l.map f).Nodup) : l.Nodup := by
 unfold List.Nodup at h ⊢
 rw [List.pairwise_map] at h
 exact h.imp fun hne e => hne (congrArg f e)
theorem sm_clock {l : List (KH × Nat)} {c : Nat} (ok : SmOk l c) : l.length ≤ c := by
 have h := ok.born.length_le_of_subset (l₂ := List.range c) fun x hx => by
   obtain ⟨p, hp, rfl⟩ := List.mem_map.1 hx
   exact List.mem_range.2 (ok.lt p hp)
 rwa [List.length_map, List.length_range] at h
theorem owns_smO {vv : Int → Value} {P : Program} {kt : TypeId} (hk : P.underlying kt = some .string) {l : List (KH × Nat)} {c : Nat} {w : World} {b : Nat} (ok : SmOk l c) (hs : ∀ p ∈ l, p.1.1.length ≤ maxLen) (hl : l.length ≤ maxLen) (hb : w.heap[b]? = some (smO vv l c)) :
   ∃ D : DataW Unit, w.ownsMap P kt (fun _ => some (.lit (.bool true), [])) b c D ∧ Maps.size D = l.length ∧ (strKeys D).Perm (l.map (·.1.1)) := by
 have hrd : ∀ (l : List (KH × Nat)), (∀ p ∈ l, p.1.1.length ≤ maxLen) → (smE vv l).map (Go.WideElems.rg (H := Unit) P kt fun _ => some (.lit (.bool true), [])) = l.map fun p => (Lit.string p.1.1, DataW.lit (.bool true)) := by
   intro l
   induction l with
   | nil => intro _; rfl
   | cons p r ih =>
     intro h
     have hx := h p (by simp)
     unfold smE at ih ⊢
     simp only [List.map_cons]
     rw [ih fun q hq => h q (by simp [hq])]
     congr 1
     have := Go.WideMaps.keyOf_string_mk (P := P) hk (s := bs p.1.1) (by rw [bs_size]; exact hx)
     simp [Go.WideElems.rg, Go.WideElems.rd, this]
 have hD := Go.WideShapes.sorted_perm ((smE vv l).map (Go.WideElems.rg (H := Unit) P kt fun _ => some (.lit (.bool true), [])))
 refine ⟨.map (((smE vv l).map (Go.WideElems.rg (H := Unit) P kt fun _ => some (.lit (.bool true), []))).foldr DataW.insert []), ⟨_, _, hb, ⟨by simp [smE]; exact hl, ⟨?_, ?_, ?_⟩, ?_⟩, by simp [smE]; exact sm_clock ok, rfl⟩, ?_, ?_⟩
 · intro x hx
   have hx' : x ∈ smE vv l := hx
   unfold smE at hx'
   obtain ⟨p, hp, rfl⟩ := List.mem_map.1 hx'
   exact ok.lt p hp
 · show ((smE vv l).map (·.born)).Nodup
   unfold smE
   rw [List.map_map]
   exact ok.born
 · show ((smE vv l).map (·.key)).Nodup
   unfold smE
   rw [List.map_map]
   have := nodup_mapS ok.keys
   rw [List.map_map] at this
   exact this
 · intro x hx
   have hx' : x ∈ smE vv l := hx
   unfold smE at hx'
   obtain ⟨p, hp, rfl⟩ := List.mem_map.1 hx'
   exact ⟨_, by simp only [Go.WideElems.rd, Go.WideMaps.keyOf_string_mk (P := P) hk (s := bs p.1.1) (by rw [bs_size]; exact hs p hp)]; rfl⟩
 · show List.length _ = _
   rw [hD.length_eq, List.length_map]
   unfold smE
   rw [List.length_map]
 · show (List.map _ _).Perm _
   refine (hD.map _).trans ?_
   rw [hrd l hs, List.map_map]
   exact List.Perm.of_eq rfl
theorem sorted_keysS {vv : Int → Value} {P : Program} {ρk ρs : Ren} (LK : SlLaysZ.n10 P ρk) (LS : SlLaysZ.n6 P ρs) (hsort : AnyZ.SortsIn P ρs Fence.wide 5) (e9 : ∀ args w, (callFunc (ρs.f 9) args).run P w = .ok (.enter (ρs.f 9) args) w) (eK : ∀ args w, (callFunc (ρk.f 10) args).run P w = .ok (.enter (ρk.f 10) args) w)
   {f : List KH} {o : Obj} {w0 w : World} {L : List Chunk} {g b : Nat} {te : TypeId} {fr : Nat × Nat} (W : Wd w0 (.blk g (.cells #[.map (some b)] te fr) :: L) w) (hk : P.underlying (ρk.t 26) = some .string)
   (hb : w.heap[b]? = some o) (hC : MapV vv o f) (hf : f.Pairwise ltK) (hs : ∀ x ∈ f, x.1.length ≤ 1048576) (hl : f.length ≤ 4194304) :
   RetsO P (ρs.f 6) #[.func (.func (ρk.f 10)) #[] #[.pointer (some ⟨g, 0, none⟩)]] w0 w fun v L' => ∃ A cap, v = .slice A f.length cap ∧ L' = rowOf (ρs.t 26) 1 encS' A cap (f.map (·.1)) :: .blk g (.cells #[.map (some b)] te fr) :: L := by
 obtain ⟨l, c, rfl, ok, hm⟩ := hC
 have hfn : (f.map (·.1)).Nodup := by
   refine List.pairwise_map.2 (hf.imp fun h => less_ne h)
 have hpf : (l.map (·.1)).Perm f := (List.perm_ext_iff_of_nodup (nodup_of (fun x : KH => x.1) (by rw [List.map_map]; exact ok.keys)) (nodup_of (fun x : KH => x.1) hfn)).2 hm
 have hlen : l.length = f.length := by have := hpf.length_eq; rwa [List.length_map] at this
 have hg := (W.get (k := 0) rfl).2
 have hgl := (Array.getElem?_eq_some_iff.1 hg).1
 obtain ⟨D, hown, hsz, hperm⟩ := owns_smO (P := P) (kt := ρk.t 26) hk ok (fun p hp => by
   have := hs p.1 ((hm _).1 (List.mem_map.2 ⟨p, hp, rfl⟩))
   simp only [maxLen]; omega) (by simp only [maxLen]; omega) hb
 have hseq : SeqGives Fence.wide 3 P (ρk.f 10) #[.pointer (some ⟨g, 0, none⟩)] encStr (fun ss => ss.Perm (strKeys D)) (Maps.size D) w :=
   AnyZ.keys_gives LK Fence.wide _ trivial rfl (by omega) g b _ D w hgl (by rw [cell_of_row w g 0 _ te fr hg]; rfl) hown
 have cS := AnyZ.sorted_in LS Fence.wide 6 trivial trivial trivial trivial rfl (by omega) hsort e9 (ρk.f 10) #[.pointer (some ⟨g, 0, none⟩)] trivial eK _ _ (by rw [hsz]; simp only [maxLen]; omega) (by rw [hsz]; omega) w hseq
 refine (callsIn_wide.1 cS).mono fun e w' ⟨v, ss, he, hS, hrow, hnil, hbel⟩ => ?_
 have hp : (ss.mergeSort fun x y => decide (x ≤ y)).Perm (f.map (·.1)) := (List.mergeSort_perm _ _).trans (hS.trans (hperm.trans (by
   have := hpf.map (fun x : KH => x.1)
   rwa [List.map_map] at this)))
 have hss : (ss.mergeSort fun x y => decide (x ≤ y)) = f.map (·.1) := by
   have h1 : (ss.mergeSort fun x y => decide (x ≤ y)).Pairwise (fun a b => decide (a ≤ b) = true) := List.pairwise_mergeSort (fun a b c h1 h2 => by
     rw [decide_eq_true_eq] at *
     exact List.le_trans h1 h2) (fun a b => by
     rw [Bool.or_eq_true, decide_eq_true_eq, decide_eq_true_eq]
     exact List.le_total a b) ss
   have h2 : (ss.mergeSort fun x y => decide (x ≤ y)).Nodup := hp.nodup_iff.2 hfn
   have h3 : (ss.mergeSort fun x y => decide (x ≤ y)).Pairwise (fun a b => Op.bytesLess a b = true) := (h1.and h2).imp fun {a b} ⟨h4, h5⟩ => by
     rw [decide_eq_true_eq, le_less] at h4
     exact (Xt h5).resolve_right (by rw [h4]; simp)
   refine Xm (R := fun a b => Op.bytesLess a b = true) (fun a => by rw [Xi]; simp) (fun a b h => by rw [Xd h]; simp) h3 (List.pairwise_map.2 hf) fun x => hp.mem_iff
 have hsl : ss.length = f.length := by
   have := hp.length_eq
   rwa [(List.mergeSort_perm _ _).length_eq, List.length_map] at this
 have hfl : (f.map (·.1)).flatMap encS' = (f.map (·.1)).map encStr := by
   generalize f.map (·.1) = q
   induction q with
   | nil => rfl
   | cons a r ih => rw [List.flatMap_cons, ih]; rfl
 obtain ⟨h1, h2⟩ := hrow
 rw [hss] at h1 h2
 rcases h2 with ⟨rfl, h0⟩ | ⟨gr, cap, cur, rfl, h3, h4, h5, h6, h7, h8⟩
 · have hf0 : f = [] := List.eq_nil_of_length_eq_zero (by omega)
   subst hf0
   exact ⟨_, _, he, W.more (Bel.of hbel) (c := rowOf (ρs.t 26) 1 encS' none 0 []) ⟨rfl, .inl ⟨rfl, rfl⟩⟩, none, 0, rfl, rfl⟩
 · refine ⟨_, _, he, W.more (Bel.of hbel) (c := rowOf (ρs.t 26) 1 encS' (some ⟨gr, 0, none⟩) cap (f.map (·.1))) ⟨by rw [hfl, List.length_map, List.length_map]; simp, .inr ⟨gr, cur, rfl, ?_, h3, h4, by rw [List.length_map]; omega, h6, h7, by rw [hfl, List.length_map, ← hsl, h8]⟩⟩, _, _, by rw [hsl], rfl⟩
   have hne : ss ≠ [] := fun e => by have := hnil.2 e; cases this
   have := List.length_pos_iff.2 hne
   omega
end Go.Fw
namespace Go.Proofs
open Go.Shelf
def Try.keysS_ren : Go.Shelf.Ren := ⟨fun | 7 => 77 | 10 => 101 | n => n, fun | 23 => 80 | 26 => 9 | 3 => 23 | 28 => 95 | 0 => 0 | 27 => 94 | 33 => 39 | 4 => 4 | n => n, fun | n => n⟩
theorem Try.keysS : Go.Proofs.SlLaysZ.n7 Try.prog Try.keysS_ren := {
 mixed := by kernel_rfl
 f7 := ⟨Try.f77.name, by decide, Try.func77.trans (congrArg some (by kernel_rfl))⟩
 f10 := ⟨Try.f101.name, by decide, Try.func101.trans (congrArg some (by kernel_rfl))⟩
 t0 := Try.underlying0
 a0 := Try.isAgg0
 z0 := Try.sizeOf0
 v0 := Try.zeroValue0
 t4 := Try.underlying4
 a4 := Try.isAgg4
 z4 := Try.sizeOf4
 v4 := Try.zeroValue4
 t23 := Try.underlying80
 a23 := Try.isAgg80
 z23 := Try.sizeOf80
 v23 := Try.zeroValue80
 t26 := Try.underlying9
 a26 := Try.isAgg9
 z26 := Try.sizeOf9
 v26 := Try.zeroValue9
 t27 := Try.underlying94
 a27 := Try.isAgg94
 z27 := Try.sizeOf94
 v27 := Try.zeroValue94
 t28 := Try.underlying95
 a28 := Try.isAgg95
 z28 := Try.sizeOf95
 v28 := Try.zeroValue95
 t33 := Try.underlying39
 a33 := Try.isAgg39
 z33 := Try.sizeOf39
 v33 := Try.zeroValue39 }
def Try.sortedS_ren : Go.Shelf.Ren := ⟨fun | 6 => 60 | 8 => 79 | 9 => 43 | 11 => 102 | 13 => 69 | 12 => 68 | 23 => 95 | 24 => 96 | 14 => 86 | 15 => 87 | 16 => 88 | 17 => 89 | 18 => 90 | 19 => 91 | 20 => 92 | 21 => 93 | 22 => 94 | 25 => 105 | 26 => 106 | 27 => 107 | 28 => 108 | 29 => 109 | 30 => 110 | 31 => 111 | n => n, fun | 26 => 9 | 28 => 95 | 24 => 61 | 0 => 0 | 3 => 3 | 37 => 119 | 48 => 145 | 50 => 23 | 4 => 4 | 40 => 137 | 39 => 136 | 45 => 142 | 5 => 5 | 9 => 9 | 51 => 155 | 55 => 158 | 57 => 161 | 58 => 162 | 33 => 39 | n => n, fun | n => n⟩
theorem Try.sortedS : Go.Proofs.SlLaysZ.n6 Try.prog Try.sortedS_ren := {
 mixed := by kernel_rfl
 f6 := ⟨Try.f60.name, by decide, Try.func60.trans (congrArg some (by kernel_rfl))⟩
 f8 := ⟨Try.f79.name, by decide, Try.func79.trans (congrArg some (by kernel_rfl))⟩
 f11 := ⟨Try.f102.name, by decide, Try.func102.trans (congrArg some (by kernel_rfl))⟩
 t0 := Try.underlying0
 a0 := Try.isAgg0
 z0 := Try.sizeOf0
 v0 := Try.zeroValue0
 t24 := Try.underlying61
 a24 := Try.isAgg61
 z24 := Try.sizeOf61
 v24 := Try.zeroValue61
 t26 := Try.underlying9
 a26 := Try.isAgg9
 z26 := Try.sizeOf9
 v26 := Try.zeroValue9
 t28 := Try.underlying95
 a28 := Try.isAgg95
 z28 := Try.sizeOf95
 v28 := Try.zeroValue95
 i26 := by kernel_rfl }
def Try.sortS_ren : Go.Shelf.Ren := ⟨fun | 6 => 43 | 8 => 69 | 9 => 68 | 19 => 95 | 20 => 96 | 21 => 86 | 22 => 87 | 23 => 88 | 24 => 89 | 25 => 90 | 26 => 91 | 27 => 92 | 28 => 93 | 29 => 94 | 36 => 105 | 31 => 106 | 32 => 107 | 37 => 108 | 38 => 109 | 39 => 110 | 41 => 111 | n => n, fun | 27 => 61 | 29 => 9 | 3 => 3 | 32 => 119 | 26 => 61 | 0 => 0 | 44 => 145 | 46 => 23 | 4 => 4 | 36 => 137 | 35 => 136 | 41 => 142 | 5 => 5 | 9 => 9 | 53 => 155 | 57 => 158 | 63 => 161 | 64 => 162 | n => n, fun | n => n⟩
theorem Try.sortS : Go.Proofs.SlLaysM.n6 Try.prog Try.sortS_ren := {
 mixed := by kernel_rfl
 f6 := ⟨Try.f43.name, by decide, Try.func43.trans (congrArg some (by kernel_rfl))⟩
 f8 := Try.func69.trans (congrArg some (by kernel_rfl))
 f9 := ⟨Try.f68.name, by decide, Try.func68.trans (congrArg some (by kernel_rfl))⟩
 f19 := Try.func95.trans (congrArg some (by kernel_rfl))
 f20 := Try.func96.trans (congrArg some (by kernel_rfl))
 f21 := ⟨Try.f86.name, by decide, Try.func86.trans (congrArg some (by kernel_rfl))⟩
 f22 := ⟨Try.f87.name, by decide, Try.func87.trans (congrArg some (by kernel_rfl))⟩
 f23 := ⟨Try.f88.name, by decide, Try.func88.trans (congrArg some (by kernel_rfl))⟩
 f24 := ⟨Try.f89.name, by decide, Try.func89.trans (congrArg some (by kernel_rfl))⟩
 f25 := ⟨Try.f90.name, by decide, Try.func90.trans (congrArg some (by kernel_rfl))⟩
 f26 := ⟨Try.f91.name, by decide, Try.func91.trans (congrArg some (by kernel_rfl))⟩
 f27 := ⟨Try.f92.name, by decide, Try.func92.trans (congrArg some (by kernel_rfl))⟩
 f28 := ⟨Try.f93.name, by decide, Try.func93.trans (congrArg some (by kernel_rfl))⟩
 f29 := ⟨Try.f94.name, by decide, Try.func94.trans (congrArg some (by kernel_rfl))⟩
 f31 := Try.func106.trans (congrArg some (by kernel_rfl))
 f32 := Try.func107.trans (congrArg some (by kernel_rfl))
 f36 := ⟨Try.f105.name, by decide, Try.func105.trans (congrArg some (by kernel_rfl))⟩
 f37 := ⟨Try.f108.name, by decide, Try.func108.trans (congrArg some (by kernel_rfl))⟩
 f38 := ⟨Try.f109.name, by decide, Try.func109.trans (congrArg some (by kernel_rfl))⟩
 f39 := ⟨Try.f110.name, by decide, Try.func110.trans (congrArg some (by kernel_rfl))⟩
 f41 := ⟨Try.f111.name, by decide, Try.func111.trans (congrArg some (by kernel_rfl))⟩
 t0 := Try.underlying0
 a0 := Try.isAgg0
 z0 := Try.sizeOf0
 v0 := Try.zeroValue0
 t3 := Try.underlying3
 a3 := Try.isAgg3
 z3 := Try.sizeOf3
 v3 := Try.zeroValue3
 t4 := Try.underlying4
 a4 := Try.isAgg4
 z4 := Try.sizeOf4
 v4 := Try.zeroValue4
 t5 := Try.underlying5
 a5 := Try.isAgg5
 z5 := Try.sizeOf5
 v5 := Try.zeroValue5
 t9 := Try.underlying9
 a9 := Try.isAgg9
 z9 := Try.sizeOf9
 v9 := Try.zeroValue9
 t26 := Try.underlying61
 a26 := Try.isAgg61
 z26 := Try.sizeOf61
 v26 := Try.zeroValue61
 t27 := Try.underlying61
 a27 := Try.isAgg61
 z27 := Try.sizeOf61
 v27 := Try.zeroValue61
 t29 := Try.underlying9
 a29 := Try.isAgg9
 z29 := Try.sizeOf9
 v29 := Try.zeroValue9
 t32 := Try.underlying119
 a32 := Try.isAgg119
 z32 := Try.sizeOf119
 v32 := Try.zeroValue119
 t35 := Try.underlying136
 a35 := Try.isAgg136
 z35 := Try.sizeOf136
 v35 := Try.zeroValue136
 t36 := Try.underlying137
 a36 := Try.isAgg137
 z36 := Try.sizeOf137
 v36 := Try.zeroValue137
 t41 := Try.underlying142
 a41 := Try.isAgg142
 z41 := Try.sizeOf142
 v41 := Try.zeroValue142
 t44 := Try.underlying145
 a44 := Try.isAgg145
 z44 := Try.sizeOf145
 v44 := Try.zeroValue145
 t46 := Try.underlying23
 a46 := Try.isAgg23
 z46 := Try.sizeOf23
 v46 := Try.zeroValue23
 t53 := Try.underlying155
 a53 := Try.isAgg155
 z53 := Try.sizeOf155
 v53 := Try.zeroValue155
 t57 := Try.underlying158
 a57 := Try.isAgg158
 z57 := Try.sizeOf158
 v57 := Try.zeroValue158
 t63 := Try.underlying161
 a63 := Try.isAgg161
 z63 := Try.sizeOf161
 v63 := Try.zeroValue161
 t64 := Try.underlying162
 a64 := Try.isAgg162
 z64 := Try.sizeOf162
 v64 := Try.zeroValue162 }
end Go.Proofs
namespace Go.Proofs.Ytbijdmfilmecbaa
open Go.Fw Go.Proofs Go.RowKit Go.Proofs.Try
set_option linter.unusedVariables false
set_option linter.unusedSimpArgs false
set_option maxRecDepth 100000
theorem inf3 : InfoT Try.prog 3 (Value.int .i64 0) 1 8 := by unfold InfoT; kernel_rfl
theorem inf5 : InfoT Try.prog 5 (Value.int .u8 0) 1 1 := by unfold InfoT; kernel_rfl
theorem inf9 : InfoT Try.prog 9 (Value.string ⟨#[]⟩) 1 16 := by unfold InfoT; kernel_rfl
theorem bld28 : BuildT Try.prog 28 [Value.int .i64 0, Value.string ⟨#[]⟩, Value.int .u64 0] [(0, 1), (1, 1), (2, 1)] := ⟨⟨_, zeroValue28, rfl⟩, _, underlying28, fun w => by simp [sizeOf23, sizeOf3, sizeOf9]⟩
theorem inf28 : InfoT Try.prog 28 (.agg #[Value.int .i64 0, Value.string ⟨#[]⟩, Value.int .u64 0]) 3 32 := by unfold InfoT; kernel_rfl
theorem eq28 {x0 y0 : Int} {x1 y1 : ByteArray} {x2 y2 : Int} : EqT Try.prog 28 [.int .i64 x0, .string x1, .int .u64 x2] [.int .i64 y0, .string y1, .int .u64 y2] (decide (x0 = y0 ∧ x1 = y1 ∧ x2 = y2)) := EqT.mk (k := 1) (d := 9998) underlying28 Try.stoodInHeld28 Try.eqGuardType28 rfl (FEq.int (nm := "Place") (by decide) underlying3 isAgg3 rfl rfl (FEq.str (nm := "Key") (by decide) underlying9 isAgg9 rfl rfl (FEq.int (nm := "Hash") (by decide) underlying23 isAgg23 rfl rfl FEq.nil))) (by rw [Bool.eq_iff_iff]; simp [Bool.and_eq_true, decide_eq_true_eq, and_assoc])
theorem bld59 : BuildT Try.prog 59 [Value.slice none 0 0] [(0, 1)] := ⟨⟨_, zeroValue59, rfl⟩, _, underlying59, fun w => by simp [sizeOf57]⟩
theorem bld69 : BuildT Try.prog 69 [Value.slice none 0 0] [(0, 1)] := ⟨⟨_, zeroValue69, rfl⟩, _, underlying69, fun w => by simp [sizeOf22]⟩
theorem bld111 : BuildT Try.prog 111 [Value.int .i64 0, Value.int .i64 0, Value.int .i64 0, Value.int .i64 0, Value.string ⟨#[]⟩, Value.slice none 0 0, Value.slice none 0 0, Value.slice none 0 0, Value.int .i64 0, Value.int .i64 0, Value.int .i64 0, Value.int .i64 0, Value.int .i64 0, Value.int .i64 0, Value.slice none 0 0, Value.slice none 0 0, Value.slice none 0 0] [(0, 1), (1, 1), (2, 1), (3, 1), (4, 1), (5, 3), (8, 1), (9, 1), (10, 1), (11, 4), (15, 1), (16, 1)] := ⟨⟨_, zeroValue111, rfl⟩, _, underlying111, fun w => by simp [sizeOf105, sizeOf108, sizeOf109, sizeOf22, sizeOf3, sizeOf9]⟩
theorem inf111 : InfoT Try.prog 111 (.agg #[Value.int .i64 0, Value.int .i64 0, Value.int .i64 0, Value.int .i64 0, Value.string ⟨#[]⟩, Value.slice none 0 0, Value.slice none 0 0, Value.slice none 0 0, Value.int .i64 0, Value.int .i64 0, Value.int .i64 0, Value.int .i64 0, Value.int .i64 0, Value.int .i64 0, Value.slice none 0 0, Value.slice none 0 0, Value.slice none 0 0]) 17 240 := by unfold InfoT; kernel_rfl
theorem bld134 : BuildT Try.prog 134 [Value.int .i64 0, Value.int .i64 0, Value.nilFunc] [(0, 1), (1, 1), (2, 1)] := ⟨⟨_, zeroValue134, rfl⟩, _, underlying134, fun w => by simp [sizeOf132, sizeOf3]⟩
end Go.Proofs.Ytbijdmfilmecbaa
set_option maxHeartbeats 4000000
namespace Go.Proofs.Ytbijdmfilmecbaa
open Go.Fw Go.Proofs Go.RowKit Go.Proofs.Try
theorem u8_u64 (x : UInt8) : IntKind.u64.wrap (x.toNat : Int) = (x.toNat : Int) := by
 have := u8lt x
 rw [IntKind.wrap_u64]
 omega
theorem fnv_step {l : List UInt8} {k : Nat} {x : UInt8} (h : l[k]? = some x) (c : Int) : IntKind.u64.wrap (xorK .u64 ((l.take k).foldl fnvF c) (x.toNat : Int) * 1099511628211) = (l.take (k + 1)).foldl fnvF c := by
 obtain ⟨hk, rfl⟩ := List.getElem?_eq_some_iff.1 h
 rw [List.take_succ_eq_append_getElem hk, List.foldl_append]; rfl
theorem c97 (w0 : World) (v1 : Value) (l : List UInt8) (h : Sl encB 1 w0 w0.heap.size v1 l) (hn : l.length ≤ 4194304) :
   Calls Try.prog 97 #[v1] w0 fun e w' => e = .returned (.int .u64 (hashL l)) ∧ Bel w0.heap.size w0 w' := by
 obtain ⟨A, cap, rfl, hl, hcap, hA⟩ := id h
 refine enter1 func97 rfl ntmps97 rfl fun a S => sg S (.ac rfl <| .z) fun a w S => sg S (.ac rfl <| .z) fun a w S => wp_seq_k fun _ hK1 => sg S (.mv rfl <| .ln underlying120 rfl <| .mc rfl <| .z) fun a w S => wp_block ?_
 refine Ye S [3, 10] (X := Nat) (fun k => [(3, true, .int .u64 ((l.take k).foldl fnvF 14695981039346656037)), (10, true, .int .i64 (k : Int))]) (fun _ => []) (fun k => k ≤ l.length) (fun k => l.length - k) 0 (Nat.zero_le _) ?_
 clear S
 intro k a w hk S
 by_cases hlt : k < l.length
 · obtain ⟨gq, oq, x, rfl, hx, hdq, hc⟩ := Yc hA hlt
   have rw_x := u8_u64 x
   have rw_h := fnv_step hx 14695981039346656037
   refine sg S (.lt (by omega) rfl rfl <| .z) fun a w S => wp_seq_k fun _ hK2 => Ze S (.t rfl) (wp_skip (Za (hK2 _ _ (wp_seq_k fun _ hK2 => wp_block (sg S (.ix underlying120 sizeOf5 (by omega) rfl rfl <| .yy (Ya ⟨isAgg5, sizeOf5⟩ (.t rfl) (fun _ => hc 0 _ rfl)) rfl <| .as rfl <| .z) fun a w S => wp_region_lit (run S (.mv rfl <| .mv rfl <| .yy (ys_cv underlying5 underlying23 (.t rfl)) rfl <| .z) fun a w S => ?_))))))
   rw [rw_x] at S
   refine run S (.yy (ys_bxor (.t rfl) (.t rfl)) rfl <| .yy (ys_mul (.t rfl) Ev.c) rfl <| .z) fun a w S => ?_
   rw [rw_h] at S
   refine run S (.as rfl <| .z) fun a w S => Zb (Zg (Za (hK2 _ _ (wp_region_lit (run S (.ad (by unfold I64; omega) rfl <| .mv rfl <| .z) fun a w S => Zb (Za ?_))))))
   exact ⟨k + 1, by omega, by omega, S.pk⟩
 obtain rfl : k = l.length := by omega
 rw [List.take_length] at S
 refine sg S (.ge (by omega) rfl rfl <| .z) fun a w S => wp_seq_k fun _ hK2 => Zf S (.t rfl) (wp_exit (Zc (Zc (Zn (Za (hK1 _ _ (wp_seq_k fun _ hK1 => sg S (.yy (ys_bldA (ps := [(0, _), (1, _)]) (us := [_, _]) ⟨⟨_, zeroValue160, rfl⟩, _, _, underlying160, sizeOf23⟩ (.cons Ev.c (.cons Ev.c .nil)) rfl) rfl <| .mc rfl <| .z) fun a w S => wp_block (st_rounds 3 (Zt (sg S (.yy (Ym (by omega) (Zy (.t rfl) Ev.c)) rfl <| .z) fun a w S => wp_seq_k fun _ hK3 => Ze S (.t rfl) (wp_skip (Za (hK3 _ _ (wp_seq_k fun _ hK3 => wp_block (sg S (.yy (ys_ixAgg (j := 0) underlying160 ⟨isAgg23, sizeOf23⟩ (.t rfl) (.t rfl) rfl rfl) rfl <| .as rfl <| .z) fun a w S => wp_region_lit (run S (.mv rfl <| .mv rfl <| .yy (Yv (m := 33) (c := 8589934592) (.t rfl) Ev.c rfl rfl) rfl <| .yy (ys_bxor (.t rfl) (.t rfl)) rfl <| .mv rfl <| .yy (ys_mul (.t rfl) (.t rfl)) rfl <| .as rfl <| .z) fun a w S => Zb (Zg (Za (hK3 _ _ (wp_region_lit (run S (.ad (by unfold I64; omega) rfl <| .mv rfl <| .z) fun a w S => Zb (Za (Zt (wp_seq_k fun _ hK3 => wp_region_lit ?_))))))))))))))))))))))))
 refine run S (.yy (Ym (by omega) (Zy (.t rfl) Ev.c)) rfl <| .z) fun a w S => Zb (Za (hK3 _ _ (wp_seq_k fun _ hK3 => Ze S (.t rfl) (wp_skip (Za (hK3 _ _ (wp_seq_k fun _ hK3 => wp_block (sg S (.yy (ys_ixAgg (j := 1) underlying160 ⟨isAgg23, sizeOf23⟩ (.t rfl) (.t rfl) rfl rfl) rfl <| .as rfl <| .z) fun a w S => wp_region_lit (run S (.mv rfl <| .mv rfl <| .yy (Yv (m := 33) (c := 8589934592) (.t rfl) Ev.c rfl rfl) rfl <| .yy (ys_bxor (.t rfl) (.t rfl)) rfl <| .mv rfl <| .yy (ys_mul (.t rfl) (.t rfl)) rfl <| .as rfl <| .z) fun a w S => Zb (Zg (Za (hK3 _ _ (wp_region_lit (run S (.ad (by unfold I64; omega) rfl <| .mv rfl <| .z) fun a w S => Zb (Za (Zt (sg S (.yy (Yf (by omega) (Zy (.t rfl) Ev.c)) rfl <| .z) fun a w S => wp_seq_k fun _ hK3 => Zf S (.t rfl) (wp_exit (Zc (Zc (Zn (Za (hK1 _ _ (sg S (.mv rfl <| .mv rfl <| .yy (Yv (m := 33) (c := 8589934592) (.t rfl) Ev.c rfl rfl) rfl <| .yy (ys_bxor (.t rfl) (.t rfl)) rfl <| .as rfl <| .z) fun a w S => wp_ret (Zk S (results1 S results97 (Rv.tmp rfl)) ?_)))))))))))))))))))))))))
 exact ⟨rfl, S.wd.below⟩
theorem c71 (w0 : World) (v1 : Value) (l : List UInt8) (h : Sl encB 1 w0 w0.heap.size v1 l) (hn : l.length ≤ 4194304) :
   Calls Try.prog 71 #[v1] w0 fun e w' => e = .returned (.int .u64 (hashL l)) ∧ Bel w0.heap.size w0 w' := by
 obtain ⟨A, cap, rfl, hl, hcap, hA⟩ := id h
 refine enter1 func71 rfl ntmps71 rfl fun a S => sg S (.ac rfl <| .z) fun a w S => sg S (.ac rfl <| .z) fun a w S => wp_seq_k fun _ hK1 => sg S (.ac rfl <| .z) fun a w S => wp_block ?_
 refine Ye S [3, 4] (X := Nat) (fun k => [(3, true, .int .u64 ((l.take k).foldl fnvF 14695981039346656037)), (4, true, .int .i64 (k : Int))]) (fun _ => []) (fun k => k ≤ l.length) (fun k => l.length - k) 0 (Nat.zero_le _) ?_
 clear S
 intro k a w hk S
 by_cases hlt : k < l.length
 · obtain ⟨gq, oq, x, rfl, hx, hdq, hc⟩ := Yc hA hlt
   have rw_x := u8_u64 x
   have rw_h := fnv_step hx 14695981039346656037
   refine wp_seq_k fun _ hK2 => sg S (.mv rfl <| .mv rfl <| .ln underlying120 rfl <| .lt (by omega) rfl rfl <| .z) fun a w S => Ze S (.t rfl) (wp_skip (Za (hK2 _ _ (wp_seq_k fun _ hK2 => wp_block (wp_region_lit (run S (.mv rfl <| .mv rfl <| .mv rfl <| .ix underlying120 sizeOf5 (by omega) rfl rfl <| .yy (Ya ⟨isAgg5, sizeOf5⟩ (.t rfl) (fun _ => hc 0 _ rfl)) rfl <| .yy (ys_cv underlying5 underlying23 (.t rfl)) rfl <| .z) fun a w S => ?_))))))
   rw [rw_x] at S
   refine run S (.yy (ys_bxor (.t rfl) (.t rfl)) rfl <| .yy (ys_mul (.t rfl) Ev.c) rfl <| .z) fun a w S => ?_
   rw [rw_h] at S
   refine run S (.as rfl <| .z) fun a w S => Zb (Zg (Za (hK2 _ _ (wp_region_lit (run S (.mv rfl <| .ad (by unfold I64; omega) rfl <| .as rfl <| .z) fun a w S => Zb (Za ?_))))))
   exact ⟨k + 1, by omega, by omega, S.pk⟩
 obtain rfl : k = l.length := by omega
 rw [List.take_length] at S
 refine wp_seq_k fun _ hK2 => sg S (.mv rfl <| .mv rfl <| .ln underlying120 rfl <| .ge (by omega) rfl rfl <| .z) fun a w S => Zf S (.t rfl) (wp_exit (Zc (Zc (Zn (Za (hK1 _ _ (sg S (.mv rfl <| .mv rfl <| .yy (Yv (m := 33) (c := 8589934592) (.t rfl) Ev.c rfl rfl) rfl <| .yy (ys_bxor (.t rfl) (.t rfl)) rfl <| .yy (ys_mul (.t rfl) Ev.c) rfl <| .as rfl <| .z) fun a w S => sg S (.mv rfl <| .mv rfl <| .yy (Yv (m := 33) (c := 8589934592) (.t rfl) Ev.c rfl rfl) rfl <| .yy (ys_bxor (.t rfl) (.t rfl)) rfl <| .yy (ys_mul (.t rfl) Ev.c) rfl <| .as rfl <| .z) fun a w S => sg S (.mv rfl <| .mv rfl <| .yy (Yv (m := 33) (c := 8589934592) (.t rfl) Ev.c rfl rfl) rfl <| .yy (ys_bxor (.t rfl) (.t rfl)) rfl <| .as rfl <| .z) fun a w S => wp_ret (Zk S (results1 S results71 (Rv.tmp rfl)) ?_))))))))
 exact ⟨rfl, S.wd.below⟩
theorem c99 (w0 : World) (n : Int) (h0 : 0 ≤ n) (h1 : n < 18446744073709551616) :
   Calls Try.prog 99 #[.int .u64 n] w0 fun e w' => e = .returned (.agg ((eightL n).map fun u => Value.int .u8 (u.toNat : Int)).toArray) ∧ Bel w0.heap.size w0 w' := by
 refine enter1 func99 rfl ntmps99 rfl fun a S => wp_seq_k fun _ hK1 => wp_region_lit (Zh (Zr S zeroValue148 (cs := _) rfl rfl fun g1 a w S => Zb (Za (hK1 _ _ (wp_seq_k fun _ hK1 => wp_region_lit (Zh (Zr S zeroValue148 (cs := _) rfl rfl fun g2 a w S => Zb (Za (hK1 _ _ (wp_seq_k fun _ hK1 => sg S (.mc rfl <| .z) fun a w S => wp_block (st_rounds 9 (Zt (sg S (.yy (Ym (by omega) (Zy (.t rfl) Ev.c)) rfl <| .z) fun a w S => wp_seq_k fun _ hK2 => Ze S (.t rfl) (wp_skip (Za (hK2 _ _ (wp_seq_k fun _ hK2 => wp_block (sg S (.mv rfl <| .as rfl <| .z) fun a w S => wp_region_lit (run S (.mv rfl <| .mv rfl <| .mv rfl <| .yy (Yu Ev.c (.t rfl) (fun _ => by unfold I64; omega)) rfl <| .yy (Xj Ev.c (.t rfl) (fun _ => by unfold I64; omega)) rfl <| .yy (Yv (m := 56) (c := 72057594037927936) (.t rfl) (.t rfl) rfl rfl) rfl <| .yy (Xr underlying23 underlying5 (.t rfl)) rfl <| .yy (Yj (j := 0) underlying148 sizeOf5 (.t rfl) (.t rfl) (fun _ => by decide)) rfl <| .z) fun a w S => Zh (Xy S sizeOf5 (.t rfl) (.t rfl) (k := 0) rfl rfl (by simp) fun a w S => Zb (Zg (Za (hK2 _ _ (wp_region_lit ?_))))))))))))))))))))))))
 refine run S (.ad (by unfold I64; omega) rfl <| .mv rfl <| .z) fun a w S => Zb (Za (Zt (sg S (.yy (Ym (by omega) (Zy (.t rfl) Ev.c)) rfl <| .z) fun a w S => wp_seq_k fun _ hK2 => Ze S (.t rfl) (wp_skip (Za (hK2 _ _ (wp_seq_k fun _ hK2 => wp_block (sg S (.mv rfl <| .as rfl <| .z) fun a w S => wp_region_lit (run S (.mv rfl <| .mv rfl <| .mv rfl <| .yy (Yu Ev.c (.t rfl) (fun _ => by unfold I64; omega)) rfl <| .yy (Xj Ev.c (.t rfl) (fun _ => by unfold I64; omega)) rfl <| .yy (Yv (m := 48) (c := 281474976710656) (.t rfl) (.t rfl) rfl rfl) rfl <| .yy (Xr underlying23 underlying5 (.t rfl)) rfl <| .yy (ys_ixAI underlying148 sizeOf5 (.t rfl) (.t rfl) (fun _ => by omega)) rfl <| .z) fun a w S => Zh (Xy S sizeOf5 (.t rfl) (.t rfl) (k := 0) rfl rfl (by simp) fun a w S => Zb (Zg (Za (hK2 _ _ (wp_region_lit (run S (.ad (by unfold I64; omega) rfl <| .mv rfl <| .z) fun a w S => Zb (Za (Zt (sg S (.yy (Ym (by omega) (Zy (.t rfl) Ev.c)) rfl <| .z) fun a w S => wp_seq_k fun _ hK2 => Ze S (.t rfl) (wp_skip (Za (hK2 _ _ (wp_seq_k fun _ hK2 => wp_block (wp_seq_k fun _ hK3 => wp_region_lit ?_)))))))))))))))))))))))
 refine run S (.mv rfl <| .as rfl <| .z) fun a w S => Zb (Za (hK3 _ _ (wp_region_lit (run S (.mv rfl <| .mv rfl <| .mv rfl <| .yy (Yu Ev.c (.t rfl) (fun _ => by unfold I64; omega)) rfl <| .yy (Xj Ev.c (.t rfl) (fun _ => by unfold I64; omega)) rfl <| .yy (Yv (m := 40) (c := 1099511627776) (.t rfl) (.t rfl) rfl rfl) rfl <| .yy (Xr underlying23 underlying5 (.t rfl)) rfl <| .yy (ys_ixAI underlying148 sizeOf5 (.t rfl) (.t rfl) (fun _ => by omega)) rfl <| .z) fun a w S => Zh (Xy S sizeOf5 (.t rfl) (.t rfl) (k := 0) rfl rfl (by simp) fun a w S => Zb (Zg (Za (hK2 _ _ (wp_region_lit (run S (.ad (by unfold I64; omega) rfl <| .mv rfl <| .z) fun a w S => Zb (Za (Zt (sg S (.yy (Ym (by omega) (Zy (.t rfl) Ev.c)) rfl <| .z) fun a w S => wp_seq_k fun _ hK2 => Ze S (.t rfl) (wp_skip (Za (hK2 _ _ (wp_seq_k fun _ hK2 => wp_block (sg S (.mv rfl <| .as rfl <| .z) fun a w S => wp_region_lit ?_))))))))))))))))))
 refine run S (.mv rfl <| .mv rfl <| .mv rfl <| .yy (Yu Ev.c (.t rfl) (fun _ => by unfold I64; omega)) rfl <| .yy (Xj Ev.c (.t rfl) (fun _ => by unfold I64; omega)) rfl <| .yy (Yv (m := 32) (c := 4294967296) (.t rfl) (.t rfl) rfl rfl) rfl <| .yy (Xr underlying23 underlying5 (.t rfl)) rfl <| .yy (ys_ixAI underlying148 sizeOf5 (.t rfl) (.t rfl) (fun _ => by omega)) rfl <| .z) fun a w S => Zh (Xy S sizeOf5 (.t rfl) (.t rfl) (k := 0) rfl rfl (by simp) fun a w S => Zb (Zg (Za (hK2 _ _ (wp_region_lit (run S (.ad (by unfold I64; omega) rfl <| .mv rfl <| .z) fun a w S => Zb (Za (Zt (sg S (.yy (Ym (by omega) (Zy (.t rfl) Ev.c)) rfl <| .z) fun a w S => wp_seq_k fun _ hK2 => Ze S (.t rfl) (wp_skip (Za (hK2 _ _ (wp_seq_k fun _ hK2 => wp_block (sg S (.mv rfl <| .as rfl <| .z) fun a w S => wp_region_lit ?_))))))))))))))
 refine run S (.mv rfl <| .mv rfl <| .mv rfl <| .yy (Yu Ev.c (.t rfl) (fun _ => by unfold I64; omega)) rfl <| .yy (Xj Ev.c (.t rfl) (fun _ => by unfold I64; omega)) rfl <| .yy (Yv (m := 24) (c := 16777216) (.t rfl) (.t rfl) rfl rfl) rfl <| .yy (Xr underlying23 underlying5 (.t rfl)) rfl <| .yy (ys_ixAI underlying148 sizeOf5 (.t rfl) (.t rfl) (fun _ => by omega)) rfl <| .z) fun a w S => Zh (Xy S sizeOf5 (.t rfl) (.t rfl) (k := 0) rfl rfl (by simp) fun a w S => Zb (Zg (Za (hK2 _ _ (wp_region_lit (run S (.ad (by unfold I64; omega) rfl <| .mv rfl <| .z) fun a w S => Zb (Za (Zt (sg S (.yy (Ym (by omega) (Zy (.t rfl) Ev.c)) rfl <| .z) fun a w S => wp_seq_k fun _ hK2 => Ze S (.t rfl) (wp_skip (Za (hK2 _ _ (wp_seq_k fun _ hK2 => wp_block (sg S (.mv rfl <| .as rfl <| .z) fun a w S => wp_region_lit ?_))))))))))))))
 refine run S (.mv rfl <| .mv rfl <| .mv rfl <| .yy (Yu Ev.c (.t rfl) (fun _ => by unfold I64; omega)) rfl <| .yy (Xj Ev.c (.t rfl) (fun _ => by unfold I64; omega)) rfl <| .yy (Yv (m := 16) (c := 65536) (.t rfl) (.t rfl) rfl rfl) rfl <| .yy (Xr underlying23 underlying5 (.t rfl)) rfl <| .yy (ys_ixAI underlying148 sizeOf5 (.t rfl) (.t rfl) (fun _ => by omega)) rfl <| .z) fun a w S => Zh (Xy S sizeOf5 (.t rfl) (.t rfl) (k := 0) rfl rfl (by simp) fun a w S => Zb (Zg (Za (hK2 _ _ (wp_region_lit (run S (.ad (by unfold I64; omega) rfl <| .mv rfl <| .z) fun a w S => Zb (Za (Zt (sg S (.yy (Ym (by omega) (Zy (.t rfl) Ev.c)) rfl <| .z) fun a w S => wp_seq_k fun _ hK2 => Ze S (.t rfl) (wp_skip (Za (hK2 _ _ (wp_seq_k fun _ hK2 => wp_block (sg S (.mv rfl <| .as rfl <| .z) fun a w S => wp_region_lit (run S (.mv rfl <| .mv rfl <| .mv rfl <| .yy (Yu Ev.c (.t rfl) (fun _ => by unfold I64; omega)) rfl <| .yy (Xj Ev.c (.t rfl) (fun _ => by unfold I64; omega)) rfl <| .yy (Yv (m := 8) (c := 256) (.t rfl) (.t rfl) rfl rfl) rfl <| .yy (Xr underlying23 underlying5 (.t rfl)) rfl <| .yy (ys_ixAI underlying148 sizeOf5 (.t rfl) (.t rfl) (fun _ => by omega)) rfl <| .z) fun a w S => ?_)))))))))))))))
 refine Zh (Xy S sizeOf5 (.t rfl) (.t rfl) (k := 0) rfl rfl (by simp) fun a w S => Zb (Zg (Za (hK2 _ _ (wp_region_lit (run S (.ad (by unfold I64; omega) rfl <| .mv rfl <| .z) fun a w S => Zb (Za (Zt (sg S (.yy (Ym (by omega) (Zy (.t rfl) Ev.c)) rfl <| .z) fun a w S => wp_seq_k fun _ hK2 => Ze S (.t rfl) (wp_skip (Za (hK2 _ _ (wp_seq_k fun _ hK2 => wp_block (sg S (.mv rfl <| .as rfl <| .z) fun a w S => wp_region_lit (run S (.mv rfl <| .mv rfl <| .mv rfl <| .yy (Yu Ev.c (.t rfl) (fun _ => by unfold I64; omega)) rfl <| .yy (Xj Ev.c (.t rfl) (fun _ => by unfold I64; omega)) rfl <| .yy (Yv (m := 0) (c := 1) (.t rfl) (.t rfl) rfl rfl) rfl <| .yy (Xr underlying23 underlying5 (.t rfl)) rfl <| .yy (ys_ixAI underlying148 sizeOf5 (.t rfl) (.t rfl) (fun _ => by omega)) rfl <| .z) fun a w S => Zh (Xy S sizeOf5 (.t rfl) (.t rfl) (k := 0) rfl rfl (by simp) fun a w S => Zb (Zg (Za (hK2 _ _ (wp_region_lit (run S (.ad (by unfold I64; omega) rfl <| .mv rfl <| .z) fun a w S => Zb (Za (Zt (sg S (.yy (Yf (by omega) (Zy (.t rfl) Ev.c)) rfl <| .z) fun a w S => wp_seq_k fun _ hK2 => ?_))))))))))))))))))))))))
 refine Zf S (.t rfl) (wp_exit (Zc (Zc (Zn (Za (hK1 _ _ (wp_seq_k fun _ hK1 => wp_region_lit (run S (.la gt148 0 rfl rfl rfl <| .z) fun a w S => Zh (Yb S sizeOf148 (.t rfl) (.t rfl) (k := 1) rfl rfl rfl (by simp [Value.oneCell']) fun a w S => Zb (Za (hK1 _ _ (wp_ret (Zk S (results1 S results99 (Rv.cell (k := 1) ⟨isAgg148, sizeOf148⟩ rfl rfl rfl)) ?_)))))))))))))
 exact ⟨rfl, S.wd.below⟩
theorem c100 (w0 : World) (n : Int) (h0 : 0 ≤ n) (h1 : n < 18446744073709551616) :
   Rets Try.prog 100 #[.int .u64 n] w0 fun v L => ∃ A c, v = .slice A (eightL n).length c ∧ L = [rowOf 5 1 encB A c (eightL n)] := by
 unfold Go.Fw.Rets
 refine enter1 func100 rfl ntmps100 rfl fun a S => sg S (.ac rfl <| .z) fun a w S => sg S (.ac rfl <| .z) fun a w S => wp_seq_k fun _ hK1 => sg S (.ac rfl <| .z) fun a w S => wp_block ?_
 replace S := S.nil_ 5 1 encB none
 refine st_rounds 9 (Zt (wp_seq_k fun _ hK2 => sg S (.mv rfl <| .yy (Ym (by omega) (Yd (.t rfl) Ev.c)) rfl <| .z) fun a w S => Ze S (.t rfl) (wp_skip (Za (hK2 _ _ (wp_seq_k fun _ hK2 => wp_block (wp_region_lit (run S (.mv rfl <| .mv rfl <| .mv rfl <| .yy (Yu Ev.c (.t rfl) (fun _ => by unfold I64; omega)) rfl <| .yy (Yv (m := 56) (c := 72057594037927936) (.t rfl) (.t rfl) rfl rfl) rfl <| .yy (Xr underlying23 underlying5 (.t rfl)) rfl <| .z) fun a w S => Zh (Zm S underlying120 inf5 rfl rfl rfl (.t rfl) rfl rfl rfl fun g1 a w S => Zh (Zw S underlying120 inf5 rfl (k := 1) (j := 0) rfl (.t rfl) (.t rfl) rfl rfl rfl rfl (by first | omega | (simp only [List.length_append, List.length_cons, List.length_nil]; omega)) rfl rfl rfl fun A1 cap1 a w S => run S (.as rfl <| .z) fun a w S => Zb (Zg (Za (hK2 _ _ (wp_region_lit (run S (.mv rfl <| .yy (ys_pred (.t rfl) Ev.c (by omega)) rfl <| .as rfl <| .z) fun a w S => Zb (Za (Zt (wp_seq_k fun _ hK2 => sg S (.mv rfl <| .yy (Ym (by omega) (Yd (.t rfl) Ev.c)) rfl <| .z) fun a w S => Ze S (.t rfl) (wp_skip (Za (hK2 _ _ (wp_seq_k fun _ hK2 => wp_block (wp_region_lit ?_)))))))))))))))))))))))
 refine run S (.mv rfl <| .mv rfl <| .mv rfl <| .yy (Yu Ev.c (.t rfl) (fun _ => by unfold I64; omega)) rfl <| .yy (Yv (m := 48) (c := 281474976710656) (.t rfl) (.t rfl) rfl rfl) rfl <| .yy (Xr underlying23 underlying5 (.t rfl)) rfl <| .z) fun a w S => Zh (Zm S underlying120 inf5 rfl rfl rfl (.t rfl) rfl rfl rfl fun g2 a w S => Zh (Zw S underlying120 inf5 rfl (k := 2) (j := 0) rfl (.t rfl) (.t rfl) rfl rfl rfl rfl (by first | omega | (simp only [List.length_append, List.length_cons, List.length_nil]; omega)) rfl rfl rfl fun A2 cap2 a w S => run S (.as rfl <| .z) fun a w S => Zb (Zg (Za (hK2 _ _ (wp_region_lit (run S (.mv rfl <| .yy (ys_pred (.t rfl) Ev.c (by omega)) rfl <| .as rfl <| .z) fun a w S => Zb (Za (Zt (wp_seq_k fun _ hK2 => sg S (.mv rfl <| .yy (Ym (by omega) (Yd (.t rfl) Ev.c)) rfl <| .z) fun a w S => Ze S (.t rfl) (wp_skip (Za (hK2 _ _ (wp_seq_k fun _ hK2 => wp_block (wp_region_lit (run S (.mv rfl <| .mv rfl <| .mv rfl <| .yy (Yu Ev.c (.t rfl) (fun _ => by unfold I64; omega)) rfl <| .yy (Yv (m := 40) (c := 1099511627776) (.t rfl) (.t rfl) rfl rfl) rfl <| .yy (Xr underlying23 underlying5 (.t rfl)) rfl <| .z) fun a w S => Zh (Zm S underlying120 inf5 rfl rfl rfl (.t rfl) rfl rfl rfl fun g3 a w S => ?_)))))))))))))))))
 refine Zh (Zw S underlying120 inf5 rfl (k := 3) (j := 0) rfl (.t rfl) (.t rfl) rfl rfl rfl rfl (by first | omega | (simp only [List.length_append, List.length_cons, List.length_nil]; omega)) rfl rfl rfl fun A3 cap3 a w S => run S (.as rfl <| .z) fun a w S => Zb (Zg (Za (hK2 _ _ (wp_region_lit (run S (.mv rfl <| .yy (ys_pred (.t rfl) Ev.c (by omega)) rfl <| .as rfl <| .z) fun a w S => Zb (Za (Zt (wp_seq_k fun _ hK2 => sg S (.mv rfl <| .yy (Ym (by omega) (Yd (.t rfl) Ev.c)) rfl <| .z) fun a w S => Ze S (.t rfl) (wp_skip (Za (hK2 _ _ (wp_seq_k fun _ hK2 => wp_block (wp_region_lit (run S (.mv rfl <| .mv rfl <| .mv rfl <| .yy (Yu Ev.c (.t rfl) (fun _ => by unfold I64; omega)) rfl <| .yy (Yv (m := 32) (c := 4294967296) (.t rfl) (.t rfl) rfl rfl) rfl <| .yy (Xr underlying23 underlying5 (.t rfl)) rfl <| .z) fun a w S => Zh (Zm S underlying120 inf5 rfl rfl rfl (.t rfl) rfl rfl rfl fun g4 a w S => Zh (Zw S underlying120 inf5 rfl (k := 4) (j := 0) rfl (.t rfl) (.t rfl) rfl rfl rfl rfl (by first | omega | (simp only [List.length_append, List.length_cons, List.length_nil]; omega)) rfl rfl rfl fun A4 cap4 a w S => run S (.as rfl <| .z) fun a w S => Zb (Zg (Za (hK2 _ _ (wp_region_lit ?_)))))))))))))))))))))
 refine run S (.mv rfl <| .yy (ys_pred (.t rfl) Ev.c (by omega)) rfl <| .as rfl <| .z) fun a w S => Zb (Za (Zt (wp_seq_k fun _ hK2 => sg S (.mv rfl <| .yy (Ym (by omega) (Yd (.t rfl) Ev.c)) rfl <| .z) fun a w S => Ze S (.t rfl) (wp_skip (Za (hK2 _ _ (wp_seq_k fun _ hK2 => wp_block (wp_region_lit (run S (.mv rfl <| .mv rfl <| .mv rfl <| .yy (Yu Ev.c (.t rfl) (fun _ => by unfold I64; omega)) rfl <| .yy (Yv (m := 24) (c := 16777216) (.t rfl) (.t rfl) rfl rfl) rfl <| .yy (Xr underlying23 underlying5 (.t rfl)) rfl <| .z) fun a w S => Zh (Zm S underlying120 inf5 rfl rfl rfl (.t rfl) rfl rfl rfl fun g5 a w S => Zh (Zw S underlying120 inf5 rfl (k := 5) (j := 0) rfl (.t rfl) (.t rfl) rfl rfl rfl rfl (by first | omega | (simp only [List.length_append, List.length_cons, List.length_nil]; omega)) rfl rfl rfl fun A5 cap5 a w S => run S (.as rfl <| .z) fun a w S => Zb (Zg (Za (hK2 _ _ (wp_region_lit (run S (.mv rfl <| .yy (ys_pred (.t rfl) Ev.c (by omega)) rfl <| .as rfl <| .z) fun a w S => Zb (Za (Zt (wp_seq_k fun _ hK2 => sg S (.mv rfl <| .yy (Ym (by omega) (Yd (.t rfl) Ev.c)) rfl <| .z) fun a w S => Ze S (.t rfl) (wp_skip (Za (hK2 _ _ (wp_seq_k fun _ hK2 => ?_)))))))))))))))))))))))
 refine wp_block (wp_region_lit (run S (.mv rfl <| .mv rfl <| .mv rfl <| .yy (Yu Ev.c (.t rfl) (fun _ => by unfold I64; omega)) rfl <| .yy (Yv (m := 16) (c := 65536) (.t rfl) (.t rfl) rfl rfl) rfl <| .yy (Xr underlying23 underlying5 (.t rfl)) rfl <| .z) fun a w S => Zh (Zm S underlying120 inf5 rfl rfl rfl (.t rfl) rfl rfl rfl fun g6 a w S => Zh (Zw S underlying120 inf5 rfl (k := 6) (j := 0) rfl (.t rfl) (.t rfl) rfl rfl rfl rfl (by first | omega | (simp only [List.length_append, List.length_cons, List.length_nil]; omega)) rfl rfl rfl fun A6 cap6 a w S => run S (.as rfl <| .z) fun a w S => Zb (Zg (Za (hK2 _ _ (wp_region_lit (run S (.mv rfl <| .yy (ys_pred (.t rfl) Ev.c (by omega)) rfl <| .as rfl <| .z) fun a w S => Zb (Za (Zt (wp_seq_k fun _ hK2 => sg S (.mv rfl <| .yy (Ym (by omega) (Yd (.t rfl) Ev.c)) rfl <| .z) fun a w S => Ze S (.t rfl) (wp_skip (Za (hK2 _ _ (wp_seq_k fun _ hK2 => wp_block (wp_region_lit (run S (.mv rfl <| .mv rfl <| .mv rfl <| .yy (Yu Ev.c (.t rfl) (fun _ => by unfold I64; omega)) rfl <| .yy (Yv (m := 8) (c := 256) (.t rfl) (.t rfl) rfl rfl) rfl <| .yy (Xr underlying23 underlying5 (.t rfl)) rfl <| .z) fun a w S => Zh (Zm S underlying120 inf5 rfl rfl rfl (.t rfl) rfl rfl rfl fun g7 a w S => ?_)))))))))))))))))))
 refine Zh (Zw S underlying120 inf5 rfl (k := 7) (j := 0) rfl (.t rfl) (.t rfl) rfl rfl rfl rfl (by first | omega | (simp only [List.length_append, List.length_cons, List.length_nil]; omega)) rfl rfl rfl fun A7 cap7 a w S => run S (.as rfl <| .z) fun a w S => Zb (Zg (Za (hK2 _ _ (wp_region_lit (run S (.mv rfl <| .yy (ys_pred (.t rfl) Ev.c (by omega)) rfl <| .as rfl <| .z) fun a w S => Zb (Za (Zt (wp_seq_k fun _ hK2 => sg S (.mv rfl <| .yy (Ym (by omega) (Yd (.t rfl) Ev.c)) rfl <| .z) fun a w S => Ze S (.t rfl) (wp_skip (Za (hK2 _ _ (wp_seq_k fun _ hK2 => wp_block (wp_region_lit (run S (.mv rfl <| .mv rfl <| .mv rfl <| .yy (Yu Ev.c (.t rfl) (fun _ => by unfold I64; omega)) rfl <| .yy (Yv (m := 0) (c := 1) (.t rfl) (.t rfl) rfl rfl) rfl <| .yy (Xr underlying23 underlying5 (.t rfl)) rfl <| .z) fun a w S => Zh (Zm S underlying120 inf5 rfl rfl rfl (.t rfl) rfl rfl rfl fun g8 a w S => Zh (Zw S underlying120 inf5 rfl (k := 8) (j := 0) rfl (.t rfl) (.t rfl) rfl rfl rfl rfl (by first | omega | (simp only [List.length_append, List.length_cons, List.length_nil]; omega)) rfl rfl rfl fun A8 cap8 a w S => run S (.as rfl <| .z) fun a w S => Zb (Zg (Za (hK2 _ _ (wp_region_lit ?_)))))))))))))))))))))
 refine run S (.mv rfl <| .yy (Xj (.t rfl) Ev.c (fun _ => by unfold I64; omega)) rfl <| .as rfl <| .z) fun a w S => Zb (Za (Zt (wp_seq_k fun _ hK2 => sg S (.mv rfl <| .yy (Yf (by omega) (Yd (.t rfl) Ev.c)) rfl <| .z) fun a w S => Zf S (.t rfl) (wp_exit (Zc (Zc (Zn (Za (hK1 _ _ (sg S (.mv rfl <| .as rfl <| .z) fun a w S => wp_ret (Zk S (results1 S results100 (Rv.tmp rfl)) ?_)))))))))))
 exact ⟨_, _, rfl, S.wd.pk, _, _, rfl, rfl⟩
end Go.Proofs.Ytbijdmfilmecbaa
