/- Contracts and laws that the statement Rap leans on, part 3. -/
import Derived.Test.YtakpdbmdfnialaaGreatRapK2
import Derived.WalkKit
import Derived.Below
import Derived.OrdersHeld
import Derived.Deep.Quiet
import Derived.Laws.StructEq
import Derived.Deep.MidRow
import Derived.Sort.Grow
import Derived.Shelf.GgSortFunc.InsertionK
import Derived.Shelf.SlSortCmp.Insertion
import Derived.ScopeJumps
import Derived.LoopN
import Derived.Laws.IdiomStrings
set_option linter.unusedVariables false
set_option linter.unusedSimpArgs false
set_option maxRecDepth 100000
namespace Go.Proofs.YtakpdbmdfnialaaGreat
open Go.Fw Go.Proofs Go.RowKit Go.Proofs.Tryz
theorem c136 (w0 : World) (v1 : Value) (l : List Dot) (h : Sl Dot.enc 3 w0 w0.heap.size v1 l) (hn : l.length ≤ 4194304) :
    Rets Tryz.prog 136 #[v1] w0 fun v L => ∃ A c, v = .slice A l.length c ∧ L = [rowOf 74 3 Dot.enc A c l] := by
  have h0 := h
  obtain ⟨A, cap, rfl, hl, hcap, hA⟩ := h
  unfold Go.Fw.Rets
  refine enter1 func136 rfl ntmps136 rfl fun a S => sg S (.ac rfl <| .z) fun a w S => wp_seq_k fun _ hK1 => sg S (.mv rfl <| .yy (ys_sNil underlying33 (.t rfl) Ev.c) rfl <| .z) fun a w S => ?_
  refine st_cond S (.t rfl) (fun h1 => ?_) (fun h1 => ?_)
  refine sg S (.ac rfl <| .z) fun a w S => wp_ret (then_ret (st_ret S (results1 S results136 (Rv.tmp rfl)) ?_))
  rotate_left
  refine wp_skip (then_normal (hK1 _ _ (wp_seq_k fun _ hK1 => wp_region_lit (st_m (op_bslice0 S underlying33 sizeOf74 rfl fun g1 a w S => run S (.mv rfl <| .z) fun a w S => st_m (op_extend _ (S.nil_ 74 _ Go.Fw.Dot.enc _) underlying33 underlying33 (.inr ⟨_, rfl⟩) inf74 rfl (k := 0) rfl (.t rfl) (.t rfl) (Src.sl (Sl.old S.wd h0) (by decide) Go.Fw.Dot.enc_len Go.Fw.Dot.enc_one) (by first | omega | (simp only [List.length_append, List.length_cons, List.length_nil]; omega) | (simp; omega)) rfl rfl rfl fun A1 cap1 a w S => ?_))))))
  simp only [List.nil_append] at S
  refine run S (.as rfl <| .z) fun a w S => st_nil (then_normal (hK1 _ _ (wp_ret (st_ret S (results1 S results136 (Rv.tmp rfl)) ?_))))
  rotate_left
  · have hnil : l = [] := by
      refine List.eq_nil_of_length_eq_zero (Decidable.byContradiction fun hne => ?_)
      obtain ⟨g, o, rfl, _⟩ := hA (by omega)
      cases h1
    subst hnil
    exact ⟨_, _, rfl, (S.nil_ 74 3 Dot.enc none).wd.sub (by repeat (first | exact List.Sublist.refl _ | exact List.nil_sublist _ | refine .cons_cons _ ?_ | refine .cons _ ?_)), none, 0, rfl, rfl⟩
  · try simp only [List.nil_append] at S ⊢
    exact ⟨_, _, rfl, S.wd.sub (by repeat (first | exact List.Sublist.refl _ | exact List.nil_sublist _ | refine .cons_cons _ ?_ | refine .cons _ ?_)), _, _, rfl, rfl⟩
end Go.Proofs.YtakpdbmdfnialaaGreat
set_option linter.unusedVariables false
set_option linter.unusedSimpArgs false
set_option maxRecDepth 100000
namespace Go.Proofs.YtakpdbmdfnialaaGreat
open Go.Fw Go.Proofs Go.RowKit Go.Proofs.Tryz
instance (a b : Dot) : Decidable (ltM a b) := inferInstanceAs (Decidable (_ ∨ _))
end Go.Proofs.YtakpdbmdfnialaaGreat
set_option linter.unusedVariables false
set_option linter.unusedSimpArgs false
namespace Go.Ft
open Go.RowKit
abbrev KL := List (Nat × Bool × Value)
def look : KL → Nat → Option (Bool × Value)
  | [], _ => none
  | (j, v) :: r, i => bif Nat.beq i j then some v else look r i
structure Kn (n : Nat) (K : KL) (a : Act) : Prop where
  defers : a.defers = []
  size : a.tmps.size = n
  slot : ∀ i g v, look K i = some (g, v) → a.tmps[i]? = some (bif g then v else undef)
def Ev (n : Nat) (b : Bool) (K : KL) (x : Operand) (v : Value) : Prop := ∀ a, b = true → Kn n K a → a.eval x = v
section kn
variable {n : Nat} {K : KL} {a : Act} {b : Bool}
theorem Ev.t {t : Nat} {v : Value} (h : look K t = some (true, v)) : Ev n b K (.tmp t) v := fun a _ hk => by
  simp [Act.eval, hk.slot t true v h]
theorem Ev.g {t : Nat} {v : Value} (h : look K t = some (b, v)) : Ev n b K (.tmp t) v := fun a hb hk => by
  simp [Act.eval, hk.slot t b v h, hb]
theorem Ev.c {v : Value} : Ev n b K (.const v) v := fun _ _ _ => rfl
theorem Ev.f {f : Nat} : Ev n b K (.func f) (.func (.func f) #[] #[]) := fun _ _ _ => rfl
def Fits (sn : List Nat) (K : KL) : KL → Prop
  | [] => True
  | (i, g, v) :: r => (List.elem i sn = true ∨ look K i = some (g, v)) ∧ Fits (i :: sn) K r
theorem Fits.look {K : KL} : ∀ {K' : KL} {sn : List Nat}, Fits sn K K' → ∀ i v, List.elem i sn = false → Ft.look K' i = some v → Ft.look K i = some v
  | [], _, _, i, v, _, h => by simp [Ft.look] at h
  | (j, g, u) :: r, sn, hf, i, v, hn, h => by
    obtain ⟨h1, h2⟩ := hf
    unfold Ft.look at h
    by_cases hi : i = j
    · subst hi
      simp only [Nat.beq_refl, cond_true, Option.some.injEq] at h
      rw [← h]
      rcases h1 with h1 | h1
      · rw [h1] at hn; cases hn
      · exact h1
    · have : Nat.beq i j = false := by simpa [Nat.beq_eq_true_eq, ← Bool.not_eq_true] using hi
      simp only [this, cond_false] at h
      refine Fits.look h2 i v ?_ h
      have hne : (i == j) = false := by simpa using hi
      simp only [List.elem, hne]
      exact hn
end kn
abbrev Dle (a b : Nat) : Prop := a ≤ b
theorem Dle.succ (a : Nat) : Dle a (a + 1) := by unfold Dle; omega
structure Bel (B : Nat) (w w' : World) : Prop extends Below B w w' where
  drawn : Dle w.drawn w'.drawn
section bel
variable {B B' : Nat} {a b c : World}
theorem Bel.refl (B : Nat) (w : World) : Bel B w w := ⟨Below.refl B w, Nat.le_refl _⟩
theorem Bel.trans (h : Bel B a b) (k : Bel B b c) : Bel B a c := ⟨h.toBelow.trans k.toBelow, Nat.le_trans h.drawn k.drawn⟩
theorem Bel.mono (h : Bel B a b) (hB : B' ≤ B) : Bel B' a b := ⟨h.toBelow.mono hB, h.drawn⟩
theorem Bel.drew (h : Bel B a b) : Bel B a b.drew := ⟨h.toBelow.drew, Nat.le_trans h.drawn (Dle.succ _)⟩
end bel
structure Turned (S : Nat → Prop) (w w' : World) : Prop where
  os : w'.os = w.os
  tape : w'.tape = w.tape
  output : w'.output = w.output
  size : w.heap.size ≤ w'.heap.size
  block : ∀ k, k < w.heap.size → ¬ S k → w'.heap[k]? = w.heap[k]?
  drawn : Dle w.drawn w'.drawn
theorem Turned.mono {S S' : Nat → Prop} {w w' : World} (h : Turned S w w') (hS : ∀ k, S k → S' k) : Turned S' w w' :=
  ⟨h.os, h.tape, h.output, h.size, fun k hk hn => h.block k hk fun e => hn (hS k e), h.drawn⟩
def Owns (w : World) (B : Nat) (e size : Nat) (A : Option Addr) (n cap : Nat) (xs : List Value) : Prop :=
  xs.length = n * size ∧ ((n = 0 ∧ cap = 0) ∨ ∃ g cur, A = some ⟨g, 0, none⟩ ∧ 0 < cap ∧ B ≤ g ∧ w.heap[g]? = some (.cells cur e (0, 0)) ∧ n ≤ cap ∧ cap ≤ maxLen ∧ cur.size = cap * size ∧ cur.toList.take (n * size) = xs)
inductive Chunk where
  | blk (b : Nat) (o : Obj)
  | row (e size : Nat) (A : Option Addr) (n cap : Nat) (xs : List Value)
  | ice (w1 : World) (bs : List Nat)
def Chunk.holds (B : Nat) (w : World) : Chunk → Prop
  | .blk b o => B ≤ b ∧ w.heap[b]? = some o
  | .row e size A n cap xs => Owns w B e size A n cap xs
  | .ice w1 bs => ∀ b ∈ bs, B ≤ b ∧ b < w.heap.size ∧ w.heap[b]? = w1.heap[b]?
def Chunk.own : Chunk → Nat → Prop
  | .blk b _ => fun x => x = b
  | .row _ _ A _ cap _ => fun x => cap ≠ 0 ∧ A.map (·.block) = some x
  | .ice _ bs => fun x => x ∈ bs
def Chunk.apart (c d : Chunk) : Prop := ∀ b, c.own b → ¬ d.own b
theorem Chunk.holds.lt {B : Nat} {w : World} {c : Chunk} (h : c.holds B w) {b : Nat} (hb : c.own b) : B ≤ b ∧ b < w.heap.size := by
  cases c with
  | blk b' o =>
    obtain ⟨h1, h2⟩ := h
    simp only [Chunk.own] at hb
    subst hb
    exact ⟨h1, (Array.getElem?_eq_some_iff.1 h2).1⟩
  | row e size A n cap xs =>
    obtain ⟨h0, hb⟩ := hb
    rcases h.2 with ⟨_, hc⟩ | ⟨g, cur, rfl, hp, hB, hg, _⟩
    · exact absurd hc h0
    · simp only [Option.map_some, Option.some.injEq] at hb
      subst hb
      exact ⟨hB, (Array.getElem?_eq_some_iff.1 hg).1⟩
  | ice w1 bs => exact ⟨(h b hb).1, (h b hb).2.1⟩
theorem Chunk.holds.keep {B : Nat} {w w' : World} {c : Chunk} (h : c.holds B w) (hs : w.heap.size ≤ w'.heap.size) (hk : ∀ b, c.own b → w'.heap[b]? = w.heap[b]?) : c.holds B w' := by
  cases c with
  | blk b o => exact ⟨h.1, (hk b rfl).trans h.2⟩
  | row e size A n cap xs =>
    refine ⟨h.1, ?_⟩
    rcases h.2 with hn | ⟨g, cur, rfl, hp, hb, hgg, rest⟩
    · exact .inl hn
    · exact .inr ⟨g, cur, rfl, hp, hb, (hk g ⟨Nat.pos_iff_ne_zero.1 hp, rfl⟩).trans hgg, rest⟩
  | ice w1 bs => exact fun b hb => ⟨(h b hb).1, Nat.lt_of_lt_of_le (h b hb).2.1 hs, (hk b hb).trans (h b hb).2.2⟩
theorem Chunk.holds.mono {B B' : Nat} {w : World} {c : Chunk} (h : c.holds B w) (hB : B' ≤ B) : c.holds B' w := by
  cases c with
  | blk b o => exact ⟨Nat.le_trans hB h.1, h.2⟩
  | row e size A n cap xs =>
    refine ⟨h.1, ?_⟩
    rcases h.2 with hn | ⟨g, cur, rfl, hp, hb, rest⟩
    · exact .inl hn
    · exact .inr ⟨g, cur, rfl, hp, Nat.le_trans hB hb, rest⟩
  | ice w1 bs => exact fun b hb => ⟨Nat.le_trans hB (h b hb).1, (h b hb).2⟩
structure Wd (w0 : World) (L : List Chunk) (w : World) : Prop where
  below : Bel w0.heap.size w0 w
  all : ∀ c ∈ L, c.holds w0.heap.size w
  apart : L.Pairwise Chunk.apart
section wd
variable {w0 : World} {L : List Chunk} {w w' : World}
theorem Wd.get (h : Wd w0 L w) {k : Nat} {c : Chunk} (hk : L[k]? = some c) : c.holds w0.heap.size w := h.all c (List.mem_of_getElem? hk)
theorem Wd.step (h : Wd w0 L w) (hb : Bel w.heap.size w w') : Wd w0 L w' :=
  ⟨h.below.trans (hb.mono h.below.size), fun c hc => (h.all c hc).keep hb.size fun b hbk => hb.block b ((h.all c hc).lt hbk).2, h.apart⟩
theorem Wd.drew (h : Wd w0 L w) : Wd w0 L w.drew := h.step (Bel.refl _ _).drew
end wd
section code
variable {P : Program} {Q : Exit → Act → World → Prop} {n : Nat} {w0 : World} {K : KL} {L : List Chunk} {a : Act} {w : World}
section enters
variable {f : FuncId} {fn : Func} {c : Code} {R : Ending → World → Prop} {v0 v1 v2 v3 v4 v5 v6 v7 v8 : Value}
end enters
def Ys (P : Program) (o : Oper) (n : Nat) (K : KL) (w0 : World) (L : List Chunk) (b : Bool) (v : Value) : Prop :=
  ∀ a w, b = true → Kn n K a → Wd w0 L w → Oper.quietUpon P (Wd w0 L) w v ((execOp a.eval o).run P w)
def Yr (P : Program) (o : Oper) (n : Nat) (K : KL) (w0 : World) (L : List Chunk) (b : Bool) (v : Value) : Prop :=
  ∀ a w, b = true → Kn n K a → Wd w0 L w → (execOp a.eval o).run P w = .ok (.value v) w
theorem Yr.ys {o : Oper} {b : Bool} {v : Value} (h : Yr P o n K w0 L b v) : Ys P o n K w0 L b v := fun a w hb hk hw => by
  rw [h a w hb hk hw]; exact ⟨rfl, rfl⟩
section list
variable {ops : Array Oper} {rest : List Oper} {op : Op} {ty : TypeId} {pos : String} {aft : Array Edge} {v : Value} {d t j : Nat} {p : Bool}
variable {Z : Act → Prop} {C : World → Prop}
end list
section held
variable {ops : Array Oper} {Lr : List Chunk} {fuel i : Nat} {listed : Array Bool} {op : Op} {ty : TypeId} {pos : String} {aft : Array Edge} {gd : Option (Nat × Bool)} {v : Value} {d t j : Nat} {p : Bool} {md : Region.Mode}
end held
end code
end Go.Ft
set_option linter.unusedVariables false
set_option linter.unusedSimpArgs false
namespace Go.Ft
open Go.RowKit
section ops
variable {P : Program} {n : Nat} {w0 : World} {K : KL} {L : List Chunk} {b : Bool} {dst : Option Tmp} {ty : TypeId} {pos : String} {aft : Array Edge} {gd : Option (Nat × Bool)}
def Many (P : Program) (t : TypeId) (k : Nat) : Prop := (∀ w, (isAgg t).run P w = .ok true w) ∧ ∀ w, (sizeOf t).run P w = .ok k w
def nth : List Value → Nat → Option Value
  | [], _ => none
  | v :: _, 0 => some v
  | _ :: r, i + 1 => nth r i
theorem nth_eq : ∀ (cs : List Value) (i : Nat), nth cs i = cs[i]?
  | [], i => by simp [nth]
  | v :: r, 0 => by simp [nth]
  | v :: r, i + 1 => by simp [nth, nth_eq r i]
def upto : List Value → Nat → Option (List Value)
  | _, 0 => some []
  | [], _ + 1 => none
  | v :: r, k + 1 => match upto r k with
    | some l => some (v :: l)
    | none => none
def cellsAt : List Value → Nat → Nat → Option (List Value)
  | cs, 0, k => upto cs k
  | [], _ + 1, _ => none
  | _ :: r, i + 1, k => cellsAt r i k
theorem upto_eq : ∀ {cs : List Value} {k : Nat} {vs : List Value}, upto cs k = some vs → vs.length = k ∧ vs = cs.take k
  | cs, 0, vs, h => by cases cs <;> simp [upto] at h <;> simp [h]
  | [], k + 1, vs, h => by simp [upto] at h
  | v :: r, k + 1, vs, h => by
    unfold upto at h
    split at h
    · rename_i l hl
      obtain ⟨h1, h2⟩ := upto_eq hl
      simp only [Option.some.injEq] at h
      subst h
      exact ⟨by simp [h1], by simp [← h2]⟩
    · cases h
theorem cellsAt_eq : ∀ {cs : List Value} {i k : Nat} {vs : List Value}, cellsAt cs i k = some vs → vs.length = k ∧ vs = (cs.drop i).take k
  | cs, 0, k, vs, h => by cases cs <;> exact upto_eq h
  | [], i + 1, k, vs, h => by simp [cellsAt] at h
  | v :: r, i + 1, k, vs, h => by simpa using cellsAt_eq (cs := r) (i := i) h
theorem run_load_many {t : TypeId} {k : Nat} (h1 : Many P t k) {w : World} {ad : Addr} {vs : List Value} (hl : vs.length = k) (hc : ∀ j u, vs[j]? = some u → w.cell? (ad.add j) = some u) :
    (loadVar t ad).run P w = .ok (.agg vs.toArray) w := by
  have h := run_loadCells_list (P := P) w ad vs hc
  rw [hl] at h
  simp [loadVar, Sem.run_bind, h1.1, h1.2, h]
theorem Owns.cell {w : World} {B e size n cap g : Nat} {xs : List Value} (h : Owns w B e size (some ⟨g, 0, none⟩) n cap xs) {j : Nat} {u : Value} (hj : xs[j]? = some u) : w.cell? ⟨g, j, none⟩ = some u := by
  rcases h.2 with ⟨h0, _⟩ | ⟨g', cur, hA, _, _, hg, _, _, _, ht⟩
  · have h1 := h.1
    rw [h0] at h1
    have : xs = [] := List.eq_nil_of_length_eq_zero (by simpa using h1)
    subst this; simp at hj
  · simp only [Option.some.injEq, Addr.mk.injEq] at hA
    obtain ⟨rfl, _, _⟩ := hA
    rw [cell_of_row w _ j cur e (0, 0) hg]
    rw [← ht, List.getElem?_take] at hj
    split at hj
    · simpa using hj
    · cases hj
def FieldT (P : Program) (s : TypeId) (f o : Nat) : Prop := ∀ w ad, (Instr.fieldAt s (.pointer (some ad)) f).run P w = .ok (.pointer (some (ad.add o))) w
theorem FieldT.mk {s f : Nat} {fs : Array Field} {nm : String} {tt o : Nat} {em : Bool} {tg pp : String} {bo : Nat} {m : Nat} (hu : P.underlying s = some (.struct fs)) (hf : fs[f]? = some ⟨nm, tt, o, em, tg, pp, bo⟩) (hz : ∀ w, (sizeOf tt).run P w = .ok m w) (hm : Nat.blt 0 m = true) : FieldT P s f o := fun w ad => by
  have hm' : m ≠ 0 := by have := Nat.le_of_ble_eq_true hm; omega
  simp [Instr.fieldAt, run_underlying hu, hf, Instr.sureAddr, fieldPlace, hz, hm']
section cmp
variable {t t' : TypeId} {x y : Operand} {k : IntKind} {p q : Int} (hx : Ev n b K x (.int k p)) (hy : Ev n b K y (.int k q))
include hx hy
end cmp
def EqT (P : Program) (t : TypeId) (vs us : List Value) (r : Bool) : Prop :=
  ∀ w, (eqGuard .eql t (.tmp 0) (.tmp 0) (.agg vs.toArray) (.agg us.toArray)).run P w = .ok () w ∧ (Op.equalIn 10000 t (.agg vs.toArray) (.agg us.toArray)).run P w = .ok r w
def lay (cs : List Value) : Nat → List Value → List Value
  | _, [] => cs
  | i, v :: vs => lay (cs.set i v) (i + 1) vs
def fillL (places : Nat → Option (Nat × Nat)) (zs : List Value) : List (Nat × Value) → Option (List Value)
  | [] => some zs
  | (i, v) :: rest => match places i with
    | none => none
    | some (off, size) => bif Nat.beq v.cells.toList.length size && Nat.ble (off + size) zs.length then fillL places (lay zs off v.cells.toList) rest else none
theorem foldl_lay : ∀ (vs : List Value) (off j : Nat) (zs : List Value), (vs.zipIdx j).foldl (fun cs (x : Value × Nat) => cs.setIfInBounds (off + x.2) x.1) zs.toArray = (lay zs (off + j) vs).toArray
  | [], off, j, zs => rfl
  | v :: vs, off, j, zs => by
    simp only [List.zipIdx_cons, List.foldl_cons, lay]
    rw [List.setIfInBounds_toArray, foldl_lay vs off (j + 1)]
    rfl
theorem fill_of : ∀ {places : Nat → Option (Nat × Nat)} {parts : List (Nat × Value)} {zs us : List Value}, fillL places zs parts = some us → Instr.fill places zs.toArray parts = some us.toArray
  | places, [], zs, us, h => by simp [fillL] at h; simp [Instr.fill, h]
  | places, (i, v) :: rest, zs, us, h => by
    unfold fillL at h
    unfold Instr.fill
    split at h
    · cases h
    · rename_i off size hp
      simp only [hp]
      cases hc : (Nat.beq v.cells.toList.length size && Nat.ble (off + size) zs.length) with
      | false => rw [hc] at h; simp at h
      | true =>
        rw [hc] at h
        simp only [cond_true] at h
        simp only [Bool.and_eq_true, Nat.ble_eq] at hc
        obtain ⟨h1, h2⟩ := hc
        have h1' : v.cells.size = size := by simpa using h1
        have h3 : (decide (v.cells.size ≠ size) || decide (off + v.cells.size > zs.toArray.size)) = false := by
          simp [h1']; omega
        have h4 : v.cells.zipIdx.foldl (fun cs (x : Value × Nat) => cs.setIfInBounds (off + x.2) x.1) zs.toArray = (lay zs off v.cells.toList).toArray := by
          have := foldl_lay v.cells.toList off 0 zs
          rw [← Array.foldl_toList, Array.toList_zipIdx]
          simpa using this
        rw [if_neg (by rw [h3]; simp)]
        have h5 := fill_of (places := places) (parts := rest) h
        rw [← h4] at h5
        exact h5
def BuildT (P : Program) (t : TypeId) (zs : List Value) (places : List (Nat × Nat)) : Prop :=
  (∃ z, (∀ w, (zeroValue t).run P w = .ok z w) ∧ z.cells = zs.toArray) ∧ ∃ fs, P.underlying t = some (.struct fs) ∧ ∀ w, (fs.mapM (fun f => do pure (f.offset, ← sizeOf f.type)) : Sem (Array (Nat × Nat))).run P w = .ok places.toArray w
theorem BuildT.run {t : TypeId} {zs : List Value} {places : List (Nat × Nat)} (h : BuildT P t zs places) {parts : List (Nat × Value)} {us : List Value} (hf : fillL (places[·]?) zs parts = some us) (w : World) : (Instr.build t parts.toArray).run P w = .ok (.agg us.toArray) w := by
  obtain ⟨⟨z, hz, hc⟩, fs, hu, hm⟩ := h
  have h1 : Instr.fill (fun x => places[x]?) zs.toArray parts = some us.toArray := fill_of hf
  simp only [Instr.build, Sem.run_bind, hz, Result.andThen_ok, run_underlying hu, hm, hc]
  simp [h1]
end ops
section movers
variable {P : Program} {n : Nat} {w0 : World} {K : KL} {L : List Chunk} {ty : TypeId} {pos : String} {aft : Array Edge} {gd : Option (Nat × Bool)} {a : Act} {w : World} {Z : Act → World → Prop} {Q : Exit → Act → World → Prop} {d : Nat}
end movers
section ends
variable {P : Program} {n : Nat} {w0 : World} {K : KL} {L : List Chunk} {a : Act} {w : World} {fn : Func} {R : Ending → World → Prop} {t : Nat} {v : Value}
def res1 (tmps : Array Value) (r : ResultVar) : Sem Value := match r with
  | .tmp t => pure (tmps.getD t undef)
  | .cell a t => do loadVar t (← asAddr (tmps.getD a undef))
def Rv (P : Program) (n : Nat) (w0 : World) (K : KL) (L : List Chunk) (r : ResultVar) (v : Value) : Prop :=
  ∀ a w, Kn n K a → Wd w0 L w → (res1 a.tmps r).run P w = .ok v w
theorem Rv.tmp (h : look K t = some (true, v)) : Rv P n w0 K L (.tmp t) v := fun a w hk _ => by
  simp [res1, hk.slot t true v h]
theorem Rv.cell {ty m : Nat} {g k : Nat} {cs : List Value} {e : TypeId} {fr : Nat × Nat} (h1 : Many P ty m) (h : look K t = some (true, .pointer (some ⟨g, 0, none⟩))) (hk : L[k]? = some (.blk g (.cells cs.toArray e fr))) (hm : cs.length = m) :
    Rv P n w0 K L (.cell t ty) (.agg cs.toArray) := fun a w hkn hw => by
  have hg := (hw.get hk).2
  have h2 := run_load_many (P := P) (ad := ⟨g, 0, none⟩) h1 hm (w := w) (fun j u hj => by
    rw [Addr.add_mid, cell_of_row w g (0 + j) _ e fr hg]; simpa using hj)
  simp [res1, hkn.slot t true _ h, asAddr, h2]
end ends
end Go.Ft
namespace Go.Ft
open Go.RowKit
section exits
variable {K : Act → World → Prop} {Q : Exit → Act → World → Prop} {a : Act} {w : World} {i j : Nat}
end exits
def Sl {α : Type} (enc : α → List Value) (size : Nat) (w : World) (B : Nat) (v : Value) (l : List α) : Prop :=
  ∃ A cap, v = .slice A l.length cap ∧ l.length ≤ cap ∧ cap ≤ 9223372036854775807 ∧
    (0 < l.length → ∃ g o, A = some ⟨g, o, none⟩ ∧ g < B ∧ ∀ k x, l[k]? = some x → ∀ j u, (enc x)[j]? = some u → w.cell? ⟨g, o + k * size + j, none⟩ = some u)
section sl
variable {α : Type} {enc : α → List Value} {size : Nat} {w w' w0 : World} {B B' : Nat} {v : Value} {l : List α} {L : List Chunk}
theorem Sl.keep (h : Sl enc size w B v l) (hk : Below B w w') : Sl enc size w' B v l := by
  obtain ⟨A, cap, rfl, h1, h2, h3⟩ := h
  refine ⟨A, cap, rfl, h1, h2, fun hl => ?_⟩
  obtain ⟨g, o, hA, hg, hc⟩ := h3 hl
  exact ⟨g, o, hA, hg, fun k x hx j u hu => (hk.cell (p := ⟨g, o + k * size + j, none⟩) hg).trans (hc k x hx j u hu)⟩
theorem Sl.mono (h : Sl enc size w B v l) (hB : B ≤ B') : Sl enc size w B' v l := by
  obtain ⟨A, cap, rfl, h1, h2, h3⟩ := h
  refine ⟨A, cap, rfl, h1, h2, fun hl => ?_⟩
  obtain ⟨g, o, hA, hg, hc⟩ := h3 hl
  exact ⟨g, o, hA, by omega, hc⟩
end sl
end Go.Ft
set_option linter.unusedVariables false
set_option linter.unusedSimpArgs false
namespace Go.Ft
open Go.RowKit
def InfoT (P : Program) (e : TypeId) (z : Value) (size bytes : Nat) : Prop := (P.info? e).map (fun i => (i.zero, i.size, i.bytes)) = some (some z, size, bytes)
theorem InfoT.parts {P : Program} {e : TypeId} {z : Value} {size bytes : Nat} (h : InfoT P e z size bytes) : ∃ i, P.info? e = some i ∧ i.zero = some z ∧ i.size = size ∧ i.bytes = bytes := by
  unfold InfoT at h
  cases hi : P.info? e with
  | none => rw [hi] at h; simp at h
  | some i => rw [hi] at h; simp at h; exact ⟨i, rfl, h⟩
structure Src (P : Program) (w : World) (size : Nat) (x : Value) (m : Nat) (news : List Value) : Prop where
  len : ∀ W, (Builtin.lenOf x).run P W = .ok m W
  here : (Builtin.firstCells size m x).run P w = .ok news.toArray w
  drew : (Builtin.firstCells size m x).run P w.drew = .ok news.toArray w.drew
  length : news.length = m * size
  one : ∀ u ∈ news, u.oneCell' = true
section src
variable {P : Program} {w : World} {size m : Nat} {news : List Value}
theorem Src.at_ {g o c : Nat} (hl : news.length = m * size) (h1 : ∀ u ∈ news, u.oneCell' = true) (h : ∀ j u, news[j]? = some u → w.cell? ⟨g, o + j, none⟩ = some u) : Src P w size (.slice (some ⟨g, o, none⟩) m c) m news :=
  ⟨fun W => by simp [Builtin.lenOf],
   run_firstCells_some (P := P) w size m ⟨g, o, none⟩ m c news hl (fun j u hj => by rw [Addr.add_mid]; exact h j u hj),
   run_firstCells_some (P := P) w.drew size m ⟨g, o, none⟩ m c news hl (fun j u hj => by rw [Addr.add_mid]; exact h j u hj), hl, h1⟩
theorem Src.none_ {A : Option Addr} {c : Nat} : Src P w size (.slice A 0 c) 0 [] := by
  cases A with
  | none => exact ⟨fun W => by simp [Builtin.lenOf], by simp [Builtin.firstCells], by simp [Builtin.firstCells], by simp, by simp⟩
  | some a => exact ⟨fun W => by simp [Builtin.lenOf], by simp [Builtin.firstCells, loadCells, loadCellsFrom], by simp [Builtin.firstCells, loadCells, loadCellsFrom], by simp, by simp⟩
theorem Src.blk {L : List Chunk} {w0 : World} (hw : Wd w0 L w) {k g c : Nat} {e : TypeId} {fr : Nat × Nat} (hk : L[k]? = some (.blk g (.cells news.toArray e fr))) (hl : news.length = m * size) (h1 : ∀ u ∈ news, u.oneCell' = true) : Src P w size (.slice (some ⟨g, 0, none⟩) m c) m news :=
  Src.at_ hl h1 (fun j u hj => by rw [cell_of_row w g (0 + j) _ e fr (hw.get hk).2]; simpa using hj)
theorem Src.row {L : List Chunk} {w0 : World} (hw : Wd w0 L w) {k e cap c : Nat} {A : Option Addr} (hk : L[k]? = some (.row e size A m cap news)) (h1 : ∀ u ∈ news, u.oneCell' = true) : Src P w size (.slice A m c) m news := by
  have h := hw.get hk
  rcases h.2 with ⟨rfl, _⟩ | ⟨g, cur, rfl, _⟩
  · have : news = [] := List.eq_nil_of_length_eq_zero (by simpa using h.1)
    subst this
    exact Src.none_
  · exact Src.at_ h.1 h1 (fun j u hj => by rw [Nat.zero_add]; exact Owns.cell h hj)
end src
section app
variable {P : Program} {w : World}
end app
end Go.Ft
set_option linter.unusedVariables false
set_option linter.unusedSimpArgs false
namespace Go.Ft
open Go.RowKit
section ldw
variable {P : Program} {n : Nat} {w0 : World} {K : KL} {L : List Chunk} {b : Bool} {dst : Option Tmp} {ty : TypeId} {pos : String} {aft : Array Edge} {gd : Option (Nat × Bool)}
end ldw
section movers
variable {P : Program} {n : Nat} {w0 : World} {K : KL} {L : List Chunk} {ty : TypeId} {pos : String} {aft : Array Edge} {gd : Option (Nat × Bool)} {a : Act} {w : World} {Z : Act → World → Prop} {Q : Exit → Act → World → Prop} {d : Nat}
end movers
section ops
variable {P : Program} {n : Nat} {w0 : World} {K : KL} {L : List Chunk} {b : Bool} {dst : Option Tmp} {ty : TypeId} {pos : String} {aft : Array Edge} {gd : Option (Nat × Bool)}
end ops
section eq
variable {P : Program}
def FEq (P : Program) (k : Nat) (xs ys : List Value) (fs : List Field) (r : Bool) : Prop := ∀ d w, (Op.eqFields (d + k) xs.toArray ys.toArray fs).run P w = .ok r w
section fields
variable {xs ys : List Value} {nm : String} {tt o : Nat} {em : Bool} {tg pp : String} {bo : Nat} {fs : List Field} {r : Bool} {k : Nat}
theorem FEq.int {ik ik' : IntKind} {p q : Int} (hn : (nm != "_") = true) (ht : P.underlying tt = some (.int ik')) (ha : ∀ w, (isAgg tt).run P w = .ok false w) (hx : nth xs o = some (.int ik p)) (hy : nth ys o = some (.int ik q)) (h : FEq P (k + 1) xs ys fs r) :
    FEq P (k + 1) xs ys (⟨nm, tt, o, em, tg, pp, bo⟩ :: fs) (decide (p = q) && r) := fun d w => by
  have hn' : nm ≠ "_" := by simpa using hn
  rw [nth_eq] at hx hy
  have hpq : (p == q) = decide (p = q) := rfl
  have hh := run_equalIn_int (P := P) w (d + k) tt ik ik' p q ht
  rw [Nat.add_assoc] at hh
  simp only [Op.eqFields, ne_eq, hn', not_false_eq_true, if_true, Sem.run_bind, part, ha, Result.andThen_ok]
  simp [hx, hy, hh, hpq]
  by_cases e : p = q <;> simp [e, h d w]
theorem FEq.agg {fs' : List Field} {m : Nat} {us vs : List Value} {r' : Bool} (hn : (nm != "_") = true) (ht : P.underlying tt = some (.struct fs'.toArray)) (hp : P.stoodInHeld tt = false) (ha : ∀ w, (isAgg tt).run P w = .ok true w) (hz : ∀ w, (sizeOf tt).run P w = .ok m w) (hx : cellsAt xs o m = some us) (hy : cellsAt ys o m = some vs)
    (h' : FEq P k us vs fs' r') (h : FEq P (k + 1) xs ys fs r) : FEq P (k + 1) xs ys (⟨nm, tt, o, em, tg, pp, bo⟩ :: fs) (r' && r) := fun d w => by
  have hn' : nm ≠ "_" := by simpa using hn
  have e1 : xs.toArray.extract o (o + m) = us.toArray := by
    rw [(cellsAt_eq hx).2]; simp [List.extract_eq_take_drop, List.extract_toArray]
  have e2 : ys.toArray.extract o (o + m) = vs.toArray := by
    rw [(cellsAt_eq hy).2]; simp [List.extract_eq_take_drop, List.extract_toArray]
  have hh := run_equalIn_struct (P := P) w (d + k) tt us.toArray vs.toArray (by simp [Program.fieldsOf, ht]) hp
  rw [Nat.add_assoc] at hh
  have hf := h' d w
  simp only [Op.eqFields, ne_eq, hn', not_false_eq_true, if_true, Sem.run_bind, part, ha, hz, Result.andThen_ok, Sem.run_pure, e1, e2, hh, Program.fieldsOf, ht, hf]
  cases r' <;> simp [h d w]
end fields
theorem EqT.mk {t k d : Nat} {fs : List Field} {xs ys : List Value} {r r' : Bool} (hu : P.underlying t = some (.struct fs.toArray)) (hs : P.stoodInHeld t = false) (hg : P.eqGuardType P.depth t = false) (hk : d + k = 9999) (h : FEq P k xs ys fs r) (hr : r = r') : EqT P t xs ys r' := fun w => by
  subst hr
  refine ⟨by simp [eqGuard, hg], ?_⟩
  rw [run_equalIn_struct w 9999 t _ _ (by simp [Program.fieldsOf, hu]) hs]
  simp only [Program.fieldsOf, hu]
  rw [← hk]
  exact h d w
end eq
end Go.Ft
set_option linter.unusedVariables false
set_option linter.unusedSimpArgs false
namespace Go.Ft
open Go.RowKit
structure Dot where
  node : Int
  life : Int
  count : Int
deriving DecidableEq
abbrev Dot.enc (d : Dot) : List Value := [.int .i64 d.node, .int .i64 d.life, .int .i64 d.count]
structure Ctx where
  marks : List Dot
  cloud : List Dot
deriving DecidableEq
def markOf : List Dot → Int → Int → Int
  | [], _, _ => 0
  | m :: r, x, y => if m.node = x ∧ m.life = y then m.count else markOf r x y
def keep (x y : Int) (l : List Dot) : List Dot := l.filter fun d => !decide (d.node = x ∧ d.life = y)
def mayD (d : Dot) : Bool := decide (0 ≤ d.node ∧ d.node < 8 ∧ 1 ≤ d.life ∧ d.life ≤ 1099511627776 ∧ 1 ≤ d.count ∧ d.count ≤ 1099511627776)
def belowD (a b : Dot) : Bool := if a.node ≠ b.node then decide (a.node < b.node) else if a.life ≠ b.life then decide (a.life < b.life) else decide (a.count < b.count)
end Go.Ft
set_option linter.unusedVariables false
set_option linter.unusedSimpArgs false
namespace Go.Fw
open Go.RowKit Go.Sort Go.Proofs Go.Shelf
section
variable {w0 w w' : World} {L : List Chunk}
variable {α : Type} [Inhabited α] {enc : α → List Value} {size : Nat}
theorem flatK_list (he : ∀ x, (enc x).length = size) (hs : 0 < size) (l : List α) : (flatK enc size l.toArray).toList = l.flatMap enc := by
  have hl := flat_len he l
  apply List.ext_getElem?
  intro i
  by_cases hi : i < l.length * size
  · have hd : i / size < l.length := (Nat.div_lt_iff_lt_mul hs).2 hi
    have hx : l[i / size]? = some l[i / size] := by simp
    rw [flat_get he hs l i _ hx]
    have hm : i % size < (enc l[i / size]).length := by rw [he]; exact Nat.mod_lt _ hs
    rw [List.getElem?_eq_getElem hm]
    simp only [flatK, Array.getElem?_toList, Array.getElem?_map]
    rw [Array.getElem?_range, if_pos (by simpa using hi)]
    simp [hd, hm]
  · rw [List.getElem?_eq_none (by simp; omega), List.getElem?_eq_none (by omega)]
theorem Wd.sorted (W : Wd w0 L w) (he : ∀ x, (enc x).length = size) (hs : 0 < size) {k e cap g : Nat} {l l' : List α} (hk : L[k]? = some (rowOf e size enc (some ⟨g, 0, none⟩) cap l)) (hc : cap ≠ 0) (hl : l'.length = l.length) (m : Nat) (os : Array Obj) :
    Wd w0 (L.set k (rowOf e size enc (some ⟨g, 0, none⟩) cap l')) (sortWorldK enc size w g 0 m l'.toArray os) := by
  have h := W.get hk
  have hlt := (h.lt (b := g) ⟨hc, rfl⟩).2
  rcases h.2 with ⟨_, h0⟩ | ⟨g', cur, hA, hp, hB, hg, hn, hm, hcs, ht⟩
  · exact absurd h0 hc
  · simp only [Option.some.injEq, Addr.mk.injEq, and_true] at hA
    subst hA
    have hheap : ∀ j, j < w.heap.size → (sortWorldK enc size w g 0 m l'.toArray os).heap[j]? = if g = j then some (.cells (putCells id 0 (flatK enc size l'.toArray) cur) e (0, 0)) else w.heap[j]? := fun j hj => by
      unfold sortWorldK putRowK putRow mapBlock grow Go.Sort.ahead
      simp only
      rw [Array.getElem?_append_left (by simpa using hj), Array.getElem?_modify]
      split
      · rename_i e1
        subst e1
        rw [hg]
        rfl
      · rfl
    have hcl : (l'.flatMap enc).length = l'.length * size := flat_len he l'
    refine W.change hk ⟨rfl, rfl, rfl, by simp [sortWorldK, putRowK, putRow, mapBlock, grow, Go.Sort.ahead], fun j hj hne => ?_, by simp [sortWorldK, putRowK, putRow, mapBlock, grow, Go.Sort.ahead]⟩ ⟨by rw [flat_len he], .inr ⟨g, _, rfl, hp, hB, by rw [hheap g hlt, if_pos rfl], by rw [hl]; exact hn, hm, by simp [putCells, hcs], ?_⟩⟩ fun b hb => .inl hb
    · rw [hheap j hj, if_neg (fun e1 => hne ⟨hc, by simp [e1]⟩)]
    · have hF := flatK_list he hs l'
      have hle : l'.length * size ≤ cur.size := by rw [hcs, hl]; exact Nat.mul_le_mul_right _ hn
      apply List.ext_getElem?
      intro i
      rw [List.getElem?_take]
      split
      · rename_i hi
        rw [Array.getElem?_toList, putCells, Array.getElem?_mapIdx]
        have hF2 : (flatK enc size l'.toArray)[i]? = (l'.flatMap enc)[i]? := by rw [← hF, Array.getElem?_toList]
        rw [Array.getElem?_eq_getElem (by omega)]
        have hsz : i < (flatK enc size l'.toArray).size := by simp; omega
        simp only [Option.map_some, id_eq, Nat.zero_le, Nat.zero_add, true_and, Nat.sub_zero]
        rw [if_pos hsz, ← hF2, Array.getElem?_eq_getElem hsz, getElem!_pos _ i hsz]
      · rename_i hi
        rw [List.getElem?_eq_none (by omega)]
end
end Go.Fw
set_option linter.unusedVariables false
set_option linter.unusedSimpArgs false
set_option maxRecDepth 100000
namespace Go.Proofs.YtakpdbmdfnialaaGreat
open Go.Fw Go.Proofs Go.RowKit Go.Sort Go.Proofs.Tryz
abbrev MDot := {d : Dot // mayD d = true}
instance : Inhabited MDot := ⟨⟨⟨0, 1, 1⟩, rfl⟩⟩
abbrev MDot.enc (d : MDot) : List Value := Dot.enc d.1
end Go.Proofs.YtakpdbmdfnialaaGreat
set_option linter.unusedVariables false
set_option linter.unusedSimpArgs false
set_option maxRecDepth 100000
set_option maxHeartbeats 4000000
namespace Go.Fw
theorem cov_may {C : Ctx} {d : Dot} (hC : canL C = true) (h : C.covers d = true) : mayD d = true := by
  have hN := can_nf hC
  obtain ⟨h1, h2⟩ := (covers_iff C d).1 h
  rcases h2 with h2 | h2
  · have hm := hN.mayM _ (markOf_pos (x := d.node) (y := d.life) (l := C.marks) (by omega))
    have := may_lim hm
    unfold mayD
    simp only [decide_eq_true_eq]
    dsimp only at this
    omega
  · exact hN.mayC _ h2
end Go.Fw
namespace Go.Proofs.YtakpdbmdfnialaaGreat
open Go.Fw Go.Proofs Go.RowKit Go.Proofs.Tryz
theorem c138 (w0 : World) (v1 v2 v3 : Value) (l : List Ent) (C : Ctx) (k : Nat) (x : Ent) (h : Sl Ent.enc 6 w0 w0.heap.size v1 l) (hr : RdCtx w0 w0.heap.size v2 v3 C) (hx : l[k]? = some x) (hC : canL C = true) (hp : ∀ y ∈ l.take k, C.covers y.dot = true) (hk64 : k ≤ 64) :
    Calls Tryz.prog 138 #[.agg #[v1, v2, v3], .int .i64 (k : Int)] w0 fun e w' => e = .returned (.int .i64 (entE C (l.take k) x)) ∧ Bel w0.heap.size w0 w' := by
  have hs := h
  obtain ⟨A, cap, rfl, hl, hcap, hA⟩ := h
  have hlt : k < l.length := (List.getElem?_eq_some_iff.1 hx).1
  obtain ⟨g, o, x', rfl, hx', hd, hc⟩ := row_at hA hlt
  rw [hx] at hx'
  cases hx'
  cases rw_n : nameB x.item with
  | false =>
    have he : entE C (l.take k) x = 6 := by unfold entE; rw [if_pos rw_n]
    rw [he]
    refine enter2 func138 rfl ntmps138 rfl fun a S => wp_seq_k fun _ hK1 => wp_region_lit (st_m (op_box S (.t rfl) rfl fun g1 a w S => run S (.ac rfl <| .z) fun a w S => st_nil (then_normal (hK1 _ _ (wp_seq_k fun _ hK1 => wp_region_lit (run S (.fa underlying37 sizeOf31 0 rfl rfl rfl <| .ld gt31 0 rfl rfl rfl <| .mv rfl <| .ix underlying31 sizeOf100 (by omega) rfl rfl <| .yy (ys_ldOA ⟨isAgg100, sizeOf100⟩ (.t rfl) (vs := [_, _, _, _, _, _]) rfl (fun _ => hc)) rfl <| .z) fun a w S => st_m (op_alloc S zeroValue100 (cs := _) rfl rfl fun g2 a w S => st_m (op_stW S sizeOf100 (.t rfl) (.t rfl) (k := 0) rfl rfl rfl (by simp [Value.oneCell']) fun a w S => st_nil (then_normal (hK1 _ _ (wp_seq_k fun _ hK1 => wp_block (wp_seq_k fun _ hK2 => wp_region_lit (run S (.fa underlying100 sizeOf9 0 rfl rfl rfl <| .ld gt9 0 rfl rfl rfl <| .xx (ys_call call157 (.cons (.t rfl) .nil) (fun hp w W => c157 _ _)) rfl <| .z) fun a w S => ?_)))))))))))))
    rw [rw_n] at S
    refine run S (.nt rfl <| .as rfl <| .z) fun a w S => st_nil (then_normal (hK2 _ _ (st_then S (.t rfl) (sg S (.ac rfl <| .z) fun a w S => wp_ret (in_ret (then_ret (st_ret S (results1 S results138 (Rv.tmp rfl)) ?_)))))))
    exact ⟨rfl, S.wd.below⟩
  | true =>
  by_cases hq : x.qty < 1 ∨ 1000000 < x.qty
  · have he : entE C (l.take k) x = 52 := by unfold entE; rw [if_neg (by simp [rw_n]), if_pos hq]
    rw [he]
    have rw_q : (decide (x.qty < 1) || decide (1000000 < x.qty)) = true := by simp; omega
    refine enter2 func138 rfl ntmps138 rfl fun a S => wp_seq_k fun _ hK1 => wp_region_lit (st_m (op_box S (.t rfl) rfl fun g1 a w S => run S (.ac rfl <| .z) fun a w S => st_nil (then_normal (hK1 _ _ (wp_seq_k fun _ hK1 => wp_region_lit (run S (.fa underlying37 sizeOf31 0 rfl rfl rfl <| .ld gt31 0 rfl rfl rfl <| .mv rfl <| .ix underlying31 sizeOf100 (by omega) rfl rfl <| .yy (ys_ldOA ⟨isAgg100, sizeOf100⟩ (.t rfl) (vs := [_, _, _, _, _, _]) rfl (fun _ => hc)) rfl <| .z) fun a w S => st_m (op_alloc S zeroValue100 (cs := _) rfl rfl fun g2 a w S => st_m (op_stW S sizeOf100 (.t rfl) (.t rfl) (k := 0) rfl rfl rfl (by simp [Value.oneCell']) fun a w S => st_nil (then_normal (hK1 _ _ (wp_seq_k fun _ hK1 => wp_block (wp_seq_k fun _ hK2 => wp_region_lit (run S (.fa underlying100 sizeOf9 0 rfl rfl rfl <| .ld gt9 0 rfl rfl rfl <| .xx (ys_call call157 (.cons (.t rfl) .nil) (fun hp w W => c157 _ _)) rfl <| .z) fun a w S => ?_)))))))))))))
    rw [rw_n] at S
    refine run S (.nt rfl <| .as rfl <| .z) fun a w S => st_nil (then_normal (hK2 _ _ (st_else S (.t rfl) (wp_seq_k fun _ hK2 => wp_region_lit (run S (.fa underlying100 sizeOf3 4 rfl rfl rfl <| .ld gt3 0 rfl rfl rfl <| .yy (ys_lss (.t rfl) Ev.c) rfl <| .mv rfl <| .z) fun a w S => st_yf S rfl rfl (Yr.ys (ys_fieldN (FieldT.mk underlying100 rfl sizeOf3 rfl) (.t rfl) (i' := 4) rfl)) rfl fun a w S => st_yf S rfl rfl (Yr.ys (ys_ld ⟨isAgg3, sizeOf3⟩ (Ev.g rfl) (k := 0) rfl rfl)) rfl fun a w S => st_yf S rfl rfl (Yr.ys (ys_gtr (Ev.g rfl) Ev.c)) rfl fun a w S => run S (.yy (ys_or (.t rfl) Ev.c (Ev.g rfl)) rfl <| .z) fun a w S => ?_)))))
    rw [rw_q] at S
    refine run S (.as rfl <| .z) fun a w S => st_nil (then_normal (hK2 _ _ (st_then S (.t rfl) (sg S (.ac rfl <| .z) fun a w S => wp_ret (in_ret (then_ret (st_ret S (results1 S results138 (Rv.tmp rfl)) ?_)))))))
    exact ⟨rfl, S.wd.below⟩
  have rw_q : (decide (x.qty < 1) || decide (1000000 < x.qty)) = false := by simp; omega
  cases rw_p : priceB x.price with
  | false =>
    have he : entE C (l.take k) x = 53 := by unfold entE; rw [if_neg (by simp [rw_n]), if_neg hq, if_pos rw_p]
    rw [he]
    refine enter2 func138 rfl ntmps138 rfl fun a S => wp_seq_k fun _ hK1 => wp_region_lit (st_m (op_box S (.t rfl) rfl fun g1 a w S => run S (.ac rfl <| .z) fun a w S => st_nil (then_normal (hK1 _ _ (wp_seq_k fun _ hK1 => wp_region_lit (run S (.fa underlying37 sizeOf31 0 rfl rfl rfl <| .ld gt31 0 rfl rfl rfl <| .mv rfl <| .ix underlying31 sizeOf100 (by omega) rfl rfl <| .yy (ys_ldOA ⟨isAgg100, sizeOf100⟩ (.t rfl) (vs := [_, _, _, _, _, _]) rfl (fun _ => hc)) rfl <| .z) fun a w S => st_m (op_alloc S zeroValue100 (cs := _) rfl rfl fun g2 a w S => st_m (op_stW S sizeOf100 (.t rfl) (.t rfl) (k := 0) rfl rfl rfl (by simp [Value.oneCell']) fun a w S => st_nil (then_normal (hK1 _ _ (wp_seq_k fun _ hK1 => wp_block (wp_seq_k fun _ hK2 => wp_region_lit (run S (.fa underlying100 sizeOf9 0 rfl rfl rfl <| .ld gt9 0 rfl rfl rfl <| .xx (ys_call call157 (.cons (.t rfl) .nil) (fun hp w W => c157 _ _)) rfl <| .z) fun a w S => ?_)))))))))))))
    rw [rw_n] at S
    refine run S (.nt rfl <| .as rfl <| .z) fun a w S => st_nil (then_normal (hK2 _ _ (st_else S (.t rfl) (sg S (.fa underlying100 sizeOf3 4 rfl rfl rfl <| .ld gt3 0 rfl rfl rfl <| .yy (ys_F (by omega) (ys_lss (.t rfl) Ev.c)) rfl <| .mv rfl <| .gy rfl rfl (ys_fieldN (FieldT.mk underlying100 rfl sizeOf3 rfl) (.t rfl) (i' := 4) rfl) <| .gy rfl rfl (ys_ld ⟨isAgg3, sizeOf3⟩ (.t rfl) (k := 0) rfl rfl) <| .gy rfl rfl (ys_F (by omega) (ys_gtr (.t rfl) Ev.c)) <| .yy (ys_pickF (.t rfl) (.t rfl)) rfl <| .as rfl <| .z) fun a w S => st_else S (.t rfl) (wp_seq_k fun _ hK2 => wp_region_lit (run S (.fa underlying100 sizeOf75 5 rfl rfl rfl <| .ld gt75 0 rfl rfl rfl <| .xx (ys_call call158 (.cons (.t rfl) .nil) (fun hp w W => c158 _ _)) rfl <| .z) fun a w S => ?_))))))
    rw [rw_p] at S
    refine run S (.nt rfl <| .as rfl <| .z) fun a w S => st_nil (then_normal (hK2 _ _ (st_then S (.t rfl) (sg S (.ac rfl <| .z) fun a w S => wp_ret (in_ret (then_ret (st_ret S (results1 S results138 (Rv.tmp rfl)) ?_)))))))
    exact ⟨rfl, S.wd.below⟩
  | true =>
  have he0 : entE C (l.take k) x = if C.covers x.dot = false ∨ backE (l.take k).getLast? x = true then 50 else if x.dot ∈ (l.take k).map (·.dot) then 50 else 0 := by unfold entE; rw [if_neg (by simp [rw_n]), if_neg hq, if_neg (by simp [rw_p])]
  cases rw_c : C.covers x.dot with
  | false =>
    rw [if_pos (.inl rw_c)] at he0
    rw [he0]
    have rw_c2 : C.covers ⟨x.dot.node, x.dot.life, x.dot.count⟩ = false := rw_c
    refine enter2 func138 rfl ntmps138 rfl fun a S => wp_seq_k fun _ hK1 => wp_region_lit (st_m (op_box S (.t rfl) rfl fun g1 a w S => run S (.ac rfl <| .z) fun a w S => st_nil (then_normal (hK1 _ _ (wp_seq_k fun _ hK1 => wp_region_lit (run S (.fa underlying37 sizeOf31 0 rfl rfl rfl <| .ld gt31 0 rfl rfl rfl <| .mv rfl <| .ix underlying31 sizeOf100 (by omega) rfl rfl <| .yy (ys_ldOA ⟨isAgg100, sizeOf100⟩ (.t rfl) (vs := [_, _, _, _, _, _]) rfl (fun _ => hc)) rfl <| .z) fun a w S => st_m (op_alloc S zeroValue100 (cs := _) rfl rfl fun g2 a w S => st_m (op_stW S sizeOf100 (.t rfl) (.t rfl) (k := 0) rfl rfl rfl (by simp [Value.oneCell']) fun a w S => st_nil (then_normal (hK1 _ _ (wp_seq_k fun _ hK1 => wp_block (wp_seq_k fun _ hK2 => wp_region_lit (run S (.fa underlying100 sizeOf9 0 rfl rfl rfl <| .ld gt9 0 rfl rfl rfl <| .xx (ys_call call157 (.cons (.t rfl) .nil) (fun hp w W => c157 _ _)) rfl <| .z) fun a w S => ?_)))))))))))))
    rw [rw_n] at S
    refine run S (.nt rfl <| .as rfl <| .z) fun a w S => st_nil (then_normal (hK2 _ _ (st_else S (.t rfl) (sg S (.fa underlying100 sizeOf3 4 rfl rfl rfl <| .ld gt3 0 rfl rfl rfl <| .yy (ys_F (by omega) (ys_lss (.t rfl) Ev.c)) rfl <| .mv rfl <| .gy rfl rfl (ys_fieldN (FieldT.mk underlying100 rfl sizeOf3 rfl) (.t rfl) (i' := 4) rfl) <| .gy rfl rfl (ys_ld ⟨isAgg3, sizeOf3⟩ (.t rfl) (k := 0) rfl rfl) <| .gy rfl rfl (ys_F (by omega) (ys_gtr (.t rfl) Ev.c)) <| .yy (ys_pickF (.t rfl) (.t rfl)) rfl <| .as rfl <| .z) fun a w S => st_else S (.t rfl) (wp_seq_k fun _ hK2 => wp_region_lit (run S (.fa underlying100 sizeOf75 5 rfl rfl rfl <| .ld gt75 0 rfl rfl rfl <| .xx (ys_call call158 (.cons (.t rfl) .nil) (fun hp w W => c158 _ _)) rfl <| .z) fun a w S => ?_))))))
    rw [rw_p] at S
    refine run S (.nt rfl <| .as rfl <| .z) fun a w S => st_nil (then_normal (hK2 _ _ (st_else S (.t rfl) (wp_seq_k fun _ hK2 => st_quiet S (by kernel_rfl) (by kernel_rfl) fun a S => qrun S (.fa underlying37 sizeOf35 1 rfl rfl rfl <| .la gt35 1 rfl rfl rfl <| .fa underlying100 sizeOf74 1 rfl rfl rfl <| .la gt74 0 rfl rfl rfl <| .xx (ys_call call109 (.cons (.t rfl) (.cons (.t rfl) .nil)) (fun hp w W => c109 _ _ _ _ _ _ _ (by exact .old W (by assumption)))) rfl <| .z) fun a S => ?_))))
    rw [rw_c] at S
    refine qrun S (.nt rfl <| .mv rfl <| .sk rfl rfl rfl <| .sk rfl rfl rfl <| .sk rfl rfl rfl <| .s0 rfl rfl <| .s0 rfl rfl <| .s0 rfl rfl <| .s0 rfl rfl <| .s0 rfl rfl <| .s0 rfl rfl <| .s0 rfl rfl <| .s0 rfl rfl <| .s0 rfl rfl <| .sk rfl rfl rfl <| .yy (ys_pickT (.t rfl) Ev.c) rfl <| .as rfl <| .z) fun a S => ?_
    (refine q_nil ?_; intro w W; replace S := St.mk S W; clear W)
    refine then_normal (hK2 _ _ (st_then S (.t rfl) (sg S (.ac rfl <| .z) fun a w S => wp_ret (in_ret (then_ret (st_ret S (results1 S results138 (Rv.tmp rfl)) ?_))))))
    exact ⟨rfl, S.wd.below⟩
  | true =>
  have rw_c2 : C.covers ⟨x.dot.node, x.dot.life, x.dot.count⟩ = true := rw_c
  rcases k with _ | k
  · have hnb : ¬ (C.covers x.dot = false ∨ backE (l.take 0).getLast? x = true) := by simp [rw_c, backE]
    refine enter2 func138 rfl ntmps138 rfl fun a S => wp_seq_k fun _ hK1 => wp_region_lit (st_m (op_box S (.t rfl) rfl fun g1 a w S => run S (.ac rfl <| .z) fun a w S => st_nil (then_normal (hK1 _ _ (wp_seq_k fun _ hK1 => wp_region_lit (run S (.fa underlying37 sizeOf31 0 rfl rfl rfl <| .ld gt31 0 rfl rfl rfl <| .mv rfl <| .yy (ys_ixS (j := 0) underlying31 sizeOf100 (.t rfl) (.t rfl) (fun _ => by omega)) rfl <| .yy (ys_ldOA ⟨isAgg100, sizeOf100⟩ (.t rfl) (vs := [_, _, _, _, _, _]) rfl (fun _ => hc)) rfl <| .z) fun a w S => st_m (op_alloc S zeroValue100 (cs := _) rfl rfl fun g2 a w S => st_m (op_stW S sizeOf100 (.t rfl) (.t rfl) (k := 0) rfl rfl rfl (by simp [Value.oneCell']) fun a w S => st_nil (then_normal (hK1 _ _ (wp_seq_k fun _ hK1 => wp_block (wp_seq_k fun _ hK2 => wp_region_lit (run S (.fa underlying100 sizeOf9 0 rfl rfl rfl <| .ld gt9 0 rfl rfl rfl <| .xx (ys_call call157 (.cons (.t rfl) .nil) (fun hp w W => c157 _ _)) rfl <| .z) fun a w S => ?_)))))))))))))
    rw [rw_n] at S
    refine run S (.nt rfl <| .as rfl <| .z) fun a w S => st_nil (then_normal (hK2 _ _ (st_else S (.t rfl) (sg S (.fa underlying100 sizeOf3 4 rfl rfl rfl <| .ld gt3 0 rfl rfl rfl <| .yy (ys_F (by omega) (ys_lss (.t rfl) Ev.c)) rfl <| .mv rfl <| .gy rfl rfl (ys_fieldN (FieldT.mk underlying100 rfl sizeOf3 rfl) (.t rfl) (i' := 4) rfl) <| .gy rfl rfl (ys_ld ⟨isAgg3, sizeOf3⟩ (.t rfl) (k := 0) rfl rfl) <| .gy rfl rfl (ys_F (by omega) (ys_gtr (.t rfl) Ev.c)) <| .yy (ys_pickF (.t rfl) (.t rfl)) rfl <| .as rfl <| .z) fun a w S => st_else S (.t rfl) (wp_seq_k fun _ hK2 => wp_region_lit (run S (.fa underlying100 sizeOf75 5 rfl rfl rfl <| .ld gt75 0 rfl rfl rfl <| .xx (ys_call call158 (.cons (.t rfl) .nil) (fun hp w W => c158 _ _)) rfl <| .z) fun a w S => ?_))))))
    rw [rw_p] at S
    refine run S (.nt rfl <| .as rfl <| .z) fun a w S => st_nil (then_normal (hK2 _ _ (st_else S (.t rfl) (wp_seq_k fun _ hK2 => st_quiet S (by kernel_rfl) (by kernel_rfl) fun a S => qrun S (.fa underlying37 sizeOf35 1 rfl rfl rfl <| .la gt35 1 rfl rfl rfl <| .fa underlying100 sizeOf74 1 rfl rfl rfl <| .la gt74 0 rfl rfl rfl <| .xx (ys_call call109 (.cons (.t rfl) (.cons (.t rfl) .nil)) (fun hp w W => c109 _ _ _ _ _ _ _ (by exact .old W (by assumption)))) rfl <| .z) fun a S => ?_))))
    rw [rw_c] at S
    refine qrun S (.nt rfl <| .mv rfl <| .gy rfl rfl (ys_move (.t rfl)) <| .gy rfl rfl (ys_F (by omega) (ys_gtr (.t rfl) Ev.c)) <| .gy rfl rfl (ys_move (.t rfl)) <| .sk rfl rfl rfl <| .sk rfl rfl rfl <| .sk rfl rfl rfl <| .sk rfl rfl rfl <| .sk rfl rfl rfl <| .sk rfl rfl rfl <| .sk rfl rfl rfl <| .sk rfl rfl rfl <| .sk rfl rfl rfl <| .gy rfl rfl (ys_pickF (.t rfl) Ev.c) <| .yy (ys_pickF (.t rfl) (.t rfl)) rfl <| .as rfl <| .z) fun a S => ?_
    (refine q_nil ?_; intro w W; replace S := St.mk S W; clear W)
    refine then_normal (hK2 _ _ (st_else S (.t rfl) (wp_skip (in_normal (then_normal (hK1 _ _ (wp_seq_k fun _ hK1 => sg S (.fa underlying37 sizeOf31 0 rfl rfl rfl <| .ld gt31 1 rfl rfl rfl <| .mv rfl <| .yy (ys_slHi underlying31 sizeOf100 (.t rfl) (.t rfl) (fun _ => by first | omega | (simp; done) | (simp; omega))) rfl <| .ln underlying31 rfl <| .mc rfl <| .z) fun a w S => wp_block ?_)))))))
    refine st_lpM S [7, 59] (X := Nat) (fun j => [(59, true, .int .i64 (j : Int))]) (fun _ => [.blk g2 (.cells (Ent.enc x).toArray 100), .blk g1 (.cells #[.slice (some ⟨g, o, none⟩) l.length cap, v2, v3] 37)])
      (fun j => j ≤ 0 ∧ x.dot ∉ (l.take j).map (·.dot)) (fun j => 0 - j) 0 ⟨Nat.zero_le _, by simp⟩ ?_
    clear S
    intro j a w ⟨hj, hdup⟩ S
    by_cases hjk : j < 0
    · obtain ⟨g3, o3, y, e3, hy, hdy, hcy⟩ := row_at hA (show j < l.length by omega)
      cases e3
      by_cases he : y.dot = x.dot
      · have hin : x.dot ∈ (l.take (0)).map (·.dot) := he ▸ dup_at hjk hy
        rw [if_neg hnb, if_pos hin] at he0
        rw [he0]
        have rw_e := decide_eq_true (dot_iff3.1 he)
        refine sg S (.lt (by omega) rfl rfl <| .z) fun a w S => wp_seq_k fun _ hK2 => st_then S (.t rfl) (wp_skip (then_normal (hK2 _ _ (wp_seq_k fun _ hK2 => wp_block (wp_seq_k fun _ hK3 => wp_region_lit (run S (.ix underlying31 sizeOf100 (by omega) rfl rfl <| .yy (ys_ldOA ⟨isAgg100, sizeOf100⟩ (.t rfl) (vs := [_, _, _, _, _, _]) rfl (fun _ => hcy)) rfl <| .z) fun a w S => st_m (op_alloc S zeroValue100 (cs := _) rfl rfl fun g3 a w S => st_m (op_stW S sizeOf100 (.t rfl) (.t rfl) (k := 0) rfl rfl rfl (by simp [Value.oneCell']) fun a w S => st_nil (then_normal (hK3 _ _ (wp_seq_k fun _ hK3 => wp_region_lit (run S (.fa underlying100 sizeOf74 1 rfl rfl rfl <| .la gt74 0 rfl rfl rfl <| .fa underlying100 sizeOf74 1 rfl rfl rfl <| .la gt74 1 rfl rfl rfl <| .yy (ys_eqA (.t rfl) (.t rfl) eq74) rfl <| .z) fun a w S => ?_))))))))))))
        rw [rw_e] at S
        refine st_nil (then_normal (hK3 _ _ (st_then S (.t rfl) (sg S (.ac rfl <| .z) fun a w S => wp_ret (in_ret (then_ret (then_ret (in_ret (then_ret (st_ret S (results1 S results138 (Rv.tmp rfl)) ?_))))))))))
        exact ⟨rfl, S.wd.below⟩
      · have rw_e := decide_eq_false (fun h => he (dot_iff3.2 h))
        refine sg S (.lt (by omega) rfl rfl <| .z) fun a w S => wp_seq_k fun _ hK2 => st_then S (.t rfl) (wp_skip (then_normal (hK2 _ _ (wp_seq_k fun _ hK2 => wp_block (wp_seq_k fun _ hK3 => wp_region_lit (run S (.ix underlying31 sizeOf100 (by omega) rfl rfl <| .yy (ys_ldOA ⟨isAgg100, sizeOf100⟩ (.t rfl) (vs := [_, _, _, _, _, _]) rfl (fun _ => hcy)) rfl <| .z) fun a w S => st_m (op_alloc S zeroValue100 (cs := _) rfl rfl fun g3 a w S => st_m (op_stW S sizeOf100 (.t rfl) (.t rfl) (k := 0) rfl rfl rfl (by simp [Value.oneCell']) fun a w S => st_nil (then_normal (hK3 _ _ (wp_seq_k fun _ hK3 => wp_region_lit (run S (.fa underlying100 sizeOf74 1 rfl rfl rfl <| .la gt74 0 rfl rfl rfl <| .fa underlying100 sizeOf74 1 rfl rfl rfl <| .la gt74 1 rfl rfl rfl <| .yy (ys_eqA (.t rfl) (.t rfl) eq74) rfl <| .z) fun a w S => ?_))))))))))))
        rw [rw_e] at S
        refine st_nil (then_normal (hK3 _ _ (st_else S (.t rfl) (wp_skip (in_normal (then_normal (hK2 _ _ (wp_region_lit (run S (.ad (by unfold I64; omega) rfl <| .mv rfl <| .z) fun a w S => st_nil (then_normal ?_))))))))))
        exact ⟨j + 1, ⟨by omega, dup_step hy hdup he⟩, by omega, S.pk⟩
    · obtain rfl : j = 0 := by omega
      rw [if_neg hnb, if_neg hdup] at he0
      refine sg S (.ge (by omega) rfl rfl <| .z) fun a w S => wp_seq_k fun _ hK2 => st_else S (.t rfl) (wp_exit (then_exit (then_exit (in_here (then_normal (hK1 _ _ (sg S (.ac rfl <| .z) fun a w S => wp_ret (st_ret S (results1 S results138 (Rv.tmp rfl)) ?_))))))))
      exact ⟨by rw [he0], S.wd.below⟩
  obtain ⟨g4, o4, p, e4, hp4, hdp, hcp⟩ := row_at hA (show k < l.length by omega)
  cases e4
  rw [take_last hp4] at he0
  have hmp : mayD p.dot = true := cov_may hC (hp p (List.mem_of_getElem? (i := k) (by rw [List.getElem?_take, if_pos (by omega), hp4])))
  have hmx : mayD x.dot = true := cov_may hC rw_c
  by_cases hlt2 : ltE p x
  · have hnb : ¬ (C.covers x.dot = false ∨ backE (some p) x = true) := by simp [rw_c, backE, hlt2]
    have rw_l : decide (0 ≤ ordE p x) = false := decide_eq_false (by have := (ordE_iff p x).2 hlt2; omega)
    refine enter2 func138 rfl ntmps138 rfl fun a S => wp_seq_k fun _ hK1 => wp_region_lit (st_m (op_box S (.t rfl) rfl fun g1 a w S => run S (.ac rfl <| .z) fun a w S => st_nil (then_normal (hK1 _ _ (wp_seq_k fun _ hK1 => wp_region_lit (run S (.fa underlying37 sizeOf31 0 rfl rfl rfl <| .ld gt31 0 rfl rfl rfl <| .mv rfl <| .ix underlying31 sizeOf100 (by omega) rfl rfl <| .yy (ys_ldOA ⟨isAgg100, sizeOf100⟩ (.t rfl) (vs := [_, _, _, _, _, _]) rfl (fun _ => hc)) rfl <| .z) fun a w S => st_m (op_alloc S zeroValue100 (cs := _) rfl rfl fun g2 a w S => st_m (op_stW S sizeOf100 (.t rfl) (.t rfl) (k := 0) rfl rfl rfl (by simp [Value.oneCell']) fun a w S => st_nil (then_normal (hK1 _ _ (wp_seq_k fun _ hK1 => wp_block (wp_seq_k fun _ hK2 => wp_region_lit (run S (.fa underlying100 sizeOf9 0 rfl rfl rfl <| .ld gt9 0 rfl rfl rfl <| .xx (ys_call call157 (.cons (.t rfl) .nil) (fun hp w W => c157 _ _)) rfl <| .z) fun a w S => ?_)))))))))))))
    rw [rw_n] at S
    refine run S (.nt rfl <| .as rfl <| .z) fun a w S => st_nil (then_normal (hK2 _ _ (st_else S (.t rfl) (sg S (.fa underlying100 sizeOf3 4 rfl rfl rfl <| .ld gt3 0 rfl rfl rfl <| .yy (ys_F (by omega) (ys_lss (.t rfl) Ev.c)) rfl <| .mv rfl <| .gy rfl rfl (ys_fieldN (FieldT.mk underlying100 rfl sizeOf3 rfl) (.t rfl) (i' := 4) rfl) <| .gy rfl rfl (ys_ld ⟨isAgg3, sizeOf3⟩ (.t rfl) (k := 0) rfl rfl) <| .gy rfl rfl (ys_F (by omega) (ys_gtr (.t rfl) Ev.c)) <| .yy (ys_pickF (.t rfl) (.t rfl)) rfl <| .as rfl <| .z) fun a w S => st_else S (.t rfl) (wp_seq_k fun _ hK2 => wp_region_lit (run S (.fa underlying100 sizeOf75 5 rfl rfl rfl <| .ld gt75 0 rfl rfl rfl <| .xx (ys_call call158 (.cons (.t rfl) .nil) (fun hp w W => c158 _ _)) rfl <| .z) fun a w S => ?_))))))
    rw [rw_p] at S
    refine run S (.nt rfl <| .as rfl <| .z) fun a w S => st_nil (then_normal (hK2 _ _ (st_else S (.t rfl) (wp_seq_k fun _ hK2 => st_quiet S (by kernel_rfl) (by kernel_rfl) fun a S => qrun S (.fa underlying37 sizeOf35 1 rfl rfl rfl <| .la gt35 1 rfl rfl rfl <| .fa underlying100 sizeOf74 1 rfl rfl rfl <| .la gt74 0 rfl rfl rfl <| .xx (ys_call call109 (.cons (.t rfl) (.cons (.t rfl) .nil)) (fun hp w W => c109 _ _ _ _ _ _ _ (by exact .old W (by assumption)))) rfl <| .z) fun a S => ?_))))
    rw [rw_c] at S
    refine qrun S (.nt rfl <| .mv rfl <| .gy rfl rfl (ys_move (.t rfl)) <| .gy rfl rfl (ys_T (by omega) (ys_gtr (.t rfl) Ev.c)) <| .gy rfl rfl (ys_move (.t rfl)) <| .gy rfl rfl (ys_fieldN (FieldT.mk underlying37 rfl sizeOf31 rfl) (.t rfl) (i' := 0) rfl) <| .gy rfl rfl (ys_ld ⟨isAgg31, sizeOf31⟩ (.t rfl) (k := 1) rfl rfl) <| .gy rfl rfl (ys_move (.t rfl)) <| .gy rfl rfl (ys_pred (.t rfl) Ev.c (by omega)) <| .gy rfl rfl (ys_ixS underlying31 sizeOf100 (.t rfl) (.t rfl) (fun _ => by omega)) <| .gy rfl rfl (ys_ldOA ⟨isAgg100, sizeOf100⟩ (.t rfl) (vs := [_, _, _, _, _, _]) rfl (fun _ => hcp)) <| .gy rfl rfl (ys_ldA ⟨isAgg100, sizeOf100⟩ (.t rfl) (k := 0) rfl rfl) <| .gx rfl rfl (ys_call call179 (.cons (.t rfl) (.cons (.t rfl) .nil)) (fun hp w W => c179 _ _ _ (by assumption) (by assumption))) <| .gy rfl rfl (ys_geq (.t rfl) Ev.c) <| .z) fun a S => ?_
    rw [rw_l] at S
    refine qrun S (.gy rfl rfl (ys_pickT (.t rfl) (.t rfl)) <| .yy (ys_pickF (.t rfl) (.t rfl)) rfl <| .as rfl <| .z) fun a S => ?_
    (refine q_nil ?_; intro w W; replace S := St.mk S W; clear W)
    refine then_normal (hK2 _ _ (st_else S (.t rfl) (wp_skip (in_normal (then_normal (hK1 _ _ (wp_seq_k fun _ hK1 => sg S (.fa underlying37 sizeOf31 0 rfl rfl rfl <| .ld gt31 1 rfl rfl rfl <| .mv rfl <| .yy (ys_slHi underlying31 sizeOf100 (.t rfl) (.t rfl) (fun _ => by first | omega | (simp; done) | (simp; omega))) rfl <| .ln underlying31 rfl <| .mc rfl <| .z) fun a w S => wp_block ?_)))))))
    refine st_lpM S [7, 59] (X := Nat) (fun j => [(59, true, .int .i64 (j : Int))]) (fun _ => [.blk g2 (.cells (Ent.enc x).toArray 100), .blk g1 (.cells #[.slice (some ⟨g, o, none⟩) l.length cap, v2, v3] 37)])
      (fun j => j ≤ (k + 1) ∧ x.dot ∉ (l.take j).map (·.dot)) (fun j => (k + 1) - j) 0 ⟨Nat.zero_le _, by simp⟩ ?_
    clear S
    intro j a w ⟨hj, hdup⟩ S
    by_cases hjk : j < (k + 1)
    · obtain ⟨g3, o3, y, e3, hy, hdy, hcy⟩ := row_at hA (show j < l.length by omega)
      cases e3
      by_cases he : y.dot = x.dot
      · have hin : x.dot ∈ (l.take ((k + 1))).map (·.dot) := he ▸ dup_at hjk hy
        rw [if_neg hnb, if_pos hin] at he0
        rw [he0]
        have rw_e := decide_eq_true (dot_iff3.1 he)
        refine sg S (.lt (by omega) rfl rfl <| .z) fun a w S => wp_seq_k fun _ hK2 => st_then S (.t rfl) (wp_skip (then_normal (hK2 _ _ (wp_seq_k fun _ hK2 => wp_block (wp_seq_k fun _ hK3 => wp_region_lit (run S (.ix underlying31 sizeOf100 (by omega) rfl rfl <| .yy (ys_ldOA ⟨isAgg100, sizeOf100⟩ (.t rfl) (vs := [_, _, _, _, _, _]) rfl (fun _ => hcy)) rfl <| .z) fun a w S => st_m (op_alloc S zeroValue100 (cs := _) rfl rfl fun g3 a w S => st_m (op_stW S sizeOf100 (.t rfl) (.t rfl) (k := 0) rfl rfl rfl (by simp [Value.oneCell']) fun a w S => st_nil (then_normal (hK3 _ _ (wp_seq_k fun _ hK3 => wp_region_lit (run S (.fa underlying100 sizeOf74 1 rfl rfl rfl <| .la gt74 0 rfl rfl rfl <| .fa underlying100 sizeOf74 1 rfl rfl rfl <| .la gt74 1 rfl rfl rfl <| .yy (ys_eqA (.t rfl) (.t rfl) eq74) rfl <| .z) fun a w S => ?_))))))))))))
        rw [rw_e] at S
        refine st_nil (then_normal (hK3 _ _ (st_then S (.t rfl) (sg S (.ac rfl <| .z) fun a w S => wp_ret (in_ret (then_ret (then_ret (in_ret (then_ret (st_ret S (results1 S results138 (Rv.tmp rfl)) ?_))))))))))
        exact ⟨rfl, S.wd.below⟩
      · have rw_e := decide_eq_false (fun h => he (dot_iff3.2 h))
        refine sg S (.lt (by omega) rfl rfl <| .z) fun a w S => wp_seq_k fun _ hK2 => st_then S (.t rfl) (wp_skip (then_normal (hK2 _ _ (wp_seq_k fun _ hK2 => wp_block (wp_seq_k fun _ hK3 => wp_region_lit (run S (.ix underlying31 sizeOf100 (by omega) rfl rfl <| .yy (ys_ldOA ⟨isAgg100, sizeOf100⟩ (.t rfl) (vs := [_, _, _, _, _, _]) rfl (fun _ => hcy)) rfl <| .z) fun a w S => st_m (op_alloc S zeroValue100 (cs := _) rfl rfl fun g3 a w S => st_m (op_stW S sizeOf100 (.t rfl) (.t rfl) (k := 0) rfl rfl rfl (by simp [Value.oneCell']) fun a w S => st_nil (then_normal (hK3 _ _ (wp_seq_k fun _ hK3 => wp_region_lit (run S (.fa underlying100 sizeOf74 1 rfl rfl rfl <| .la gt74 0 rfl rfl rfl <| .fa underlying100 sizeOf74 1 rfl rfl rfl <| .la gt74 1 rfl rfl rfl <| .yy (ys_eqA (.t rfl) (.t rfl) eq74) rfl <| .z) fun a w S => ?_))))))))))))
        rw [rw_e] at S
        refine st_nil (then_normal (hK3 _ _ (st_else S (.t rfl) (wp_skip (in_normal (then_normal (hK2 _ _ (wp_region_lit (run S (.ad (by unfold I64; omega) rfl <| .mv rfl <| .z) fun a w S => st_nil (then_normal ?_))))))))))
        exact ⟨j + 1, ⟨by omega, dup_step hy hdup he⟩, by omega, S.pk⟩
    · obtain rfl : j = (k + 1) := by omega
      rw [if_neg hnb, if_neg hdup] at he0
      refine sg S (.ge (by omega) rfl rfl <| .z) fun a w S => wp_seq_k fun _ hK2 => st_else S (.t rfl) (wp_exit (then_exit (then_exit (in_here (then_normal (hK1 _ _ (sg S (.ac rfl <| .z) fun a w S => wp_ret (st_ret S (results1 S results138 (Rv.tmp rfl)) ?_))))))))
      exact ⟨by rw [he0], S.wd.below⟩
  · rw [if_pos (.inr (by simp [backE, hlt2]))] at he0
    rw [he0]
    have rw_l : decide (0 ≤ ordE p x) = true := decide_eq_true (by have : ¬ ordE p x < 0 := fun h => hlt2 ((ordE_iff p x).1 h); omega)
    refine enter2 func138 rfl ntmps138 rfl fun a S => wp_seq_k fun _ hK1 => wp_region_lit (st_m (op_box S (.t rfl) rfl fun g1 a w S => run S (.ac rfl <| .z) fun a w S => st_nil (then_normal (hK1 _ _ (wp_seq_k fun _ hK1 => wp_region_lit (run S (.fa underlying37 sizeOf31 0 rfl rfl rfl <| .ld gt31 0 rfl rfl rfl <| .mv rfl <| .ix underlying31 sizeOf100 (by omega) rfl rfl <| .yy (ys_ldOA ⟨isAgg100, sizeOf100⟩ (.t rfl) (vs := [_, _, _, _, _, _]) rfl (fun _ => hc)) rfl <| .z) fun a w S => st_m (op_alloc S zeroValue100 (cs := _) rfl rfl fun g2 a w S => st_m (op_stW S sizeOf100 (.t rfl) (.t rfl) (k := 0) rfl rfl rfl (by simp [Value.oneCell']) fun a w S => st_nil (then_normal (hK1 _ _ (wp_seq_k fun _ hK1 => wp_block (wp_seq_k fun _ hK2 => wp_region_lit (run S (.fa underlying100 sizeOf9 0 rfl rfl rfl <| .ld gt9 0 rfl rfl rfl <| .xx (ys_call call157 (.cons (.t rfl) .nil) (fun hp w W => c157 _ _)) rfl <| .z) fun a w S => ?_)))))))))))))
    rw [rw_n] at S
    refine run S (.nt rfl <| .as rfl <| .z) fun a w S => st_nil (then_normal (hK2 _ _ (st_else S (.t rfl) (sg S (.fa underlying100 sizeOf3 4 rfl rfl rfl <| .ld gt3 0 rfl rfl rfl <| .yy (ys_F (by omega) (ys_lss (.t rfl) Ev.c)) rfl <| .mv rfl <| .gy rfl rfl (ys_fieldN (FieldT.mk underlying100 rfl sizeOf3 rfl) (.t rfl) (i' := 4) rfl) <| .gy rfl rfl (ys_ld ⟨isAgg3, sizeOf3⟩ (.t rfl) (k := 0) rfl rfl) <| .gy rfl rfl (ys_F (by omega) (ys_gtr (.t rfl) Ev.c)) <| .yy (ys_pickF (.t rfl) (.t rfl)) rfl <| .as rfl <| .z) fun a w S => st_else S (.t rfl) (wp_seq_k fun _ hK2 => wp_region_lit (run S (.fa underlying100 sizeOf75 5 rfl rfl rfl <| .ld gt75 0 rfl rfl rfl <| .xx (ys_call call158 (.cons (.t rfl) .nil) (fun hp w W => c158 _ _)) rfl <| .z) fun a w S => ?_))))))
    rw [rw_p] at S
    refine run S (.nt rfl <| .as rfl <| .z) fun a w S => st_nil (then_normal (hK2 _ _ (st_else S (.t rfl) (wp_seq_k fun _ hK2 => st_quiet S (by kernel_rfl) (by kernel_rfl) fun a S => qrun S (.fa underlying37 sizeOf35 1 rfl rfl rfl <| .la gt35 1 rfl rfl rfl <| .fa underlying100 sizeOf74 1 rfl rfl rfl <| .la gt74 0 rfl rfl rfl <| .xx (ys_call call109 (.cons (.t rfl) (.cons (.t rfl) .nil)) (fun hp w W => c109 _ _ _ _ _ _ _ (by exact .old W (by assumption)))) rfl <| .z) fun a S => ?_))))
    rw [rw_c] at S
    refine qrun S (.nt rfl <| .mv rfl <| .gy rfl rfl (ys_move (.t rfl)) <| .gy rfl rfl (ys_T (by omega) (ys_gtr (.t rfl) Ev.c)) <| .gy rfl rfl (ys_move (.t rfl)) <| .gy rfl rfl (ys_fieldN (FieldT.mk underlying37 rfl sizeOf31 rfl) (.t rfl) (i' := 0) rfl) <| .gy rfl rfl (ys_ld ⟨isAgg31, sizeOf31⟩ (.t rfl) (k := 1) rfl rfl) <| .gy rfl rfl (ys_move (.t rfl)) <| .gy rfl rfl (ys_pred (.t rfl) Ev.c (by omega)) <| .gy rfl rfl (ys_ixS underlying31 sizeOf100 (.t rfl) (.t rfl) (fun _ => by omega)) <| .gy rfl rfl (ys_ldOA ⟨isAgg100, sizeOf100⟩ (.t rfl) (vs := [_, _, _, _, _, _]) rfl (fun _ => hcp)) <| .gy rfl rfl (ys_ldA ⟨isAgg100, sizeOf100⟩ (.t rfl) (k := 0) rfl rfl) <| .gx rfl rfl (ys_call call179 (.cons (.t rfl) (.cons (.t rfl) .nil)) (fun hp w W => c179 _ _ _ (by assumption) (by assumption))) <| .gy rfl rfl (ys_geq (.t rfl) Ev.c) <| .z) fun a S => ?_
    rw [rw_l] at S
    refine qrun S (.gy rfl rfl (ys_pickT (.t rfl) (.t rfl)) <| .yy (ys_pickF (.t rfl) (.t rfl)) rfl <| .as rfl <| .z) fun a S => ?_
    (refine q_nil ?_; intro w W; replace S := St.mk S W; clear W)
    refine then_normal (hK2 _ _ (st_then S (.t rfl) (sg S (.ac rfl <| .z) fun a w S => wp_ret (in_ret (then_ret (st_ret S (results1 S results138 (Rv.tmp rfl)) ?_))))))
    exact ⟨rfl, S.wd.below⟩
theorem c66 (w0 : World) (v1 v2 v3 : Value) (c : Cart) (h : Sl Ent.enc 6 w0 w0.heap.size v1 c.ents) (hr : RdCtx w0 w0.heap.size v2 v3 c.ctx) :
    Calls Tryz.prog 66 #[.agg #[v1, v2, v3]] w0 fun e w' => e = .returned (.int .i64 (canE c)) ∧ Bel w0.heap.size w0 w' := by
  obtain ⟨l, C⟩ := c
  dsimp only at h hr
  have hs := h
  obtain ⟨A, cap, rfl, hl, hcap, hA⟩ := h
  unfold canE
  dsimp only
  cases rw_C : canL C with
  | false =>
    refine enter1 func66 rfl ntmps66 rfl fun a S => wp_seq_k fun _ hK1 => wp_region_lit (st_m (op_box S (.t rfl) rfl fun g1 a w S => run S (.ac rfl <| .z) fun a w S => st_nil (then_normal (hK1 _ _ (wp_seq_k fun _ hK1 => wp_block (wp_seq_k fun _ hK2 => wp_region_lit (run S (.fa underlying37 sizeOf35 1 rfl rfl rfl <| .la gt35 0 rfl rfl rfl <| .xx (ys_call call137 (.cons (.t rfl) .nil) (fun hp w W => c137 _ _ _ _ (by exact .old W (by assumption)))) rfl <| .z) fun a w S => ?_)))))))
    rw [rw_C] at S
    refine run S (.nt rfl <| .as rfl <| .z) fun a w S => st_nil (then_normal (hK2 _ _ (st_then S (.t rfl) (sg S (.ac rfl <| .z) fun a w S => wp_ret (in_ret (then_ret (st_ret S (results1 S results66 (Rv.tmp rfl)) ?_)))))))
    exact ⟨rfl, S.wd.below⟩
  | true =>
  rw [if_neg (by simp)]
  by_cases hbig : 64 < l.length
  · refine enter1 func66 rfl ntmps66 rfl fun a S => wp_seq_k fun _ hK1 => wp_region_lit (st_m (op_box S (.t rfl) rfl fun g1 a w S => run S (.ac rfl <| .z) fun a w S => st_nil (then_normal (hK1 _ _ (wp_seq_k fun _ hK1 => wp_block (wp_seq_k fun _ hK2 => wp_region_lit (run S (.fa underlying37 sizeOf35 1 rfl rfl rfl <| .la gt35 0 rfl rfl rfl <| .xx (ys_call call137 (.cons (.t rfl) .nil) (fun hp w W => c137 _ _ _ _ (by exact .old W (by assumption)))) rfl <| .z) fun a w S => ?_)))))))
    rw [rw_C] at S
    refine run S (.nt rfl <| .as rfl <| .z) fun a w S => st_nil (then_normal (hK2 _ _ (st_else S (.t rfl) (sg S (.fa underlying37 sizeOf31 0 rfl rfl rfl <| .ld gt31 0 rfl rfl rfl <| .ln underlying31 rfl <| .yy (ys_T (by omega) (ys_gtr (.t rfl) Ev.c)) rfl <| .as rfl <| .z) fun a w S => st_then S (.t rfl) (sg S (.ac rfl <| .z) fun a w S => wp_ret (in_ret (then_ret (st_ret S (results1 S results66 (Rv.tmp rfl)) ?_))))))))
    exact ⟨by rw [if_pos hbig], S.wd.below⟩
  rw [if_neg hbig]
  refine enter1 func66 rfl ntmps66 rfl fun a S => wp_seq_k fun _ hK1 => wp_region_lit (st_m (op_box S (.t rfl) rfl fun g1 a w S => run S (.ac rfl <| .z) fun a w S => st_nil (then_normal (hK1 _ _ (wp_seq_k fun _ hK1 => wp_block (wp_seq_k fun _ hK2 => wp_region_lit (run S (.fa underlying37 sizeOf35 1 rfl rfl rfl <| .la gt35 0 rfl rfl rfl <| .xx (ys_call call137 (.cons (.t rfl) .nil) (fun hp w W => c137 _ _ _ _ (by exact .old W (by assumption)))) rfl <| .z) fun a w S => ?_)))))))
  rw [rw_C] at S
  refine run S (.nt rfl <| .as rfl <| .z) fun a w S => st_nil (then_normal (hK2 _ _ (st_else S (.t rfl) (sg S (.fa underlying37 sizeOf31 0 rfl rfl rfl <| .ld gt31 0 rfl rfl rfl <| .ln underlying31 rfl <| .yy (ys_F (by omega) (ys_gtr (.t rfl) Ev.c)) rfl <| .as rfl <| .z) fun a w S => st_else S (.t rfl) (wp_skip (in_normal (then_normal (hK1 _ _ (wp_seq_k fun _ hK1 => sg S (.fa underlying37 sizeOf31 0 rfl rfl rfl <| .ld gt31 0 rfl rfl rfl <| .ln underlying31 rfl <| .mc rfl <| .z) fun a w S => wp_block ?_)))))))))
  refine st_lpM S [3, 4, 18] (X := Nat) (fun k => [(18, true, .int .i64 (k : Int))]) (fun _ => [.blk g1 (.cells #[.slice A l.length cap, v2, v3] 37)])
    (fun k => k ≤ l.length ∧ (∀ y ∈ l.take k, C.covers y.dot = true) ∧ entsE C (l.take k) (l.drop k) = entsE C [] l) (fun k => l.length - k) 0 ⟨Nat.zero_le _, by simp, rfl⟩ ?_
  clear S
  intro k a w ⟨hk, hcov, hno⟩ S
  by_cases hlt : k < l.length
  rotate_left
  · obtain rfl : k = l.length := by omega
    rw [List.drop_length, entsE] at hno
    by_cases hi : 32 < itemsN l
    · refine sg S (.ge (by omega) rfl rfl <| .z) fun a w S => wp_seq_k fun _ hK2 => st_else S (.t rfl) (wp_exit (then_exit (then_exit (in_here (then_normal (hK1 _ _ (wp_seq_k fun _ hK1 => sg S (.fa underlying37 sizeOf31 0 rfl rfl rfl <| .ld gt31 0 rfl rfl rfl <| .xx (ys_call call139 (.cons (.t rfl) .nil) (fun hp w W => c139 _ _ _ (by exact .old W (by assumption)) (by omega))) rfl <| .yy (ys_T (by omega) (ys_gtr (.t rfl) Ev.c)) rfl <| .z) fun a w S => st_then S (.t rfl) (sg S (.ac rfl <| .z) fun a w S => wp_ret (then_ret (st_ret S (results1 S results66 (Rv.tmp rfl)) ?_))))))))))
      exact ⟨by rw [if_pos hno.symm, if_pos hi], S.wd.below⟩
    · refine sg S (.ge (by omega) rfl rfl <| .z) fun a w S => wp_seq_k fun _ hK2 => st_else S (.t rfl) (wp_exit (then_exit (then_exit (in_here (then_normal (hK1 _ _ (wp_seq_k fun _ hK1 => sg S (.fa underlying37 sizeOf31 0 rfl rfl rfl <| .ld gt31 0 rfl rfl rfl <| .xx (ys_call call139 (.cons (.t rfl) .nil) (fun hp w W => c139 _ _ _ (by exact .old W (by assumption)) (by omega))) rfl <| .yy (ys_F (by omega) (ys_gtr (.t rfl) Ev.c)) rfl <| .z) fun a w S => st_else S (.t rfl) (wp_skip (then_normal (hK1 _ _ (sg S (.ac rfl <| .z) fun a w S => wp_ret (st_ret S (results1 S results66 (Rv.tmp rfl)) ?_))))))))))))
      exact ⟨by rw [if_pos hno.symm, if_neg hi], S.wd.below⟩
  obtain ⟨x, hx⟩ : ∃ x, l[k]? = some x := ⟨_, List.getElem?_eq_getElem hlt⟩
  have hst := ents_step (C := C) hx
  rw [hno] at hst
  by_cases he : entE C (l.take k) x = 0
  · have hcx := (entE_ok.1 he).1.cov
    rw [if_pos he] at hst
    have rw_e := he
    refine sg S (.lt (by omega) rfl rfl <| .z) fun a w S => wp_seq_k fun _ hK2 => st_then S (.t rfl) (wp_skip (then_normal (hK2 _ _ (wp_seq_k fun _ hK2 => wp_block (sg S (.mv rfl <| .as rfl <| .z) fun a w S => wp_seq_k fun _ hK3 => wp_region_lit (run S (.la gt37 0 rfl rfl rfl <| .mv rfl <| .xx (ys_call call138 (.cons (.t rfl) (.cons (.t rfl) .nil)) (fun hp w W => c138 _ _ _ _ _ _ _ _ (by exact .old W (by assumption)) (by exact .old W (by assumption)) (by assumption) (by assumption) (by assumption) (by omega))) rfl <| .z) fun a w S => ?_))))))
    rw [rw_e] at S
    refine run S (.as rfl <| .z) fun a w S => st_nil (then_normal (hK3 _ _ (sg S (.mv rfl <| .yy (ys_F (by omega) (ys_neq (.t rfl) Ev.c)) rfl <| .z) fun a w S => st_else S (.t rfl) (wp_skip (in_normal (then_normal (hK2 _ _ (wp_region_lit (run S (.ad (by unfold I64; omega) rfl <| .mv rfl <| .z) fun a w S => st_nil (then_normal ?_))))))))))
    refine ⟨k + 1, ⟨by omega, fun y hy => ?_, hst.symm⟩, by omega, S.pk⟩
    rw [List.take_add_one, hx, Option.toList_some] at hy
    rcases List.mem_append.1 hy with hy | hy
    · exact hcov y hy
    · simp at hy; exact hy ▸ hcx
  · rw [if_neg he] at hst
    refine sg S (.lt (by omega) rfl rfl <| .z) fun a w S => wp_seq_k fun _ hK2 => st_then S (.t rfl) (wp_skip (then_normal (hK2 _ _ (wp_seq_k fun _ hK2 => wp_block (sg S (.mv rfl <| .as rfl <| .z) fun a w S => sg S (.la gt37 0 rfl rfl rfl <| .mv rfl <| .xx (ys_call call138 (.cons (.t rfl) (.cons (.t rfl) .nil)) (fun hp w W => c138 _ _ _ _ _ _ _ _ (by exact .old W (by assumption)) (by exact .old W (by assumption)) (by assumption) (by assumption) (by assumption) (by omega))) rfl <| .as rfl <| .z) fun a w S => sg S (.mv rfl <| .yy (ys_T (by omega) (ys_neq (.t rfl) Ev.c)) rfl <| .z) fun a w S => st_then S (.t rfl) (sg S (.mv rfl <| .as rfl <| .z) fun a w S => wp_ret (in_ret (then_ret (then_ret (in_ret (then_ret (st_ret S (results1 S results66 (Rv.tmp rfl)) ?_))))))))))))
    exact ⟨by rw [hst, if_neg he], S.wd.below⟩
end Go.Proofs.YtakpdbmdfnialaaGreat
set_option linter.unusedVariables false
set_option linter.unusedSimpArgs false
set_option maxRecDepth 100000
set_option maxHeartbeats 4000000
namespace Go.Fw
abbrev Upd.enc (u : Upd) (v1 v2 v3 : Value) : List Value := [.string (bs u.key), .int .i64 u.dot.node, .int .i64 u.dot.life, .int .i64 u.dot.count, .string (bs u.item), .int .i64 u.qty, .int .u64 (u.price.toNat : Int), v1, v2, v3]
theorem can_ctx {c : Cart} (h : canE c = 0) : canL c.ctx = true := ((canE_ok c).1 h).ctx
end Go.Fw
namespace Go.Proofs.YtakpdbmdfnialaaGreat
open Go.Fw Go.Proofs Go.RowKit Go.Proofs.Tryz
theorem sl_y1 {w0 w : World} {L : List Chunk} {k g : Nat} {t : TypeId} {fr : Nat × Nat} {x y z : Int} (W : Wd w0 L w) (hk : L[k]? = some (.blk g (.cells #[.int .i64 x, .int .i64 y, .int .i64 z] t fr))) : Sl Dot.enc 3 w w.heap.size (.slice (some ⟨g, 0, none⟩) 1 1) [⟨x, y, z⟩] := by
  refine ⟨some ⟨g, 0, none⟩, 1, rfl, by simp, by simp, fun _ => ⟨g, 0, rfl, ((W.get hk).lt (b := g) rfl).2, fun i d hd j u hj => ?_⟩⟩
  have h2 := (W.get hk).2
  rcases i with _ | i
  · simp at hd
    subst hd
    rw [cell_of_row w g (0 + 0 * 3 + j) _ t fr h2]
    simpa [Dot.enc] using hj
  · simp at hd
end Go.Proofs.YtakpdbmdfnialaaGreat
set_option linter.unusedVariables false
set_option linter.unusedSimpArgs false
set_option maxRecDepth 100000
namespace Go.Proofs.YtakpdbmdfnialaaGreat
open Go.Fw Go.Proofs Go.RowKit Go.ChangeShapes Go.WideShapes Go.ChangeAt Go.Deep Go.Joins Go.Proofs.Tryz
section
variable {H : Type} {enc : TypeId × Value → H} {w : World}
theorem Rdr.dot {t : TypeId} {i1 i2 i3 : TypeId} {k : IntKind} {f1 f2 f3 : Field} (ht : Tryz.prog.underlying t = some (.struct #[f1, f2, f3])) (ho : offs Tryz.prog [f1, f2, f3] 0 (Tryz.prog.cellsOf t) = true) (h1 : Tryz.prog.underlying f1.type = some (.int .i64)) (h2 : Tryz.prog.underlying f2.type = some (.int .i64)) (h3 : Tryz.prog.underlying f3.type = some (.int .i64)) :
    Rdr enc Tryz.prog w t fun cs _ => ∃ d : Dot, cs = Dot.enc d ∧ True := by
  refine (Rdr.struct ht ho (.cons (Rdr.int h1) (.cons (Rdr.int h2) (.cons (Rdr.int h3) .nil)))).mono ?_
  rintro cs b ⟨_, _, rfl, ⟨_, _, x, rfl, _⟩, _, _, rfl, ⟨_, _, y, rfl, _⟩, _, _, rfl, ⟨_, _, z, rfl, _⟩, rfl⟩
  exact ⟨⟨x, y, z⟩, rfl, trivial⟩
theorem rdDot : Rdr enc Tryz.prog w 74 fun cs _ => ∃ d : Dot, cs = Dot.enc d ∧ True := Rdr.dot (i1 := 0) (i2 := 0) (i3 := 0) (k := .i64) underlying74 (by kernel_rfl) underlying3 underlying3 underlying3
theorem rdMark : Rdr enc Tryz.prog w 30 fun cs _ => ∃ d : Dot, cs = Dot.enc d ∧ True := Rdr.dot (i1 := 0) (i2 := 0) (i3 := 0) (k := .i64) underlying30 (by kernel_rfl) underlying3 underlying3 underlying3
theorem u64_wf {n : Int} (h : (Lit.int .u64 n).wf = true) : ∃ p : UInt64, n = (p.toNat : Int) := by
  simp only [Lit.wf, IntKind.min, IntKind.max, IntKind.signed, IntKind.bits, Bool.and_eq_true, decide_eq_true_eq, Bool.false_eq_true, if_false] at h
  have h2 : n.toNat < 18446744073709551616 := by omega
  refine ⟨UInt64.ofNat n.toNat, ?_⟩
  rw [UInt64.toNat_ofNat', Nat.mod_eq_of_lt h2]
  omega
theorem rdEnt : Rdr enc Tryz.prog w 100 fun cs b => ∃ x : Ent, cs = Ent.enc x ∧ x.item.length ≤ b := by
  refine (Rdr.struct underlying100 (by kernel_rfl) (.cons (Rdr.str underlying9) (.cons rdDot (.cons (Rdr.int underlying3) (.cons (Rdr.int underlying75) .nil))))).mono ?_
  rintro cs b ⟨_, _, rfl, ⟨_, hb, s, rfl, hs⟩, _, _, rfl, ⟨_, _, d, rfl, _⟩, _, _, rfl, ⟨_, _, q, rfl, _⟩, _, _, rfl, ⟨_, _, n, rfl, hn⟩, rfl⟩
  obtain ⟨p, rfl⟩ := u64_wf hn
  exact ⟨⟨s, d, q, p⟩, rfl, by dsimp only; omega⟩
theorem rdCtx : Rdr enc Tryz.prog w 35 fun cs b => ∃ v2 v3 C, cs = [v2, v3] ∧ RdCtx w w.heap.size v2 v3 C ∧ C.marks.length + 1 ≤ b ∧ C.cloud.length + 1 ≤ b := by
  refine (Rdr.struct underlying35 (by kernel_rfl) (.cons (Rdr.slice (k := 3) underlying32 (by kernel_rfl) rfl (fun _ => rfl) rdMark) (.cons (Rdr.slice (k := 3) underlying33 (by kernel_rfl) rfl (fun _ => rfl) rdDot) .nil))).mono ?_
  rintro cs b ⟨_, _, rfl, ⟨_, hb, v, m, rfl, hm, hm1, _⟩, _, _, rfl, ⟨_, hb', v', d, rfl, hd, hd1, _⟩, rfl⟩
  exact ⟨v, v', ⟨m, d⟩, rfl, ⟨hm, hd⟩, by dsimp only; omega, by dsimp only; omega⟩
structure RdCart (w : World) (v1 v2 v3 : Value) (X : Cart) (b : Nat) : Prop where
  ents : Sl Ent.enc 6 w w.heap.size v1 X.ents
  ctx : RdCtx w w.heap.size v2 v3 X.ctx
  l1 : X.ents.length + 1 ≤ b
  l2 : X.ctx.marks.length + 1 ≤ b
  l3 : X.ctx.cloud.length + 1 ≤ b
  items : ∀ x ∈ X.ents, x.item.length ≤ b
theorem rdCart : Rdr enc Tryz.prog w 37 fun cs b => ∃ v1 v2 v3 X, cs = [v1, v2, v3] ∧ RdCart w v1 v2 v3 X b := by
  refine (Rdr.struct underlying37 (by kernel_rfl) (.cons (Rdr.slice (k := 6) underlying31 (by kernel_rfl) rfl (fun _ => rfl) rdEnt) (.cons rdCtx .nil))).mono ?_
  rintro cs b ⟨_, _, rfl, ⟨_, hb, v, l, rfl, hl, hl1, hli⟩, _, _, rfl, ⟨_, hb', v2, v3, C, rfl, hC, h1, h2⟩, rfl⟩
  exact ⟨v, v2, v3, ⟨l, C⟩, rfl, hl, hC, by dsimp only; omega, by dsimp only; omega, by dsimp only; omega, fun x hx => by obtain ⟨b', h3, h4⟩ := hli x hx; omega⟩
theorem read_cart {t : TypeId} (e : t = 37) {r : Reach} {b0 : Nat} {v : Value} {d : DataW H} {p : List MemPlace} (hv : Value.okWide Tryz.prog w r b0 t v) (h : DataW.Trod enc Tryz.prog w 0 (fun _ => true) true t v d p) :
    ∃ v1 v2 v3 X, v = .agg #[v1, v2, v3] ∧ RdCart w v1 v2 v3 X (Rows.uptoBulk d) := by
  subst e
  obtain ⟨v1, v2, v3, X, hc, hX⟩ := Rdr.top rdCart h
  exact ⟨v1, v2, v3, X, top_agg underlying37 hv hc, hX⟩
end
end Go.Proofs.YtakpdbmdfnialaaGreat
set_option linter.unusedVariables false
set_option linter.unusedSimpArgs false
namespace Go.Fw
open Go.RowKit
def SlIn {α : Type} (enc : α → List Value) (size : Nat) (w1 : World) (bs : List Nat) (v : Value) (l : List α) : Prop :=
  ∃ A cap, v = .slice A l.length cap ∧ l.length ≤ cap ∧ cap ≤ 9223372036854775807 ∧ (0 < l.length → ∃ g o, A = some ⟨g, o, none⟩ ∧ g ∈ bs ∧ ∀ k x, l[k]? = some x → ∀ j u, (enc x)[j]? = some u → w1.cell? ⟨g, o + k * size + j, none⟩ = some u)
def Chunk.blocks : Chunk → List Nat
  | .blk b _ => [b]
  | .row _ _ A _ cap _ => if cap = 0 then [] else (A.map (·.block)).toList
  | .ice _ bs => bs
section
variable {w0 w w1 : World} {L cs : List Chunk} {k e size : Nat} {bs bs' : List Nat}
variable {α : Type} {enc : α → List Value} {v : Value} {l : List α}
theorem ice_cell (W : Wd w0 L w) (hk : L[k]? = some (.ice w1 bs)) {g o : Nat} (hg : g ∈ bs) : w.cell? ⟨g, o, none⟩ = w1.cell? ⟨g, o, none⟩ := by
  have h := (W.get hk g hg).2.2
  simp only [World.cell?, h]
theorem SlIn.sl (h : SlIn enc size w1 bs v l) (W : Wd w0 L w) (hk : L[k]? = some (.ice w1 bs)) : Sl enc size w w.heap.size v l := by
  obtain ⟨A, cap, rfl, h1, h2, h3⟩ := h
  refine ⟨A, cap, rfl, h1, h2, fun hp => ?_⟩
  obtain ⟨g, o, rfl, hg, hc⟩ := h3 hp
  exact ⟨g, o, rfl, (W.get hk g hg).2.1, fun k x hx j u hu => (ice_cell W hk hg).trans (hc k x hx j u hu)⟩
theorem SlIn.row {A : Option Addr} {cap : Nat} (W : Wd w0 L w) (hk : L[k]? = some (rowOf e size enc A cap l)) (he : ∀ x, (enc x).length = size) (hb : ∀ b ∈ Chunk.blocks (rowOf e size enc A cap l), b ∈ bs') : SlIn enc size w bs' (.slice A l.length cap) l := by
  obtain ⟨A', cap', hv, h1, h2, h3⟩ := Sl.of_own W hk he
  cases hv
  refine ⟨A, cap, rfl, h1, h2, fun hp => ?_⟩
  obtain ⟨g, o, rfl, hg, hc⟩ := h3 hp
  exact ⟨g, o, rfl, hb g (by simp [Chunk.blocks, rowOf, show cap ≠ 0 by omega]), hc⟩
theorem SlIn.nil_ {c : Nat} : SlIn enc size w1 bs (.slice none 0 0) [] := ⟨none, 0, rfl, by simp, by simp, fun h => by simp at h⟩
end
structure Sls3 where
  a1 : Option Addr
  n1 : Nat
  c1 : Nat
  a2 : Option Addr
  n2 : Nat
  c2 : Nat
  a3 : Option Addr
  n3 : Nat
  c3 : Nat
abbrev SCart := Cart × Sls3
abbrev SUpd := Upd × Sls3
abbrev SCart.enc (p : SCart) : List Value := [.slice p.2.a1 p.2.n1 p.2.c1, .slice p.2.a2 p.2.n2 p.2.c2, .slice p.2.a3 p.2.n3 p.2.c3]
theorem SCart.enc_len (p : SCart) : (SCart.enc p).length = 3 := rfl
theorem SCart.enc_one (p : SCart) : ∀ u ∈ SCart.enc p, u.oneCell' = true := fun u hu => by simp [SCart.enc] at hu; rcases hu with rfl | rfl | rfl <;> rfl
abbrev SUpd.enc (p : SUpd) : List Value := Upd.enc p.1 (.slice p.2.a1 p.2.n1 p.2.c1) (.slice p.2.a2 p.2.n2 p.2.c2) (.slice p.2.a3 p.2.n3 p.2.c3)
theorem SUpd.enc_len (p : SUpd) : (SUpd.enc p).length = 10 := rfl
theorem SUpd.enc_one (p : SUpd) : ∀ u ∈ SUpd.enc p, u.oneCell' = true := fun u hu => by simp [SUpd.enc, Upd.enc] at hu; rcases hu with rfl | rfl | rfl | rfl | rfl | rfl | rfl | rfl | rfl | rfl <;> rfl
structure CartRd (w : World) (X : Cart) (s : Sls3) : Prop where
  ents : Sl Ent.enc 6 w w.heap.size (.slice s.a1 s.n1 s.c1) X.ents
  marks : Sl Dot.enc 3 w w.heap.size (.slice s.a2 s.n2 s.c2) X.ctx.marks
  cloud : Sl Dot.enc 3 w w.heap.size (.slice s.a3 s.n3 s.c3) X.ctx.cloud
section
variable {w0 w w1 : World} {L : List Chunk} {k : Nat} {bs bs' : List Nat} {X : Cart} {s : Sls3}
theorem CartRd.ctx (h : CartRd w X s) : RdCtx w w.heap.size (.slice s.a2 s.n2 s.c2) (.slice s.a3 s.n3 s.c3) X.ctx := ⟨h.marks, h.cloud⟩
end
end Go.Fw
set_option linter.unusedVariables false
set_option linter.unusedSimpArgs false
namespace Go.Fw
open Go.RowKit Go.Sort Go.Proofs
abbrev MEnt := {e : Ent // mayD e.dot = true}
instance : Inhabited MEnt := ⟨⟨⟨[], ⟨0, 1, 1⟩, 0, 0⟩, rfl⟩⟩
abbrev MEnt.enc (e : MEnt) : List Value := Ent.enc e.1
end Go.Fw
set_option linter.unusedVariables false
set_option linter.unusedSimpArgs false
namespace Go.Ft
open Go.RowKit
abbrev bs (l : List UInt8) : ByteArray := ⟨l.toArray⟩
section ops
variable {P : Program} {n : Nat} {w0 : World} {K : KL} {L : List Chunk} {b : Bool} {dst : Option Tmp} {ty : TypeId} {pos : String} {aft : Array Edge} {gd : Option (Nat × Bool)}
end ops
section
variable {P : Program} {n : Nat} {w0 : World} {K : KL} {L : List Chunk} {ty : TypeId} {pos : String} {aft : Array Edge} {gd : Option (Nat × Bool)} {a : Act} {w : World} {Z : Act → World → Prop} {Q : Exit → Act → World → Prop} {d : Nat}
end
section
variable {P : Program} {n : Nat} {w0 : World} {K : KL} {L : List Chunk} {ty : TypeId} {pos : String} {aft : Array Edge} {gd : Option (Nat × Bool)} {a : Act} {w : World} {Z : Act → World → Prop} {Q : Exit → Act → World → Prop} {d : Nat}
end
section
variable {P : Program} {n : Nat} {w0 : World} {K : KL} {L : List Chunk} {ty : TypeId} {pos : String} {aft : Array Edge} {gd : Option (Nat × Bool)} {a : Act} {w : World} {Z : Act → World → Prop} {Q : Exit → Act → World → Prop} {d : Nat}
end
section
variable {P : Program} {Q : Exit → Act → World → Prop} {J : Act → World → Prop} {l i : Nat} {a : Act} {w : World}
end
section ops
variable {P : Program} {n : Nat} {w0 : World} {K : KL} {L : List Chunk} {b : Bool} {dst : Option Tmp} {ty : TypeId} {pos : String} {aft : Array Edge} {gd : Option (Nat × Bool)}
end ops
end Go.Ft
set_option linter.unusedVariables false
set_option linter.unusedSimpArgs false
namespace Go.Ft
open Go.RowKit
section ops
variable {P : Program} {n : Nat} {w0 : World} {K : KL} {L : List Chunk} {b : Bool} {dst : Option Tmp} {ty : TypeId} {pos : String} {aft : Array Edge} {gd : Option (Nat × Bool)}
end ops
section
variable {n : Nat} {w0 : World} {K : KL} {L : List Chunk} {a : Act} {w : World} {c : Chunk}
end
theorem Wd.cell {w0 w : World} {L : List Chunk} (W : Wd w0 L w) {k g i : Nat} {cs : List Value} {e : TypeId} {fr : Nat × Nat} {v : Value} (hk : L[k]? = some (.blk g (.cells cs.toArray e fr))) (hc : nth cs i = some v) : w.cell? ⟨g, i, none⟩ = some v := by
  rw [cell_of_row w g i _ e fr (W.get hk).2]
  rw [nth_eq] at hc
  simpa using hc
section split
variable {P : Program} {Q : Exit → Act → World → Prop} {n : Nat} {w0 : World} {K : KL} {L Lr : List Chunk} {a : Act} {w : World} {ops : Array Oper} {fuel : Nat} {listed : Array Bool} {md : Region.Mode}
end split
section
variable {P : Program} {n : Nat} {w0 : World} {K : KL} {L : List Chunk} {ty : TypeId} {pos : String} {aft : Array Edge} {gd : Option (Nat × Bool)} {a : Act} {w : World} {Z : Act → World → Prop} {Q : Exit → Act → World → Prop} {d : Nat}
end
end Go.Ft
set_option linter.unusedVariables false
set_option linter.unusedSimpArgs false
namespace Go.Ft
open Go.RowKit
def ltM (a b : Dot) : Prop := a.node < b.node ∨ (a.node = b.node ∧ a.life < b.life)
def ltC (a b : Dot) : Prop := a.node < b.node ∨ (a.node = b.node ∧ (a.life < b.life ∨ (a.life = b.life ∧ a.count < b.count)))
theorem belowC_iff (a b : Dot) : belowD a b = true ↔ ltC a b := by
  simp only [belowD, ltC]
  split
  · simp; omega
  · split <;> simp <;> omega
structure Nf (C : Ctx) : Prop where
  marks : C.marks.Pairwise ltM
  cloud : C.cloud.Pairwise ltC
  mayM : ∀ x ∈ C.marks, mayD x = true
  mayC : ∀ x ∈ C.cloud, mayD x = true
  gap : ∀ x ∈ C.cloud, markOf C.marks x.node x.life + 1 < x.count
end Go.Ft
set_option linter.unusedVariables false
set_option linter.unusedSimpArgs false
namespace Go.Ft
open Go.RowKit
structure Ent where
  item : List UInt8
  dot : Dot
  qty : Int
  price : UInt64
deriving DecidableEq
abbrev Ent.enc (e : Ent) : List Value := [.string (bs e.item), .int .i64 e.dot.node, .int .i64 e.dot.life, .int .i64 e.dot.count, .int .i64 e.qty, .int .u64 (e.price.toNat : Int)]
structure Cart where
  ents : List Ent
  ctx : Ctx
deriving DecidableEq
abbrev Cart.zero : Cart := ⟨[], ⟨[], []⟩⟩
structure Line where
  item : List UInt8
  qty : Int
  price : UInt64
deriving DecidableEq
abbrev Line.enc (e : Line) : List Value := [.string (bs e.item), .int .i64 e.qty, .int .u64 (e.price.toNat : Int)]
def ltE (a b : Ent) : Prop := Op.bytesLess a.item b.item = true ∨ (a.item = b.item ∧ ltC a.dot b.dot)
instance (a b : Ent) : Decidable (ltE a b) := decidable_of_iff (Op.bytesLess a.item b.item = true ∨ (a.item = b.item ∧ belowD a.dot b.dot = true)) (by rw [belowC_iff]; rfl)
def clashE (a b : Cart) : Prop := ∃ x ∈ a.ents, ∃ y ∈ b.ents, x.dot = y.dot ∧ x ≠ y
instance (a b : Cart) : Decidable (clashE a b) := by unfold clashE; infer_instance
end Go.Ft
set_option linter.unusedVariables false
set_option linter.unusedSimpArgs false
set_option maxRecDepth 100000
namespace Go.Proofs.YtakpdbmdfnialaaGreat
open Go.Fw Go.Proofs Go.RowKit Go.Proofs.Tryz
theorem c135 (w0 : World) (v1 : Value) (l : List Dot) (h : Sl Dot.enc 3 w0 w0.heap.size v1 l) (hn : l.length ≤ 4194304) :
    Rets Tryz.prog 135 #[v1] w0 fun v L => ∃ A c, v = .slice A l.length c ∧ L = [rowOf 30 3 Dot.enc A c l] := by
  have h0 := h
  obtain ⟨A, cap, rfl, hl, hcap, hA⟩ := h
  unfold Go.Fw.Rets
  refine enter1 func135 rfl ntmps135 rfl fun a S => sg S (.ac rfl <| .z) fun a w S => wp_seq_k fun _ hK1 => sg S (.mv rfl <| .yy (ys_sNil underlying32 (.t rfl) Ev.c) rfl <| .z) fun a w S => ?_
  refine st_cond S (.t rfl) (fun h1 => ?_) (fun h1 => ?_)
  refine sg S (.ac rfl <| .z) fun a w S => wp_ret (then_ret (st_ret S (results1 S results135 (Rv.tmp rfl)) ?_))
  rotate_left
  refine wp_skip (then_normal (hK1 _ _ (wp_seq_k fun _ hK1 => wp_region_lit (st_m (op_bslice0 S underlying32 sizeOf30 rfl fun g1 a w S => run S (.mv rfl <| .z) fun a w S => st_m (op_extend _ (S.nil_ 30 _ Go.Fw.Dot.enc _) underlying32 underlying32 (.inr ⟨_, rfl⟩) inf30 rfl (k := 0) rfl (.t rfl) (.t rfl) (Src.sl (Sl.old S.wd h0) (by decide) Go.Fw.Dot.enc_len Go.Fw.Dot.enc_one) (by first | omega | (simp only [List.length_append, List.length_cons, List.length_nil]; omega) | (simp; omega)) rfl rfl rfl fun A1 cap1 a w S => ?_))))))
  simp only [List.nil_append] at S
  refine run S (.as rfl <| .z) fun a w S => st_nil (then_normal (hK1 _ _ (wp_ret (st_ret S (results1 S results135 (Rv.tmp rfl)) ?_))))
  rotate_left
  · have hnil : l = [] := by
      refine List.eq_nil_of_length_eq_zero (Decidable.byContradiction fun hne => ?_)
      obtain ⟨g, o, rfl, _⟩ := hA (by omega)
      cases h1
    subst hnil
    exact ⟨_, _, rfl, (S.nil_ 30 3 Dot.enc none).wd.sub (by repeat (first | exact List.Sublist.refl _ | exact List.nil_sublist _ | refine .cons_cons _ ?_ | refine .cons _ ?_)), none, 0, rfl, rfl⟩
  · try simp only [List.nil_append] at S ⊢
    exact ⟨_, _, rfl, S.wd.sub (by repeat (first | exact List.Sublist.refl _ | exact List.nil_sublist _ | refine .cons_cons _ ?_ | refine .cons _ ?_)), _, _, rfl, rfl⟩
end Go.Proofs.YtakpdbmdfnialaaGreat
set_option linter.unusedVariables false
set_option linter.unusedSimpArgs false
set_option maxRecDepth 100000
set_option maxHeartbeats 4000000
namespace Go.Proofs.YtakpdbmdfnialaaGreat
open Go.Fw Go.Proofs Go.RowKit Go.Proofs.Tryz
theorem c65 (w0 : World) (v1 v2 : Value) (C : Ctx) (h : RdCtx w0 w0.heap.size v1 v2 C) (hn : C.marks.length ≤ 1048576) (hn' : C.cloud.length ≤ 1048576) :
    Rets Tryz.prog 65 #[.agg #[v1, v2]] w0 fun v L => ∃ A1 r1 A2 r2, v = .agg #[.slice A1 C.marks.length r1, .slice A2 C.cloud.length r2] ∧
      L = [rowOf 30 3 Dot.enc A1 r1 C.marks, rowOf 74 3 Dot.enc A2 r2 C.cloud] := by
  obtain ⟨h1, h2⟩ := id h
  obtain ⟨B1, q1, rfl, _⟩ := id h1
  obtain ⟨B2, q2, rfl, _⟩ := id h2
  unfold Go.Fw.Rets
  refine enter1 func65 rfl ntmps65 rfl fun a S => wp_seq_k fun _ hK1 => wp_region_lit (st_m (op_box S (.t rfl) rfl fun g1 a w S => st_m (op_alloc S zeroValue35 (cs := _) rfl rfl fun g2 a w S => st_nil (then_normal (hK1 _ _ (wp_seq_k fun _ hK1 => h_beginE S (by kernel_rfl) 0 fun a w S => hy 0 S rfl (ys_fieldN (FieldT.mk underlying35 rfl sizeOf32 rfl) (.t rfl) (i' := 0) rfl) rfl fun a w S => hy 1 S rfl (ys_ld ⟨isAgg32, sizeOf32⟩ (.t rfl) (k := 0) rfl rfl) rfl fun a w S => hy 3 S rfl (ys_fieldN (FieldT.mk underlying35 rfl sizeOf33 rfl) (.t rfl) (i' := 1) rfl) rfl fun a w S => ?_))))))
  refine hy 4 S rfl (ys_ld ⟨isAgg33, sizeOf33⟩ (.t rfl) (k := 0) rfl rfl) rfl fun a w S => ?_
  (refine h_m (i := 2) rfl (by kernel_rfl) (op_calls S call135 (.cons (.t rfl) .nil) (c135 _ _ _ (by exact .old S.wd (by assumption)) (by omega)) rfl ?_); clear S a w; rintro _ _ ⟨A1, c1, rfl, rfl⟩ a w S; refine h_n1 S ?_)
  (refine h_m (i := 5) rfl (by kernel_rfl) (op_calls S call136 (.cons (.t rfl) .nil) (c136 _ _ _ (by exact .old S.wd (by assumption)) (by omega)) rfl ?_); clear S a w; rintro _ _ ⟨A2, c2, rfl, rfl⟩ a w S; refine h_n1 S ?_)
  refine hy 6 S rfl (ys_bld (ps := [(0, Go.Operand.tmp 5), (1, Go.Operand.tmp 8)]) (us := [_, _]) bld35 (.cons (.t rfl) (.cons (.t rfl) .nil)) rfl) rfl fun a w S => ?_
  (refine h_m0 (i := 7) rfl (by kernel_rfl) (op_stW S sizeOf35 (.t rfl) (.t rfl) (k := 2) rfl rfl rfl (by simp [Value.oneCell']) ?_); clear S a w; intro a w S; refine h_n1 S ?_)
  refine h_done (by kernel_rfl) (then_normal (hK1 _ _ (wp_ret (st_ret S (results1 S results65 (Rv.cell (k := 2) ⟨isAgg35, sizeOf35⟩ rfl rfl rfl)) ?_))))
  (replace S := S.pull 1 rfl; try simp only [List.set_cons_zero, List.set_cons_succ, List.eraseIdx_cons_succ, List.eraseIdx_cons_zero] at S)
  exact ⟨_, _, rfl, S.wd.sub (by repeat (first | exact List.Sublist.refl _ | exact List.nil_sublist _ | refine .cons_cons _ ?_ | refine .cons _ ?_)), _, _, _, _, rfl, rfl⟩
end Go.Proofs.YtakpdbmdfnialaaGreat
set_option linter.unusedVariables false
set_option linter.unusedSimpArgs false
set_option maxRecDepth 100000
set_option maxHeartbeats 4000000
namespace Go.Fw
theorem filter_yes {α : Type} {p : α → Bool} {l : List α} {k : Nat} {x : α} (h : l[k]? = some x) (hp : p x = true) : (l.take (k + 1)).filter p = (l.take k).filter p ++ [x] := by
  rw [List.take_add_one, h, Option.toList_some]
  simp [hp]
theorem filter_no {α : Type} {p : α → Bool} {l : List α} {k : Nat} {x : α} (h : l[k]? = some x) (hp : p x = false) : (l.take (k + 1)).filter p = (l.take k).filter p := by
  rw [List.take_add_one, h, Option.toList_some]
  simp [hp]
theorem filter_take {α : Type} (p : α → Bool) (l : List α) (k : Nat) : ((l.take k).filter p).length ≤ l.length := by
  have h1 := List.length_filter_le p (l.take k)
  have h2 : (l.take k).length ≤ l.length := by rw [List.length_take]; omega
  omega
end Go.Fw
namespace Go.Proofs.YtakpdbmdfnialaaGreat
open Go.Fw Go.Proofs Go.RowKit Go.Proofs.Tryz
end Go.Proofs.YtakpdbmdfnialaaGreat
set_option linter.unusedVariables false
set_option linter.unusedSimpArgs false
set_option maxRecDepth 100000
set_option maxHeartbeats 4000000
namespace Go.Fw
theorem cart_same {X Y : Cart} : (decide (X.ents = Y.ents) && decide (X.ctx = Y.ctx)) = decide (X = Y) := by
  cases X; cases Y; simp
theorem any_no {α : Type} {p : α → Bool} {l : List α} {k : Nat} {x : α} (h : l[k]? = some x) (hn : (l.take k).any p = false) (hp : p x = false) : (l.take (k + 1)).any p = false := by
  rw [List.take_add_one, h, Option.toList_some, List.any_append, hn]
  simp [hp]
theorem any_yes {α : Type} {p : α → Bool} {l : List α} {k : Nat} {x : α} (h : l[k]? = some x) (hp : p x = true) : l.any p = true := List.any_eq_true.2 ⟨x, List.mem_of_getElem? h, hp⟩
end Go.Fw
namespace Go.Proofs.YtakpdbmdfnialaaGreat
open Go.Fw Go.Proofs Go.RowKit Go.Proofs.Tryz
theorem c68 (w0 : World) (v1 v2 v3 : Value) (X : Cart) (p q : Int) (h : Sl Ent.enc 6 w0 w0.heap.size v1 X.ents) (hr : RdCtx w0 w0.heap.size v2 v3 X.ctx) (hl1 : X.ents.length ≤ 1048576) (hl2 : X.ctx.marks.length ≤ 1048576) (hl3 : X.ctx.cloud.length ≤ 1048576) :
    Rets Tryz.prog 68 #[.agg #[v1, v2, v3], .agg #[.int .i64 p, .int .i64 q]] w0 fun v L => ∃ A1 r1 A2 r2 A3 r3, v = .agg #[.slice A1 (pruneK X p q).ents.length r1, .slice A2 (pruneK X p q).ctx.marks.length r2, .slice A3 (pruneK X p q).ctx.cloud.length r3] ∧
      L = [rowOf 100 6 Ent.enc A1 r1 (pruneK X p q).ents, rowOf 30 3 Dot.enc A2 r2 (pruneK X p q).ctx.marks, rowOf 74 3 Dot.enc A3 r3 (pruneK X p q).ctx.cloud] := by
  have hs := h
  have hrr := hr
  obtain ⟨A, cap, rfl, hl, hcap, hA⟩ := h
  obtain ⟨⟨A2, cap2, rfl, _⟩, ⟨A3, cap3, rfl, _⟩⟩ := hr
  unfold Go.Fw.Rets
  refine enter2 func68 rfl ntmps68 rfl fun a S => wp_seq_k fun _ hK1 => wp_region_lit (st_m (op_box S (.t rfl) rfl fun g1 a w S => st_m (op_box S (.t rfl) rfl fun g2 a w S => st_m (op_alloc S zeroValue37 (cs := _) rfl rfl fun g3 a w S => st_nil (then_normal (hK1 _ _ (wp_seq_k fun _ hK1 => wp_region_lit (run S (.fa underlying37 sizeOf35 1 rfl rfl rfl <| .la gt35 2 rfl rfl rfl <| .la gt66 1 rfl rfl rfl <| .z) fun a w S => ?_))))))))
  (refine st_m (op_calls S call142 (.cons (.t rfl) (.cons (.t rfl) .nil)) (c142 _ _ _ _ _ _ (by exact .old S.wd (by assumption)) (by assumption) (by assumption)) rfl ?_); clear S a w; rintro _ _ ⟨A11, r11, A21, r21, rfl, rfl⟩ a w S)
  refine run S (.yy (ys_bld (ps := [(1, Go.Operand.tmp 11)]) (us := [_, _, _]) bld37 (.cons (.t rfl) .nil) rfl) rfl <| .z) fun a w S => st_m (op_alloc S zeroValue37 (cs := _) rfl rfl fun g4 a w S => st_m (op_stW S sizeOf37 (.t rfl) (.t rfl) (k := 0) rfl rfl rfl (by simp [Value.oneCell']) fun a w S => st_nil (then_normal (hK1 _ _ (wp_seq_k fun _ hK1 => sg S (.fa underlying37 sizeOf31 0 rfl rfl rfl <| .ld gt31 5 rfl rfl rfl <| .ln underlying31 rfl <| .mc rfl <| .z) fun a w S => wp_block ?_)))))
  refine st_lpM (S.nil_ 100 6 Ent.enc none) [16] (X := Nat × Option Addr × Nat) (fun t => [(16, true, .int .i64 (t.1 : Int))])
    (fun t => [rowOf 100 6 Ent.enc t.2.1 t.2.2 (keepE p q (X.ents.take t.1)), .blk g4 (.cells #[.slice t.2.1 (keepE p q (X.ents.take t.1)).length t.2.2, .slice A11 (keep p q X.ctx.marks).length r11, .slice A21 (keep p q X.ctx.cloud).length r21] 37), rowOf 74 3 Dot.enc A21 r21 (keep p q X.ctx.cloud), rowOf 30 3 Dot.enc A11 r11 (keep p q X.ctx.marks), .blk g3 (.cells #[.slice none 0 0, .slice none 0 0, .slice none 0 0] 37), .blk g2 (.cells #[.int .i64 p, .int .i64 q] 66), .blk g1 (.cells #[.slice A X.ents.length cap, .slice A2 X.ctx.marks.length cap2, .slice A3 X.ctx.cloud.length cap3] 37)])
    (fun t => t.1 ≤ X.ents.length) (fun t => X.ents.length - t.1) (0, none, 0) (Nat.zero_le _) ?_
  clear S
  rintro ⟨k, D, cD⟩ a w hk S
  dsimp only at hk S
  have hol : (keepE p q (X.ents.take k)).length ≤ X.ents.length := filter_take _ X.ents k
  by_cases hlt : k < X.ents.length
  · obtain ⟨g, o, x, rfl, hx, hd, hc⟩ := row_at hA hlt
    refine sg S (.lt (by omega) rfl rfl <| .z) fun a w S => wp_seq_k fun _ hK2 => st_then S (.t rfl) (wp_skip (then_normal (hK2 _ _ (wp_seq_k fun _ hK2 => wp_block (wp_seq_k fun _ hK3 => wp_region_lit (run S (.ix underlying31 sizeOf100 (by omega) rfl rfl <| .yy (ys_ldOA ⟨isAgg100, sizeOf100⟩ (.t rfl) (vs := [_, _, _, _, _, _]) rfl (fun _ => hc)) rfl <| .z) fun a w S => st_m (op_alloc S zeroValue100 (cs := _) rfl rfl fun g5 a w S => st_m (op_stW S sizeOf100 (.t rfl) (.t rfl) (k := 0) rfl rfl rfl (by simp [Value.oneCell']) fun a w S => st_nil (then_normal (hK3 _ _ (wp_seq_k fun _ hK3 => wp_region_lit (run S (.fa underlying100 sizeOf74 1 rfl rfl rfl <| .fa underlying74 sizeOf3 1 rfl rfl rfl <| .ld gt3 0 rfl rfl rfl <| .fa underlying66 sizeOf3 0 rfl rfl rfl <| .ld gt3 6 rfl rfl rfl <| .yy (ys_neq (.t rfl) (.t rfl)) rfl <| .mv rfl <| .z) fun a w S => st_yf S rfl rfl (Yr.ys (ys_fieldN (FieldT.mk underlying100 rfl sizeOf74 rfl) (.t rfl) (i' := 1) rfl)) rfl fun a w S => st_yf S rfl rfl (Yr.ys (ys_fieldN (FieldT.mk underlying74 rfl sizeOf3 rfl) (Ev.g rfl) (i' := 2) rfl)) rfl fun a w S => st_yf S rfl rfl (Yr.ys (ys_ld ⟨isAgg3, sizeOf3⟩ (Ev.g rfl) (k := 0) rfl rfl)) rfl fun a w S => ?_))))))))))))
    refine st_yf S rfl rfl (Yr.ys (ys_fieldN (FieldT.mk underlying66 rfl sizeOf3 rfl) (.t rfl) (i' := 1) rfl)) rfl fun a w S => st_yf S rfl rfl (Yr.ys (ys_ld ⟨isAgg3, sizeOf3⟩ (Ev.g rfl) (k := 6) rfl rfl)) rfl fun a w S => st_yf S rfl rfl (Yr.ys (ys_neq (Ev.g rfl) (Ev.g rfl))) rfl fun a w S => run S (.yy (ys_or (.t rfl) Ev.c (Ev.g rfl)) rfl <| .z) fun a w S => st_nil (then_normal (hK3 _ _ ?_))
    refine st_cond S (.t rfl) (fun h1 => ?_) (fun h1 => ?_)
    refine wp_region_lit (run S (.fa underlying37 sizeOf31 0 rfl rfl rfl <| .ld gt31 2 rfl rfl rfl <| .la gt100 0 rfl rfl rfl <| .z) fun a w S => st_m (op_bslice1 S underlying31 inf100 rfl rfl rfl (.t rfl) rfl rfl rfl fun g6 a w S => st_m (op_push S underlying31 inf100 rfl (k := 2) (j := 0) rfl (.t rfl) (.t rfl) rfl rfl rfl rfl (by first | omega | (simp only [List.length_append, List.length_cons, List.length_nil]; omega)) rfl rfl rfl fun A1 cap1 a w S => run S (.fa underlying37 sizeOf31 0 rfl rfl rfl <| .z) fun a w S => st_m (op_st S sizeOf31 (.t rfl) (.t rfl) (k := 3) rfl rfl (by simp) fun a w S => st_nil (in_normal (then_normal (hK2 _ _ (wp_region_lit (run S (.ad (by unfold I64; omega) rfl <| .mv rfl <| .z) fun a w S => st_nil (then_normal ?_))))))))))
    rotate_left
    refine wp_skip (in_normal (then_normal (hK2 _ _ (wp_region_lit (run S (.ad (by unfold I64; omega) rfl <| .mv rfl <| .z) fun a w S => st_nil (then_normal ?_))))))
    rotate_left
    · have hst : keepE p q (X.ents.take (k + 1)) = keepE p q (X.ents.take k) ++ [x] := filter_yes hx (by simp at h1 ⊢; omega)
      exact ⟨(k + 1, A1, cap1), by dsimp only; omega, by dsimp only; omega, by dsimp only; rw [hst]; exact S.pk⟩
    · have hst : keepE p q (X.ents.take (k + 1)) = keepE p q (X.ents.take k) := filter_no hx (by simp at h1 ⊢; omega)
      exact ⟨(k + 1, D, cD), by dsimp only; omega, by dsimp only; omega, by dsimp only; rw [hst]; exact S.pk⟩
  obtain rfl : k = X.ents.length := by omega
  rw [List.take_length] at S
  refine sg S (.ge (by omega) rfl rfl <| .z) fun a w S => wp_seq_k fun _ hK2 => st_else S (.t rfl) (wp_exit (then_exit (then_exit (in_here (then_normal (hK1 _ _ (wp_seq_k fun _ hK1 => wp_region_lit (run S (.la gt37 1 rfl rfl rfl <| .z) fun a w S => st_m (op_stW S sizeOf37 (.t rfl) (.t rfl) (k := 4) rfl rfl rfl (by simp [Value.oneCell']) fun a w S => st_nil (then_normal (hK1 _ _ (wp_ret (st_ret S (results1 S results68 (Rv.cell (k := 4) ⟨isAgg37, sizeOf37⟩ rfl rfl rfl)) ?_)))))))))))))
  exact ⟨_, _, rfl, S.wd.pk, _, _, _, _, _, _, rfl, rfl⟩
theorem c16 (w0 : World) (v1 v2 v3 : Value) (X : Cart) (h : Sl Ent.enc 6 w0 w0.heap.size v1 X.ents) (hr : RdCtx w0 w0.heap.size v2 v3 X.ctx) (hl1 : X.ents.length ≤ 1048576) (hl2 : X.ctx.marks.length ≤ 1048576) (hl3 : X.ctx.cloud.length ≤ 1048576) :
    Rets Tryz.prog 16 #[.agg #[v1, v2, v3]] w0 fun v L => ∃ A1 r1 A2 r2 A3 r3, v = .agg #[.slice A1 X.ents.length r1, .slice A2 X.ctx.marks.length r2, .slice A3 X.ctx.cloud.length r3] ∧
      L = [rowOf 100 6 Ent.enc A1 r1 X.ents, rowOf 30 3 Dot.enc A2 r2 X.ctx.marks, rowOf 74 3 Dot.enc A3 r3 X.ctx.cloud] := by
  have hs := h
  have hrr := hr
  obtain ⟨A, cap, rfl, hl, hcap, hA⟩ := h
  obtain ⟨⟨A2, cap2, rfl, _⟩, ⟨A3, cap3, rfl, _⟩⟩ := hr
  unfold Go.Fw.Rets
  refine enter1 func16 rfl ntmps16 rfl fun a S => wp_seq_k fun _ hK1 => wp_region_lit (st_m (op_box S (.t rfl) rfl fun g1 a w S => st_m (op_alloc S zeroValue37 (cs := _) rfl rfl fun g2 a w S => st_nil (then_normal (hK1 _ _ (wp_seq_k fun _ hK1 => h_beginE S (by kernel_rfl) 0 fun a w S => hy 0 S rfl (ys_fieldN (FieldT.mk underlying37 rfl sizeOf31 rfl) (.t rfl) (i' := 0) rfl) rfl fun a w S => hy 1 S rfl (ys_ld ⟨isAgg31, sizeOf31⟩ (.t rfl) (k := 0) rfl rfl) rfl fun a w S => hy 3 S rfl (ys_fieldN (FieldT.mk underlying37 rfl sizeOf35 rfl) (.t rfl) (i' := 1) rfl) rfl fun a w S => ?_))))))
  refine hy 4 S rfl (ys_ldA ⟨isAgg35, sizeOf35⟩ (.t rfl) (k := 0) rfl rfl) rfl fun a w S => ?_
  (refine h_m (i := 2) rfl (by kernel_rfl) (op_calls S call64 (.cons (.t rfl) .nil) (c64 _ _ _ (by exact .old S.wd (by assumption)) (by omega)) rfl ?_); clear S a w; rintro _ _ ⟨A1, c1, rfl, rfl⟩ a w S; refine h_n1 S ?_)
  (refine h_m (i := 5) rfl (by kernel_rfl) (op_calls S call65 (.cons (.t rfl) .nil) (c65 _ _ _ _ (by exact .old S.wd (by assumption)) (by assumption) (by assumption)) rfl ?_); clear S a w; rintro _ _ ⟨A11, r11, A21, r21, rfl, rfl⟩ a w S; refine h_n1 S ?_)
  refine hy 6 S rfl (ys_bld (ps := [(0, Go.Operand.tmp 5), (1, Go.Operand.tmp 8)]) (us := [_, _, _]) bld37 (.cons (.t rfl) (.cons (.t rfl) .nil)) rfl) rfl fun a w S => ?_
  (refine h_m0 (i := 7) rfl (by kernel_rfl) (op_stW S sizeOf37 (.t rfl) (.t rfl) (k := 3) rfl rfl rfl (by simp [Value.oneCell']) ?_); clear S a w; intro a w S; refine h_n1 S ?_)
  refine h_done (by kernel_rfl) (then_normal (hK1 _ _ (wp_ret (st_ret S (results1 S results16 (Rv.cell (k := 3) ⟨isAgg37, sizeOf37⟩ rfl rfl rfl)) ?_))))
  exact ⟨_, _, rfl, S.wd.pk, _, _, _, _, _, _, rfl, rfl⟩
theorem c19 (w0 : World) (v1 v2 v3 v4 v5 v6 : Value) (X Y : Cart) (h : Sl Ent.enc 6 w0 w0.heap.size v1 X.ents) (hr : RdCtx w0 w0.heap.size v2 v3 X.ctx) (h' : Sl Ent.enc 6 w0 w0.heap.size v4 Y.ents) (hr' : RdCtx w0 w0.heap.size v5 v6 Y.ctx) :
    Calls Tryz.prog 19 #[.agg #[v1, v2, v3], .agg #[v4, v5, v6]] w0 fun e w' => e = .returned (.bool (decide (X = Y))) ∧ Bel w0.heap.size w0 w' := by
  have hs := h
  have hrr := hr
  have hs' := h'
  have hrr' := hr'
  obtain ⟨A, cap, rfl, hl, hcap, hA⟩ := h
  obtain ⟨⟨A2, cap2, rfl, _⟩, ⟨A3, cap3, rfl, _⟩⟩ := hr
  obtain ⟨B, capB, rfl, hlB, hcapB, hB⟩ := h'
  obtain ⟨⟨B2, capB2, rfl, _⟩, ⟨B3, capB3, rfl, _⟩⟩ := hr'
  refine enter2 func19 rfl ntmps19 rfl fun a S => wp_seq_k fun _ hK1 => wp_region_lit (st_m (op_box S (.t rfl) rfl fun g1 a w S => st_m (op_box S (.t rfl) rfl fun g2 a w S => run S (.ac rfl <| .z) fun a w S => st_nil (then_normal (hK1 _ _ (wp_seq_k fun _ hK1 => wp_region_lit (run S (.fa underlying37 sizeOf31 0 rfl rfl rfl <| .ld gt31 1 rfl rfl rfl <| .fa underlying37 sizeOf31 0 rfl rfl rfl <| .ld gt31 0 rfl rfl rfl <| .xx (ys_call call71 (.cons (.t rfl) (.cons (.t rfl) .nil)) (fun hp w W => c71 _ _ _ _ _ (by exact .old W (by assumption)) (by exact .old W (by assumption)))) rfl <| .mv rfl <| .z) fun a w S => st_yg S rfl rfl (Yr.ys (ys_fieldN (FieldT.mk underlying37 rfl sizeOf35 rfl) (.t rfl) (i' := 1) rfl)) rfl fun a w S => st_yg S rfl rfl (Yr.ys (ys_ldA ⟨isAgg35, sizeOf35⟩ (Ev.g rfl) (k := 1) rfl rfl)) rfl fun a w S => st_yg S rfl rfl (Yr.ys (ys_fieldN (FieldT.mk underlying37 rfl sizeOf35 rfl) (.t rfl) (i' := 1) rfl)) rfl fun a w S => st_yg S rfl rfl (Yr.ys (ys_ldA ⟨isAgg35, sizeOf35⟩ (Ev.g rfl) (k := 0) rfl rfl)) rfl fun a w S => st_yg S rfl rfl (ys_call call72 (.cons (Ev.g rfl) (.cons (Ev.g rfl) .nil)) (fun hp w W => c72 _ _ _ _ _ _ _ (by exact .old W (by assumption)) (by exact .old W (by assumption)))) rfl fun a w S => run S (.yy (ys_and (.t rfl) (Ev.g rfl) Ev.c) rfl <| .as rfl <| .z) fun a w S => st_nil (then_normal (hK1 _ _ (wp_ret ?_))))))))))
  refine st_ret S (results1 S results19 (Rv.tmp rfl)) ?_
  exact ⟨by rw [cart_same], S.wd.below⟩
theorem c95 (w0 : World) (v1 v2 v3 v4 v5 v6 : Value) (X Y : Cart) (h : Sl Ent.enc 6 w0 w0.heap.size v1 X.ents) (hr : RdCtx w0 w0.heap.size v2 v3 X.ctx) (h' : Sl Ent.enc 6 w0 w0.heap.size v4 Y.ents) (hr' : RdCtx w0 w0.heap.size v5 v6 Y.ctx) :
    Calls Tryz.prog 95 #[.agg #[v1, v2, v3], .agg #[v4, v5, v6]] w0 fun e w' => e = .returned (.bool (decide (X = Y))) ∧ Bel w0.heap.size w0 w' := by
  have hs := h
  have hrr := hr
  have hs' := h'
  have hrr' := hr'
  obtain ⟨A, cap, rfl, hl, hcap, hA⟩ := h
  obtain ⟨⟨A2, cap2, rfl, _⟩, ⟨A3, cap3, rfl, _⟩⟩ := hr
  obtain ⟨B, capB, rfl, hlB, hcapB, hB⟩ := h'
  obtain ⟨⟨B2, capB2, rfl, _⟩, ⟨B3, capB3, rfl, _⟩⟩ := hr'
  obtain ⟨q1, q2⟩ := hrr
  obtain ⟨q3, q4⟩ := hrr'
  by_cases h1 : X.ents = Y.ents
  · have rw_1 := decide_eq_true h1
    by_cases h2 : X.ctx.marks = Y.ctx.marks
    · have rw_2 := decide_eq_true h2
      refine enter2 func95 rfl ntmps95 rfl fun a S => wp_seq_k fun _ hK1 => wp_region_lit (st_m (op_box S (.t rfl) rfl fun g1 a w S => st_m (op_box S (.t rfl) rfl fun g2 a w S => run S (.ac rfl <| .z) fun a w S => st_nil (then_normal (hK1 _ _ (wp_seq_k fun _ hK1 => wp_region_lit (run S (.fa underlying37 sizeOf31 0 rfl rfl rfl <| .ld gt31 1 rfl rfl rfl <| .fa underlying37 sizeOf31 0 rfl rfl rfl <| .ld gt31 0 rfl rfl rfl <| .xx (ys_call call71 (.cons (.t rfl) (.cons (.t rfl) .nil)) (fun hp w W => c71 _ _ _ _ _ (by exact .old W (by assumption)) (by exact .old W (by assumption)))) rfl <| .z) fun a w S => ?_)))))))
      rw [rw_1] at S
      refine run S (.mv rfl <| .gy rfl rfl (ys_fieldN (FieldT.mk underlying37 rfl sizeOf35 rfl) (.t rfl) (i' := 1) rfl) <| .gy rfl rfl (ys_fieldN (FieldT.mk underlying35 rfl sizeOf32 rfl) (.t rfl) (i' := 1) rfl) <| .gy rfl rfl (ys_ld ⟨isAgg32, sizeOf32⟩ (.t rfl) (k := 1) rfl rfl) <| .gy rfl rfl (ys_fieldN (FieldT.mk underlying37 rfl sizeOf35 rfl) (.t rfl) (i' := 1) rfl) <| .gy rfl rfl (ys_fieldN (FieldT.mk underlying35 rfl sizeOf32 rfl) (.t rfl) (i' := 1) rfl) <| .gy rfl rfl (ys_ld ⟨isAgg32, sizeOf32⟩ (.t rfl) (k := 0) rfl rfl) <| .gx rfl rfl (ys_call call23 (.cons (.t rfl) (.cons (.t rfl) .nil)) (fun hp w W => c23 _ _ _ _ _ (by exact .old W (by assumption)) (by exact .old W (by assumption)))) <| .z) fun a w S => ?_
      rw [rw_2] at S
      refine run S (.yy (ys_pickT (.t rfl) (.t rfl)) rfl <| .mv rfl <| .gy rfl rfl (ys_fieldN (FieldT.mk underlying37 rfl sizeOf35 rfl) (.t rfl) (i' := 1) rfl) <| .gy rfl rfl (ys_fieldN (FieldT.mk underlying35 rfl sizeOf33 rfl) (.t rfl) (i' := 2) rfl) <| .gy rfl rfl (ys_ld ⟨isAgg33, sizeOf33⟩ (.t rfl) (k := 1) rfl rfl) <| .gy rfl rfl (ys_fieldN (FieldT.mk underlying37 rfl sizeOf35 rfl) (.t rfl) (i' := 1) rfl) <| .gy rfl rfl (ys_fieldN (FieldT.mk underlying35 rfl sizeOf33 rfl) (.t rfl) (i' := 2) rfl) <| .gy rfl rfl (ys_ld ⟨isAgg33, sizeOf33⟩ (.t rfl) (k := 0) rfl rfl) <| .gx rfl rfl (ys_call call46 (.cons (.t rfl) (.cons (.t rfl) .nil)) (fun hp w W => c46 _ _ _ _ _ (by exact .old W (by assumption)) (by exact .old W (by assumption)))) <| .yy (ys_pickT (.t rfl) (.t rfl)) rfl <| .as rfl <| .z) fun a w S => st_nil (then_normal (hK1 _ _ (wp_ret (st_ret S (results1 S results95 (Rv.tmp rfl)) ?_))))
      refine ⟨?_, S.wd.below⟩
      have e : decide (X.ctx.cloud = Y.ctx.cloud) = decide (X = Y) := by
        obtain ⟨l, ⟨m, c⟩⟩ := X
        obtain ⟨l', ⟨m', c'⟩⟩ := Y
        dsimp only at h1 h2
        subst h1 h2
        simp
      rw [e]
    · have rw_2 := decide_eq_false h2
      refine enter2 func95 rfl ntmps95 rfl fun a S => wp_seq_k fun _ hK1 => wp_region_lit (st_m (op_box S (.t rfl) rfl fun g1 a w S => st_m (op_box S (.t rfl) rfl fun g2 a w S => run S (.ac rfl <| .z) fun a w S => st_nil (then_normal (hK1 _ _ (wp_seq_k fun _ hK1 => wp_region_lit (run S (.fa underlying37 sizeOf31 0 rfl rfl rfl <| .ld gt31 1 rfl rfl rfl <| .fa underlying37 sizeOf31 0 rfl rfl rfl <| .ld gt31 0 rfl rfl rfl <| .xx (ys_call call71 (.cons (.t rfl) (.cons (.t rfl) .nil)) (fun hp w W => c71 _ _ _ _ _ (by exact .old W (by assumption)) (by exact .old W (by assumption)))) rfl <| .z) fun a w S => ?_)))))))
      rw [rw_1] at S
      refine run S (.mv rfl <| .gy rfl rfl (ys_fieldN (FieldT.mk underlying37 rfl sizeOf35 rfl) (.t rfl) (i' := 1) rfl) <| .gy rfl rfl (ys_fieldN (FieldT.mk underlying35 rfl sizeOf32 rfl) (.t rfl) (i' := 1) rfl) <| .gy rfl rfl (ys_ld ⟨isAgg32, sizeOf32⟩ (.t rfl) (k := 1) rfl rfl) <| .gy rfl rfl (ys_fieldN (FieldT.mk underlying37 rfl sizeOf35 rfl) (.t rfl) (i' := 1) rfl) <| .gy rfl rfl (ys_fieldN (FieldT.mk underlying35 rfl sizeOf32 rfl) (.t rfl) (i' := 1) rfl) <| .gy rfl rfl (ys_ld ⟨isAgg32, sizeOf32⟩ (.t rfl) (k := 0) rfl rfl) <| .gx rfl rfl (ys_call call23 (.cons (.t rfl) (.cons (.t rfl) .nil)) (fun hp w W => c23 _ _ _ _ _ (by exact .old W (by assumption)) (by exact .old W (by assumption)))) <| .z) fun a w S => ?_
      rw [rw_2] at S
      refine run S (.yy (ys_pickT (.t rfl) (.t rfl)) rfl <| .mv rfl <| .sk rfl rfl rfl <| .sk rfl rfl rfl <| .sk rfl rfl rfl <| .sk rfl rfl rfl <| .sk rfl rfl rfl <| .sk rfl rfl rfl <| .sk rfl rfl rfl <| .yy (ys_pickF (.t rfl) Ev.c) rfl <| .as rfl <| .z) fun a w S => st_nil (then_normal (hK1 _ _ (wp_ret (st_ret S (results1 S results95 (Rv.tmp rfl)) ?_))))
      exact ⟨by rw [decide_eq_false (fun h => h2 (by rw [h]))], S.wd.below⟩
  · have rw_1 := decide_eq_false h1
    refine enter2 func95 rfl ntmps95 rfl fun a S => wp_seq_k fun _ hK1 => wp_region_lit (st_m (op_box S (.t rfl) rfl fun g1 a w S => st_m (op_box S (.t rfl) rfl fun g2 a w S => run S (.ac rfl <| .z) fun a w S => st_nil (then_normal (hK1 _ _ (wp_seq_k fun _ hK1 => wp_region_lit (run S (.fa underlying37 sizeOf31 0 rfl rfl rfl <| .ld gt31 1 rfl rfl rfl <| .fa underlying37 sizeOf31 0 rfl rfl rfl <| .ld gt31 0 rfl rfl rfl <| .xx (ys_call call71 (.cons (.t rfl) (.cons (.t rfl) .nil)) (fun hp w W => c71 _ _ _ _ _ (by exact .old W (by assumption)) (by exact .old W (by assumption)))) rfl <| .z) fun a w S => ?_)))))))
    rw [rw_1] at S
    refine run S (.mv rfl <| .sk rfl rfl rfl <| .sk rfl rfl rfl <| .sk rfl rfl rfl <| .sk rfl rfl rfl <| .sk rfl rfl rfl <| .sk rfl rfl rfl <| .sk rfl rfl rfl <| .yy (ys_pickF (.t rfl) Ev.c) rfl <| .mv rfl <| .sk rfl rfl rfl <| .sk rfl rfl rfl <| .sk rfl rfl rfl <| .sk rfl rfl rfl <| .sk rfl rfl rfl <| .sk rfl rfl rfl <| .sk rfl rfl rfl <| .yy (ys_pickF (.t rfl) Ev.c) rfl <| .as rfl <| .z) fun a w S => st_nil (then_normal (hK1 _ _ (wp_ret (st_ret S (results1 S results95 (Rv.tmp rfl)) ?_))))
    exact ⟨by rw [decide_eq_false (fun h => h1 (by rw [h]))], S.wd.below⟩
end Go.Proofs.YtakpdbmdfnialaaGreat
set_option linter.unusedVariables false
set_option linter.unusedSimpArgs false
namespace Go.Fw
open Go.RowKit
structure Play where
  st : List Cart
  up : List Upd
  ct : List Int
def Play.start : Play := ⟨[], [], List.replicate 8 0⟩
end Go.Fw
set_option linter.unusedVariables false
set_option linter.unusedSimpArgs false
set_option maxRecDepth 100000
set_option maxHeartbeats 4000000
namespace Go.Fw
def encU (x : UInt64) : List Value := [.int .u64 (x.toNat : Int)]
theorem encU_len (x : UInt64) : (encU x).length = 1 := rfl
end Go.Fw
namespace Go.Proofs.YtakpdbmdfnialaaGreat
open Go.Fw Go.Proofs Go.RowKit Go.Proofs.Tryz
end Go.Proofs.YtakpdbmdfnialaaGreat
set_option linter.unusedVariables false
set_option linter.unusedSimpArgs false
set_option maxRecDepth 100000
namespace Go.Proofs.YtakpdbmdfnialaaGreat
open Go.Fw Go.Proofs Go.RowKit Go.ChangeShapes Go.WideShapes Go.ChangeAt Go.Deep Go.Joins Go.Proofs.Tryz
section
variable {H : Type} {enc : TypeId × Value → H} {w : World}
theorem rdUint : Rdr enc Tryz.prog w 61 fun cs _ => ∃ x : UInt64, cs = encU x ∧ True := (Rdr.int underlying61).mono fun cs b ⟨n, e, h⟩ => by
  obtain ⟨p, rfl⟩ := u64_wf h
  exact ⟨p, e, trivial⟩
theorem read_uints {v : Value} {d : DataW H} {p : List MemPlace} (hv : ∃ A len cap, v = .slice A len cap) (h : DataW.Trod enc Tryz.prog w 0 (fun _ => true) true 58 v d p) :
    ∃ l, Sl encU 1 w w.heap.size v l ∧ l.length + 1 ≤ Rows.uptoBulk d := by
  obtain ⟨v', l, hc, hs, hl, hf⟩ := Rdr.top (Rdr.slice (k := 1) underlying58 (by kernel_rfl) rfl encU_len rdUint) h
  obtain ⟨A, n, c, rfl⟩ := hv
  simp only [Value.cells, List.cons.injEq, and_true] at hc
  subst hc
  exact ⟨l, hs, hl⟩
end
end Go.Proofs.YtakpdbmdfnialaaGreat
set_option linter.unusedVariables false
set_option linter.unusedSimpArgs false
namespace Go.Fw
open Go.RowKit
theorem items_tri (p : Option (List UInt8)) (a : List UInt8) (l : List Ent) : itemsFrom p l ≤ (if p = some a then 0 else 1) + itemsFrom (some a) l := by
  cases l with
  | nil => simp [itemsFrom]
  | cons e r =>
    rw [itemsFrom, itemsFrom]
    by_cases h1 : p = some a
    · rw [h1]; omega
    · rw [if_neg h1]; split <;> omega
theorem items_sub {s l : List Ent} (h : s.Sublist l) : ∀ p, itemsFrom p s ≤ itemsFrom p l := by
  induction h with
  | slnil => exact fun _ => Nat.le_refl _
  | cons a _ ih => intro p; rw [itemsFrom]; exact Nat.le_trans (items_tri p a.item _) (Nat.add_le_add_left (ih _) _)
  | cons_cons a _ ih => intro p; rw [itemsFrom, itemsFrom]; exact Nat.add_le_add_left (ih _) _
theorem prune_ok {c : Cart} (h : CartOk c) (p q : Int) : CartOk (pruneK c p q) := by
  refine ⟨prune_can (can_nf h.ctx) (can_len h.ctx).1 (can_len h.ctx).2 p q, Nat.le_trans (List.length_filter_le _ _) h.len, fun e he => ?_, h.order.filter _, ?_, ?_⟩
  · obtain ⟨h1, h2⟩ := List.mem_filter.1 he
    obtain ⟨k1, k2, k3, k4⟩ := h.each e h1
    refine ⟨k1, k2, k3, ?_⟩
    show (c.ctx.prune p q).covers e.dot = true
    rw [prune_covers, k4]
    exact h2
  · exact (List.Sublist.map _ (List.filter_sublist ..)).nodup h.dots
  · exact Nat.le_trans (items_sub (List.filter_sublist ..) none) h.items
end Go.Fw
set_option linter.unusedVariables false
set_option linter.unusedSimpArgs false
namespace Go.Fw
open Go.RowKit
structure Gon where
  key : List UInt8
  dt : Dot
deriving DecidableEq
abbrev Gon.enc (x : Gon) : List Value := [.string (bs x.key), .int .i64 x.dt.node, .int .i64 x.dt.life, .int .i64 x.dt.count]
theorem Gon.enc_len (x : Gon) : (Gon.enc x).length = 4 := rfl
theorem Gon.enc_one (x : Gon) : ∀ u ∈ Gon.enc x, u.oneCell' = true := fun u hu => by simp [Gon.enc] at hu; rcases hu with rfl | rfl | rfl | rfl <;> rfl
def ltG (a b : Gon) : Prop := Op.bytesLess a.key b.key = true ∨ (a.key = b.key ∧ ltM a.dt b.dt)
def sameG (a b : Gon) : Prop := a.key = b.key ∧ a.dt.node = b.dt.node ∧ a.dt.life = b.dt.life
instance (a b : Gon) : Decidable (ltG a b) := by unfold ltG ltM; infer_instance
instance (a b : Gon) : Decidable (sameG a b) := by unfold sameG; infer_instance
theorem ltM_irr (a : Dot) : ¬ ltM a a := by unfold ltM; omega
theorem ltG_irr (a : Gon) : ¬ ltG a a := by
  rintro (h | ⟨_, h⟩)
  · rw [less_irr] at h; cases h
  · exact ltM_irr _ h
theorem ltG_trans {a b c : Gon} (h : ltG a b) (h' : ltG b c) : ltG a c := by
  rcases h with h | ⟨e, h⟩
  · rcases h' with h' | ⟨e', h'⟩
    · exact .inl (less_trans h h')
    · exact .inl (by rw [← e']; exact h)
  · rcases h' with h' | ⟨e', h'⟩
    · exact .inl (by rw [e]; exact h')
    · exact .inr ⟨e.trans e', ltM_trans h h'⟩
theorem ltG_asymm {a b : Gon} (h : ltG a b) : ¬ ltG b a := fun h' => ltG_irr _ (ltG_trans h h')
theorem ltG_total {a b : Gon} (h : ¬ sameG a b) : ltG a b ∨ ltG b a := by
  by_cases e : a.key = b.key
  · have hn : ¬ (a.dt.node = b.dt.node ∧ a.dt.life = b.dt.life) := fun h' => h ⟨e, h'⟩
    have : ltM a.dt b.dt ∨ ltM b.dt a.dt := by unfold ltM; omega
    rcases this with h | h
    · exact .inl (.inr ⟨e, h⟩)
    · exact .inr (.inr ⟨e.symm, h⟩)
  · rcases less_total e with h | h
    · exact .inl (.inl h)
    · exact .inr (.inl h)
theorem ltG_not_same {a b : Gon} (h : ltG a b) : ¬ sameG a b := by
  rintro ⟨h1, h2, h3⟩
  rcases h with h | ⟨_, h⟩
  · exact less_ne h h1
  · unfold ltM at h; omega
theorem sameG_symm {a b : Gon} (h : sameG a b) : sameG b a := ⟨h.1.symm, h.2.1.symm, h.2.2.symm⟩
def ordG (a b : Gon) : Int := if ltG a b then -1 else if sameG a b then 0 else 1
theorem ordG_lt {a b : Gon} : ordG a b < 0 ↔ ltG a b := by
  unfold ordG
  by_cases h : ltG a b
  · simp [h]
  · rw [if_neg h]; split <;> simp [h]
theorem ordG_eq {a b : Gon} : ordG a b = 0 ↔ sameG a b := by
  unfold ordG
  by_cases h : ltG a b
  · simp [h, ltG_not_same h]
  · rw [if_neg h]; split <;> simp_all
def insG (e : Gon) : List Gon → List Gon
  | [] => [e]
  | x :: r => if ltG e x then e :: x :: r else x :: insG e r
theorem insG_mem {e x : Gon} : ∀ {l : List Gon}, x ∈ insG e l ↔ x = e ∨ x ∈ l
  | [] => by simp [insG]
  | y :: r => by
    rw [insG]
    split
    · simp
    · rw [List.mem_cons, insG_mem, List.mem_cons]
      constructor
      · rintro (h | h | h) <;> simp [h]
      · rintro (h | h | h) <;> simp [h]
theorem insG_len (e : Gon) : ∀ (l : List Gon), (insG e l).length = l.length + 1
  | [] => rfl
  | x :: r => by
    rw [insG]
    split
    · rfl
    · rw [List.length_cons, insG_len e r]; rfl
theorem insG_sorted {e : Gon} : ∀ {l : List Gon}, l.Pairwise ltG → (∀ x ∈ l, ¬ sameG x e) → (insG e l).Pairwise ltG
  | [], _, _ => List.pairwise_singleton ..
  | x :: r, h, hn => by
    rw [List.pairwise_cons] at h
    rw [insG]
    split
    · rename_i he
      refine List.Pairwise.cons (fun y hy => ?_) (List.Pairwise.cons h.1 h.2)
      rcases List.mem_cons.1 hy with rfl | hy
      · exact he
      · exact ltG_trans he (h.1 y hy)
    · rename_i he
      refine List.Pairwise.cons (fun y hy => ?_) (insG_sorted h.2 fun y hy => hn y (by simp [hy]))
      rcases insG_mem.1 hy with rfl | hy
      · exact (ltG_total (hn x (by simp))).resolve_right he
      · exact h.1 y hy
def posG (l : List Gon) (e : Gon) : Nat := (l.takeWhile fun x => decide (ltG x e)).length
theorem posG_le (l : List Gon) (e : Gon) : posG l e ≤ l.length := (List.takeWhile_sublist _).length_le
theorem posG_lt {e : Gon} : ∀ {l : List Gon}, l.Pairwise ltG → ∀ (k : Nat) (x : Gon), l[k]? = some x → (ltG x e ↔ k < posG l e)
  | [], _, k, x, h => by simp at h
  | y :: r, hs, k, x, h => by
    rw [List.pairwise_cons] at hs
    unfold posG
    by_cases hy : ltG y e
    · rw [List.takeWhile_cons, if_pos (by simpa using hy), List.length_cons]
      cases k with
      | zero => simp at h; subst h; simp [hy]
      | succ k =>
        have ih := posG_lt (e := e) hs.2 k x (by simpa using h)
        unfold posG at ih
        rw [ih]; omega
    · rw [List.takeWhile_cons, if_neg (by simpa using hy)]
      cases k with
      | zero => simp at h; subst h; simp [hy]
      | succ k =>
        have hx : x ∈ r := List.mem_of_getElem? (by simpa using h)
        simp only [List.length_nil, Nat.not_lt_zero, iff_false]
        exact fun h' => hy (ltG_trans (hs.1 x hx) h')
def hasG (l : List Gon) (e : Gon) : Bool := match l[posG l e]? with
  | some x => decide (sameG x e)
  | none => false
theorem any_hasG {e : Gon} : ∀ {l : List Gon}, l.Pairwise ltG → hasG l e = l.any fun x => decide (sameG x e)
  | [], _ => rfl
  | y :: r, hs => by
    have hs' := List.pairwise_cons.1 hs
    have ih := any_hasG (e := e) hs'.2
    rw [List.any_cons]
    by_cases hy : ltG y e
    · have e1 : posG (y :: r) e = posG r e + 1 := by unfold posG; rw [List.takeWhile_cons, if_pos (by simpa using hy)]; rfl
      have e2 : hasG (y :: r) e = hasG r e := by unfold hasG; rw [e1]; rfl
      rw [e2, ih, decide_eq_false (ltG_not_same hy), Bool.false_or]
    · have e1 : posG (y :: r) e = 0 := by unfold posG; rw [List.takeWhile_cons, if_neg (by simpa using hy)]; rfl
      have e2 : hasG (y :: r) e = decide (sameG y e) := by unfold hasG; rw [e1]; rfl
      rw [e2]
      by_cases hq : sameG y e
      · simp [hq]
      · rw [decide_eq_false hq, Bool.false_or, eq_comm, List.any_eq_false]
        intro x hx h
        have h := of_decide_eq_true h
        have hlt := hs'.1 x hx
        rcases ltG_total hq with h1 | h1
        · exact hy h1
        · exact ltG_not_same (ltG_trans h1 hlt) (sameG_symm h)
theorem insG_at {e : Gon} : ∀ {l : List Gon}, l.Pairwise ltG → hasG l e = false → insG e l = l.take (posG l e) ++ e :: l.drop (posG l e)
  | [], _, _ => by simp [insG, posG]
  | y :: r, hs, hn => by
    have hs' := List.pairwise_cons.1 hs
    by_cases hy : ltG y e
    · have e1 : posG (y :: r) e = posG r e + 1 := by unfold posG; rw [List.takeWhile_cons, if_pos (by simpa using hy)]; rfl
      have e2 : hasG (y :: r) e = hasG r e := by unfold hasG; rw [e1]; rfl
      rw [insG, if_neg (ltG_asymm hy), insG_at hs'.2 (e2.symm.trans hn), e1]
      rfl
    · have e1 : posG (y :: r) e = 0 := by unfold posG; rw [List.takeWhile_cons, if_neg (by simpa using hy)]; rfl
      have e2 : hasG (y :: r) e = decide (sameG y e) := by unfold hasG; rw [e1]; rfl
      have hq : ¬ sameG y e := by rw [e2] at hn; simpa using hn
      rw [insG, if_pos ((ltG_total hq).resolve_left hy), e1]
      rfl
def putG (l : List Gon) (k : List UInt8) (m : Dot) : List Gon × Int :=
  if mayD m = false then (l, 1) else if nameB k = false then (l, 6) else if (l.any fun x => decide (sameG x ⟨k, m⟩)) = true then (l, 61) else (insG ⟨k, m⟩ l, 0)
structure TabOk (l : List Gon) : Prop where
  sorted : l.Pairwise ltG
  may : ∀ x ∈ l, mayD x.dt = true
theorem tab_nil : TabOk [] := ⟨List.Pairwise.nil, fun x h => by cases h⟩
theorem putG_ok {l : List Gon} (h : TabOk l) (k : List UInt8) (m : Dot) : TabOk (putG l k m).1 := by
  unfold putG
  split
  · exact h
  split
  · exact h
  split
  · exact h
  · rename_i h1 h2 h3
    refine ⟨insG_sorted h.sorted fun x hx hs => h3 (List.any_eq_true.2 ⟨x, hx, decide_eq_true hs⟩), fun x hx => ?_⟩
    rcases insG_mem.1 hx with rfl | hx
    · simpa using h1
    · exact h.may x hx
theorem putG_len (l : List Gon) (k : List UInt8) (m : Dot) : (putG l k m).1.length ≤ l.length + 1 := by
  unfold putG
  split
  · simp
  split
  · simp
  split
  · simp
  · simp [insG_len]
def marksG (l : List Gon) (k : List UInt8) : List Dot := (l.filter fun x => decide (x.key = k)).map (·.dt)
theorem marksG_len (l : List Gon) (k : List UInt8) : (marksG l k).length ≤ l.length := by
  unfold marksG
  rw [List.length_map]
  exact List.length_filter_le _ _
def overG (C : Ctx) (m : Dot) : Bool := decide (m.count < C.top m.node m.life)
def pruneL (ms : List Dot) (c : Cart) : Cart := ms.foldl (fun c m => pruneK c m.node m.life) c
def cleanG (ms : List Dot) (c : Cart) : Cart × Int :=
  if canE c = 0 then (if (ms.any (overG c.ctx)) = true then (Cart.zero, 50) else (pruneL ms c, 0)) else (Cart.zero, canE c)
def readyG (l : List Cart) (p q : Int) : Dot × Int :=
  if mayD ⟨p, q, 1⟩ = false then (⟨0, 0, 0⟩, 1) else
  match l.find? (fun c => decide (canE c ≠ 0)) with
  | some c => (⟨0, 0, 0⟩, canE c)
  | none => match l with
    | [] => (⟨0, 0, 0⟩, 200)
    | c :: r => if (r.all fun x => decide (c = x)) = false then (⟨0, 0, 0⟩, 200) else if livesK c p q = true then (⟨0, 0, 0⟩, 201) else if c.ctx.top p q = 0 then (⟨0, 0, 0⟩, 62)
      else if (c.ctx.cloud.any fun d => decide (d.node = p ∧ d.life = q)) = true then (⟨0, 0, 0⟩, 202) else (⟨p, q, c.ctx.top p q⟩, 0)
end Go.Fw
set_option linter.unusedVariables false
set_option linter.unusedSimpArgs false
namespace Go.Fw
open Go.RowKit
def inA (ms : List Dot) (p q : Int) : Bool := ms.any fun m => decide (m.node = p ∧ m.life = q)
theorem pruneL_ok : ∀ (ms : List Dot) {c : Cart}, CartOk c → CartOk (pruneL ms c)
  | [], _, h => h
  | m :: r, _, h => pruneL_ok r (prune_ok h m.node m.life)
theorem prune_none {c : Cart} (h : CartOk c) (q : Int) : pruneK c (-1) q = c := by
  have hn := can_nf h.ctx
  have hx : ∀ d, c.ctx.covers d = true → ¬ d.node = -1 := fun d hd e => by
    rw [covers_iff] at hd
    obtain ⟨h1, h2 | h2⟩ := hd
    · have := markOf_pos (l := c.ctx.marks) (x := d.node) (y := d.life) (by omega)
      have := hn.mayM _ this
      simp [mayD] at this; omega
    · have := hn.mayC _ h2
      simp [mayD] at this; omega
  obtain ⟨l, m, d⟩ := c
  unfold pruneK keepE Ctx.prune keep
  dsimp only
  congr 1
  · rw [List.filter_eq_self]
    intro x hx'
    have := hx x.dot (ok_cov h hx')
    rw [decide_eq_false (fun h' => this h'.1)]; rfl
  · congr 1
    · rw [List.filter_eq_self]
      intro x hx'
      have := hn.mayM _ hx'
      rw [decide_eq_false (fun h' => by have := h'.1; simp [mayD] at *; omega)]; rfl
    · rw [List.filter_eq_self]
      intro x hx'
      have := hn.mayC _ hx'
      rw [decide_eq_false (fun h' => by have := h'.1; simp [mayD] at *; omega)]; rfl
theorem topFrom_le {x y k : Int} : ∀ (l : List Dot) (n : Int), topFrom n x y l ≤ k ↔ n ≤ k ∧ ∀ d ∈ l, d.node = x → d.life = y → d.count ≤ k
  | [], n => by simp [topFrom]
  | d :: r, n => by
    rw [topFrom, topFrom_le r]
    by_cases h : d.node = x ∧ d.life = y
    · rw [if_pos h]
      constructor
      · rintro ⟨h1, h2⟩
        refine ⟨by omega, fun e he e1 e2 => ?_⟩
        rcases List.mem_cons.1 he with rfl | he
        · omega
        · exact h2 e he e1 e2
      · rintro ⟨h1, h2⟩
        have := h2 d (by simp) h.1 h.2
        exact ⟨by omega, fun e he e1 e2 => h2 e (by simp [he]) e1 e2⟩
    · rw [if_neg h]
      constructor
      · rintro ⟨h1, h2⟩
        refine ⟨h1, fun e he e1 e2 => ?_⟩
        rcases List.mem_cons.1 he with rfl | he
        · exact absurd ⟨e1, e2⟩ h
        · exact h2 e he e1 e2
      · rintro ⟨h1, h2⟩
        exact ⟨h1, fun e he e1 e2 => h2 e (by simp [he]) e1 e2⟩
theorem top_nonneg {C : Ctx} (h : Nf C) (p q : Int) : 0 ≤ C.top p q := by
  have h1 := (topFrom_le (x := p) (y := q) (k := C.top p q) C.cloud (markOf C.marks p q)).1 (Int.le_refl _)
  have := (markOf_may (x := p) (y := q) h.mayM).1
  omega
theorem clean_of {ms : List Dot} {c : Cart} (h : CartOk c) (ho : ms.any (overG c.ctx) = false) : cleanG ms c = (pruneL ms c, 0) := by
  unfold cleanG
  rw [if_pos ((canE_ok c).2 h), if_neg (by rw [ho]; simp)]
theorem ready_zero {l : List Cart} {p q : Int} (h : (readyG l p q).2 ≠ 0) : (readyG l p q).1 = ⟨0, 0, 0⟩ := by
  unfold readyG at h ⊢
  split
  · rfl
  · rename_i h1
    rw [if_neg h1] at h
    split
    · rfl
    · rename_i hf
      rw [hf] at h
      cases l with
      | nil => rfl
      | cons c r =>
        dsimp only at h ⊢
        split; · rfl
        split; · rfl
        split; · rfl
        split; · rfl
        · rename_i h2 h3 h4 h5
          rw [if_neg h2, if_neg h3, if_neg h4, if_neg h5] at h
          exact absurd rfl h
theorem no_gap {C : Ctx} (h : Nf C) {p q : Int} (ht : C.top p q ≠ 0) : decide ((⟨p, q, C.top p q⟩ : Dot) ∈ C.marks) = !(C.cloud.any fun d => decide (d.node = p ∧ d.life = q)) := by
  rw [Bool.eq_iff_iff, decide_eq_true_eq, Bool.not_eq_true', List.any_eq_false]
  constructor
  · intro hm d hd he
    have he := of_decide_eq_true he
    have hg := h.gap d hd
    rw [he.1, he.2] at hg
    have hmk : markOf C.marks p q = C.top p q := by
      have hs := h.marks
      generalize C.top p q = t at hm
      clear ht hg
      revert hm hs
      generalize C.marks = l
      induction l with
      | nil => intro _ hm; cases hm
      | cons x r ih =>
        intro hs hm
        rw [List.pairwise_cons] at hs
        rw [markOf]
        rcases List.mem_cons.1 hm with rfl | hm
        · rw [if_pos ⟨rfl, rfl⟩]
        · have := hs.1 _ hm
          rw [if_neg (by unfold ltM at this; dsimp only at this; omega)]
          exact ih hs.2 hm
    have := (topFrom_le (x := p) (y := q) (k := C.top p q) C.cloud (markOf C.marks p q)).1 (Int.le_refl _)
    have := this.2 d hd he.1 he.2
    omega
  · intro hn
    have ht2 : C.top p q = markOf C.marks p q := by
      have h1 := (topFrom_le (x := p) (y := q) (k := C.top p q) C.cloud (markOf C.marks p q)).1 (Int.le_refl _)
      have h2 : C.top p q ≤ markOf C.marks p q := (topFrom_le C.cloud _).2 ⟨Int.le_refl _, fun d hd e1 e2 => absurd (decide_eq_true ⟨e1, e2⟩) (hn d hd)⟩
      omega
    have hp := top_nonneg h p q
    rw [ht2] at ht hp ⊢
    exact markOf_pos (by omega)
end Go.Fw
set_option linter.unusedVariables false
set_option linter.unusedSimpArgs false
namespace Go.Fw
open Go.RowKit
section ops
variable {P : Program} {n : Nat} {w0 : World} {K : KL} {L : List Chunk} {b : Bool} {dst : Option Tmp} {ty : TypeId} {pos : String} {aft : Array Edge} {gd : Option (Nat × Bool)}
end ops
section app
variable {P : Program} {n : Nat} {w0 : World} {K : KL} {L : List Chunk} {ty : TypeId} {pos : String} {aft : Array Edge} {gd : Option (Nat × Bool)} {a : Act} {w : World} {Z : Act → World → Prop} {Q : Exit → Act → World → Prop} {d : Nat}
def txtC (l : List UInt8) (m : Nat) : List Value := l.map (fun u => Value.int .u8 (u.toNat : Int)) ++ List.replicate m (.int .u8 0)
theorem op_bytes {t s e : TypeId} {x : Operand} {l : List UInt8} (S : St n w0 K L a w) (hs : P.underlying s = some .string) (ht : P.underlying t = some (.slice e)) (he : P.underlying e = some (.int .u8)) (hx : Ev n true K x (.string (bs l))) (hl : l.length ≤ 4611686018427387904) (hd : Nat.blt d n = true)
    (next : ∀ g m fr, l.length + m ≤ 9223372036854775807 → ∀ a w, St n w0 ((d, true, .slice (some ⟨g, 0, none⟩) l.length (l.length + m)) :: K) (.blk g (.cells (txtC l m).toArray e fr) :: L) a w → Z a w) :
    Oper.wp P ⟨some d, .convert s t x, ty, pos, aft, gd⟩ a w Z Q := by
  have hge := grownCap_ge w l.length 0 e
  have hcm : grownCap w l.length 0 e ≤ maxLen := grownCap_le_maxLen w l.length 0 e (by simp only [maxLen]; omega)
  obtain ⟨m, hm⟩ : ∃ m, grownCap w l.length 0 e = l.length + m := ⟨grownCap w l.length 0 e - l.length, by omega⟩
  have hsize : (bs l).size = l.length := by simp [ByteArray.size]
  have hcs : bytesRow (bs l) (grownCap w (bs l).size 0 e) = (txtC l m).toArray := by
    rw [hsize, hm]
    simp [bytesRow, txtC, hsize, show l.length + m - l.length = m by omega]
  have hrun := run_bytes_of_string (P := P) w s t e (bs l) hs ht he
  rw [hcs, hsize, hm] at hrun
  refine run_wp ?_ (next w.heap.size m ((txtC l m).toArray.size, (txtC l m).toArray.size + 1) (by simp only [maxLen] at hcm; omega) _ _ ⟨S.kn.put hd _, S.wd.drew.alloc _⟩)
  simp only [execOp, hx a rfl S.kn, Sem.run_bind, hrun, Result.andThen_ok]
  rfl
end app
end Go.Fw
set_option linter.unusedVariables false
set_option linter.unusedSimpArgs false
set_option maxRecDepth 100000
set_option maxHeartbeats 4000000
namespace Go.Fw
theorem txt_get {s : List UInt8} {k m : Nat} {x : UInt8} (h : s[k]? = some x) : (txtC s m)[0 + k * 1]? = some (.int .u8 (x.toNat : Int)) := by
  obtain ⟨hlt, rfl⟩ := List.getElem?_eq_some_iff.1 h
  rw [Nat.zero_add, Nat.mul_one]
  simp [txtC, List.getElem?_append, hlt]
theorem char_more {s : List UInt8} {k : Nat} {x : UInt8} (h : s[k]? = some x) (hn : (s.take k).all charB = true) (hp : charB x = true) : (s.take (k + 1)).all charB = true := by
  rw [List.take_add_one, h, Option.toList_some, List.all_append, hn]
  simp [hp]
theorem char_not {s : List UInt8} {k : Nat} {x : UInt8} (h : s[k]? = some x) (hp : charB x = false) : s.all charB = false := by
  rw [← Bool.not_eq_true, List.all_eq_true]
  intro hn
  rw [hn x (List.mem_of_getElem? h)] at hp
  cases hp
theorem name_not {s : List UInt8} (h : s.all charB = false) : nameB s = false := by
  unfold nameB
  rw [h, Bool.and_false]
theorem key_char1 (x : UInt8) : ((decide ((x.toNat : Int) ≠ 46) && decide ((x.toNat : Int) ≠ 45) && decide ((x.toNat : Int) ≠ 95) && (decide ((x.toNat : Int) < 48) || decide (57 < (x.toNat : Int))) && (decide ((x.toNat : Int) < 97) || decide (122 < (x.toNat : Int))) && (decide ((x.toNat : Int) < 65) || decide (90 < (x.toNat : Int)))) = true → charB x = false) ∧ ((decide ((x.toNat : Int) ≠ 46) && decide ((x.toNat : Int) ≠ 45) && decide ((x.toNat : Int) ≠ 95) && (decide ((x.toNat : Int) < 48) || decide (57 < (x.toNat : Int))) && (decide ((x.toNat : Int) < 97) || decide (122 < (x.toNat : Int))) && (decide ((x.toNat : Int) < 65) || decide (90 < (x.toNat : Int)))) = false → charB x = true) := by
  have e : (decide ((x.toNat : Int) ≠ 46) && decide ((x.toNat : Int) ≠ 45) && decide ((x.toNat : Int) ≠ 95) && (decide ((x.toNat : Int) < 48) || decide (57 < (x.toNat : Int))) && (decide ((x.toNat : Int) < 97) || decide (122 < (x.toNat : Int))) && (decide ((x.toNat : Int) < 65) || decide (90 < (x.toNat : Int)))) = !charB x := by
    rw [Bool.eq_iff_iff]
    unfold charB
    simp
    omega
  rw [e]
  cases charB x <;> simp
theorem name_len1 {s : List UInt8} (h : s.all charB = true) : (decide (s ≠ []) && decide ((s.length : Int) ≤ 32)) = nameB s := by
  unfold nameB
  rw [h, Bool.and_true]
  congr 1
  exact decide_eq_decide.2 (by omega)
end Go.Fw
namespace Go.Proofs.YtakpdbmdfnialaaGreat
open Go.Fw Go.Proofs Go.RowKit Go.Proofs.Tryz
theorem c57 (w0 : World) (s : List UInt8) (hs : s.length ≤ 1048576) : Calls Tryz.prog 57 #[.string (bs s)] w0 fun e w' => e = .returned (.bool (nameB s)) ∧ Bel w0.heap.size w0 w' := by
  refine enter1 func57 rfl ntmps57 rfl fun a S => sg S (.ac rfl <| .z) fun a w S => wp_seq_k fun _ hK1 => wp_seq_k fun _ hK2 => wp_region_lit (run S (.mv rfl <| .z) fun a w S => st_m (op_bytes S underlying9 underlying174 underlying5 (.t rfl) (by first | omega | (simp; omega)) rfl fun g1 m1 fr1 hm1 a w S => run S (.ln underlying174 rfl <| .mc rfl <| .z) fun a w S => st_nil (then_normal (hK2 _ _ (wp_block ?_)))))
  refine st_lpM S [2, 8] (X := Nat) (fun k => [(2, true, .bool false), (8, true, .int .i64 (k : Int))]) (fun _ => [.blk g1 (.cells (txtC s m1).toArray 5 fr1)]) (fun k => k ≤ s.length ∧ (s.take k).all charB = true) (fun k => s.length - k) 0 ⟨Nat.zero_le _, by simp⟩ ?_
  clear S
  rintro k a w ⟨hk, hall⟩ S
  by_cases hlt : k < s.length
  · obtain ⟨x, hx⟩ : ∃ x, s[k]? = some x := ⟨s[k], List.getElem?_eq_getElem hlt⟩
    have hcx := txt_get (m := m1) hx
    have hch := key_char1 x
    refine sg S (.lt (by omega) rfl rfl <| .z) fun a w S => wp_seq_k fun _ hK2 => st_then S (.t rfl) (wp_skip (then_normal (hK2 _ _ (wp_seq_k fun _ hK2 => wp_block (sg S (.ix underlying174 sizeOf5 (by omega) rfl rfl <| .yy (ys_ldN ⟨isAgg5, sizeOf5⟩ (.t rfl) (k := 0) rfl (fun _ => by assumption)) rfl <| .as rfl <| .z) fun a w S => wp_seq_k fun _ hK3 => wp_region_lit (run S (.mv rfl <| .yy (ys_neq (.t rfl) Ev.c) rfl <| .mv rfl <| .z) fun a w S => st_yg S rfl rfl (Yr.ys (ys_move (.t rfl))) rfl fun a w S => st_yg S rfl rfl (Yr.ys (ys_neq (Ev.g rfl) Ev.c)) rfl fun a w S => run S (.yy (ys_and (.t rfl) (Ev.g rfl) Ev.c) rfl <| .mv rfl <| .z) fun a w S => st_yg S rfl rfl (Yr.ys (ys_move (.t rfl))) rfl fun a w S => st_yg S rfl rfl (Yr.ys (ys_neq (Ev.g rfl) Ev.c)) rfl fun a w S => run S (.yy (ys_and (.t rfl) (Ev.g rfl) Ev.c) rfl <| .mv rfl <| .z) fun a w S => st_yg S rfl rfl (Yr.ys (ys_move (.t rfl))) rfl fun a w S => st_yg S rfl rfl (Yr.ys (ys_lss (Ev.g rfl) Ev.c)) rfl fun a w S => st_yg S rfl rfl (Yr.ys (ys_move (Ev.g rfl))) rfl fun a w S => st_yf2 S rfl rfl (Yr.ys (ys_move (.t rfl))) rfl fun a w S => st_yf2 S rfl rfl (Yr.ys (ys_gtr (Ev.g rfl) Ev.c)) rfl fun a w S => st_yg S rfl rfl (Yr.ys (ys_or2 (Ev.g rfl) Ev.c (Ev.g rfl))) rfl fun a w S => ?_))))))
    refine run S (.yy (ys_and (.t rfl) (Ev.g rfl) Ev.c) rfl <| .mv rfl <| .z) fun a w S => st_yg S rfl rfl (Yr.ys (ys_move (.t rfl))) rfl fun a w S => st_yg S rfl rfl (Yr.ys (ys_lss (Ev.g rfl) Ev.c)) rfl fun a w S => st_yg S rfl rfl (Yr.ys (ys_move (Ev.g rfl))) rfl fun a w S => st_yf2 S rfl rfl (Yr.ys (ys_move (.t rfl))) rfl fun a w S => st_yf2 S rfl rfl (Yr.ys (ys_gtr (Ev.g rfl) Ev.c)) rfl fun a w S => st_yg S rfl rfl (Yr.ys (ys_or2 (Ev.g rfl) Ev.c (Ev.g rfl))) rfl fun a w S => run S (.yy (ys_and (.t rfl) (Ev.g rfl) Ev.c) rfl <| .mv rfl <| .z) fun a w S => st_yg S rfl rfl (Yr.ys (ys_move (.t rfl))) rfl fun a w S => st_yg S rfl rfl (Yr.ys (ys_lss (Ev.g rfl) Ev.c)) rfl fun a w S => st_yg S rfl rfl (Yr.ys (ys_move (Ev.g rfl))) rfl fun a w S => st_yf2 S rfl rfl (Yr.ys (ys_move (.t rfl))) rfl fun a w S => st_yf2 S rfl rfl (Yr.ys (ys_gtr (Ev.g rfl) Ev.c)) rfl fun a w S => st_yg S rfl rfl (Yr.ys (ys_or2 (Ev.g rfl) Ev.c (Ev.g rfl))) rfl fun a w S => run S (.yy (ys_and (.t rfl) (Ev.g rfl) Ev.c) rfl <| .z) fun a w S => st_nil (then_normal (hK3 _ _ ?_))
    refine st_cond S (.t rfl) (fun h1 => ?_) (fun h1 => ?_)
    refine sg S (.ac rfl <| .z) fun a w S => wp_ret (in_ret (then_ret (then_ret (in_ret (then_ret (st_ret S (results1 S results57 (Rv.tmp rfl)) ?_))))))
    rotate_left
    refine wp_skip (in_normal (then_normal (hK2 _ _ (wp_region_lit (run S (.ad (by unfold I64; omega) rfl <| .mv rfl <| .z) fun a w S => st_nil (then_normal ?_))))))
    rotate_left
    · refine ⟨?_, S.wd.below⟩
      rw [name_not (char_not hx (hch.1 h1))]
    · exact ⟨k + 1, ⟨by omega, char_more hx hall (hch.2 h1)⟩, by omega, S.pk⟩
  obtain rfl : k = s.length := by omega
  rw [List.take_length] at hall
  refine sg S (.ge (by omega) rfl rfl <| .z) fun a w S => wp_seq_k fun _ hK2 => st_else S (.t rfl) (wp_exit (then_exit (then_exit (in_here (then_normal (hK1 _ _ (wp_seq_k fun _ hK1 => wp_region_lit (run S (.mv rfl <| .yy (ys_neqStr (.t rfl) Ev.c) rfl <| .mv rfl <| .z) fun a w S => st_yg S rfl rfl (Yr.ys (ys_move (.t rfl))) rfl fun a w S => st_yg S rfl rfl (Yr.ys (ys_lenStr underlying9 (Ev.g rfl))) rfl fun a w S => st_yg S rfl rfl (Yr.ys (ys_leq (Ev.g rfl) Ev.c)) rfl fun a w S => run S (.yy (ys_and (.t rfl) (Ev.g rfl) Ev.c) rfl <| .as rfl <| .z) fun a w S => st_nil (then_normal (hK1 _ _ (wp_ret (st_ret S (results1 S results57 (Rv.tmp rfl)) ?_))))))))))))
  exact ⟨by rw [name_len1 hall], S.wd.below⟩
end Go.Proofs.YtakpdbmdfnialaaGreat
set_option linter.unusedVariables false
set_option linter.unusedSimpArgs false
set_option maxRecDepth 100000
set_option maxHeartbeats 4000000
namespace Go.Fw
def cmpI (x y : Int) : Int := if x < y then -1 else if y < x then 1 else 0
def orI (x y : Int) : Int := if x ≠ 0 then x else y
end Go.Fw
namespace Go.Proofs.YtakpdbmdfnialaaGreat
open Go.Fw Go.Proofs Go.RowKit Go.Proofs.Tryz
theorem c177 (w0 : World) (x : Int) : Calls Tryz.prog 177 #[.int .i64 x] w0 fun e w' => e = .returned (.bool false) ∧ Bel w0.heap.size w0 w' := by
  refine enter1 func177 rfl ntmps177 rfl fun a S => sg S (.ac rfl <| .z) fun a w S => sg S (.mv rfl <| .mv rfl <| .yy (ys_F (by omega) (ys_neq (.t rfl) (.t rfl))) rfl <| .as rfl <| .z) fun a w S => wp_ret (st_ret S (results1 S results177 (Rv.tmp rfl)) ?_)
  exact ⟨by simp, S.wd.below⟩
theorem c132 (w0 : World) (x y : Int) :
    Calls Tryz.prog 132 #[.int .i64 x, .int .i64 y] w0 fun e w' => e = .returned (.int .i64 (cmpI x y)) ∧ Bel w0.heap.size w0 w' := by
  refine enter2 func132 rfl ntmps132 rfl fun a S => sg S (.ac rfl <| .z) fun a w S => sg S (.mv rfl <| .xx (ys_call call177 (.cons (.t rfl) .nil) (fun hp w W => c177 _ _)) rfl <| .as rfl <| .z) fun a w S => sg S (.mv rfl <| .xx (ys_call call177 (.cons (.t rfl) .nil) (fun hp w W => c177 _ _)) rfl <| .as rfl <| .z) fun a w S => wp_seq_k fun _ hK1 => sg S (.mv rfl <| .z) fun a w S => st_else S (.t rfl) (wp_skip (then_normal (hK1 _ _ (wp_seq_k fun _ hK1 => sg S (.mv rfl <| .z) fun a w S => st_else S (.t rfl) (wp_skip (then_normal (hK1 _ _ (wp_seq_k fun _ hK1 => sg S (.mv rfl <| .mv rfl <| .yy (ys_lss (.t rfl) (.t rfl)) rfl <| .z) fun a w S => ?_))))))))
  refine st_if S (.t rfl) (fun h1 => ?_) (fun h1 => ?_)
  refine sg S (.ac rfl <| .z) fun a w S => wp_ret (then_ret (st_ret S (results1 S results132 (Rv.tmp rfl)) ?_))
  rotate_left
  refine wp_skip (then_normal (hK1 _ _ (wp_seq_k fun _ hK1 => sg S (.mv rfl <| .mv rfl <| .yy (ys_gtr (.t rfl) (.t rfl)) rfl <| .z) fun a w S => ?_)))
  refine st_if S (.t rfl) (fun h2 => ?_) (fun h2 => ?_)
  refine sg S (.ac rfl <| .z) fun a w S => wp_ret (then_ret (st_ret S (results1 S results132 (Rv.tmp rfl)) ?_))
  rotate_left
  refine wp_skip (then_normal (hK1 _ _ (sg S (.ac rfl <| .z) fun a w S => wp_ret (st_ret S (results1 S results132 (Rv.tmp rfl)) ?_))))
  rotate_left
  · exact ⟨by rw [cmpI, if_pos h1], S.wd.below⟩
  · exact ⟨by rw [cmpI, if_neg h1, if_pos h2], S.wd.below⟩
  · exact ⟨by rw [cmpI, if_neg h1, if_neg h2], S.wd.below⟩
theorem d130 (w0 : World) (g : Nat) (x y z : Int) (h0 : w0.cell? ⟨g, 0, none⟩ = some (.int .i64 x)) (h1 : w0.cell? ⟨g, 1, none⟩ = some (.int .i64 y)) (h2 : w0.cell? ⟨g, 2, none⟩ = some (.int .i64 z)) :
    Calls Tryz.prog 130 #[.slice (some ⟨g, 0, none⟩) 3 3] w0 fun e w' => e = .returned (.int .i64 (orI x (orI y z))) ∧ Bel w0.heap.size w0 w' := by
  have rw_1 : (0 : Int) + 1 = ((1 : Nat) : Int) := rfl
  have rw_2 : ((1 : Nat) : Int) + 1 = ((2 : Nat) : Int) := rfl
  have rw_3 : ((2 : Nat) : Int) + 1 = ((3 : Nat) : Int) := rfl
  refine enter1 func130 rfl ntmps130 rfl fun a S => sg S (.ac rfl <| .z) fun a w S => sg S (.ac rfl <| .z) fun a w S => wp_seq_k fun _ hK1 => sg S (.mv rfl <| .ln underlying202 rfl <| .mc rfl <| .z) fun a w S => wp_block (st_rounds 4 (st_round (sg S (.lt (by omega) rfl rfl <| .z) fun a w S => wp_seq_k fun _ hK2 => st_then S (.t rfl) (wp_skip (then_normal (hK2 _ _ (wp_seq_k fun _ hK2 => wp_block (sg S (.yy (ys_ixS (j := 0) underlying202 sizeOf3 (.t rfl) (.t rfl) (fun _ => by omega)) rfl <| .yy (ys_ldO ⟨isAgg3, sizeOf3⟩ (.t rfl) (fun _ => h0)) rfl <| .as rfl <| .z) fun a w S => sg S (.mv rfl <| .mv rfl <| .yy (ys_neq (.t rfl) (.t rfl)) rfl <| .z) fun a w S => ?_))))))))
  refine st_if S (.t rfl) (fun h3 => ?_) (fun h3 => ?_)
  refine sg S (.mv rfl <| .as rfl <| .z) fun a w S => wp_ret (in_ret (then_ret (then_ret (in_ret (then_ret (st_ret S (results1 S results130 (Rv.tmp rfl)) ?_))))))
  rotate_left
  refine wp_skip (in_normal (then_normal (hK2 _ _ (wp_region_lit (run S (.ad (by unfold I64; omega) rfl <| .z) fun a w S => ?_)))))
  rw [rw_1] at S
  refine run S (.mv rfl <| .z) fun a w S => st_nil (then_normal ?_)
  rotate_left
  · exact ⟨by rw [orI, if_pos h3], S.wd.below⟩
  refine st_round (sg S (.lt (by omega) rfl rfl <| .z) fun a w S => wp_seq_k fun _ hK2 => st_then S (.t rfl) (wp_skip (then_normal (hK2 _ _ (wp_seq_k fun _ hK2 => wp_block (sg S (.yy (ys_ixS (j := 1) underlying202 sizeOf3 (.t rfl) (.t rfl) (fun _ => by omega)) rfl <| .yy (ys_ldO ⟨isAgg3, sizeOf3⟩ (.t rfl) (fun _ => h1)) rfl <| .as rfl <| .z) fun a w S => sg S (.mv rfl <| .mv rfl <| .yy (ys_neq (.t rfl) (.t rfl)) rfl <| .z) fun a w S => ?_))))))
  refine st_if S (.t rfl) (fun h4 => ?_) (fun h4 => ?_)
  refine sg S (.mv rfl <| .as rfl <| .z) fun a w S => wp_ret (in_ret (then_ret (then_ret (in_ret (then_ret (st_ret S (results1 S results130 (Rv.tmp rfl)) ?_))))))
  rotate_left
  refine wp_skip (in_normal (then_normal (hK2 _ _ (wp_region_lit (run S (.ad (by unfold I64; omega) rfl <| .z) fun a w S => ?_)))))
  rw [rw_2] at S
  refine run S (.mv rfl <| .z) fun a w S => st_nil (then_normal ?_)
  rotate_left
  · exact ⟨by rw [orI, if_neg h3, orI, if_pos h4], S.wd.below⟩
  refine st_round (sg S (.lt (by omega) rfl rfl <| .z) fun a w S => wp_seq_k fun _ hK2 => st_then S (.t rfl) (wp_skip (then_normal (hK2 _ _ (wp_seq_k fun _ hK2 => wp_block (sg S (.yy (ys_ixS (j := 2) underlying202 sizeOf3 (.t rfl) (.t rfl) (fun _ => by omega)) rfl <| .yy (ys_ldO ⟨isAgg3, sizeOf3⟩ (.t rfl) (fun _ => h2)) rfl <| .as rfl <| .z) fun a w S => sg S (.mv rfl <| .mv rfl <| .yy (ys_neq (.t rfl) (.t rfl)) rfl <| .z) fun a w S => ?_))))))
  refine st_if S (.t rfl) (fun h5 => ?_) (fun h5 => ?_)
  refine sg S (.mv rfl <| .as rfl <| .z) fun a w S => wp_ret (in_ret (then_ret (then_ret (in_ret (then_ret (st_ret S (results1 S results130 (Rv.tmp rfl)) ?_))))))
  rotate_left
  refine wp_skip (in_normal (then_normal (hK2 _ _ (wp_region_lit (run S (.ad (by unfold I64; omega) rfl <| .z) fun a w S => ?_)))))
  rw [rw_3] at S
  refine run S (.mv rfl <| .z) fun a w S => st_nil (then_normal ?_)
  rotate_left
  · exact ⟨by rw [orI, if_neg h3, orI, if_neg h4], S.wd.below⟩
  refine st_round (sg S (.ge (by omega) rfl rfl <| .z) fun a w S => wp_seq_k fun _ hK2 => st_else S (.t rfl) (wp_exit (then_exit (then_exit (in_here (then_normal (hK1 _ _ (sg S (.mv rfl <| .as rfl <| .z) fun a w S => wp_ret (st_ret S (results1 S results130 (Rv.tmp rfl)) ?_)))))))))
  exact ⟨by rw [orI, if_neg h3, orI, if_neg h4, Decidable.not_not.1 h5], S.wd.below⟩
end Go.Proofs.YtakpdbmdfnialaaGreat
set_option linter.unusedVariables false
set_option linter.unusedSimpArgs false
set_option maxRecDepth 100000
set_option maxHeartbeats 4000000
namespace Go.Fw
theorem may_and (x y z : Int) : (decide (0 ≤ x) && decide (x < 8) && decide (1 ≤ y) && decide (y ≤ 1099511627776) && decide (1 ≤ z) && decide (z ≤ 1099511627776)) = mayD ⟨x, y, z⟩ := by
  rw [Bool.eq_iff_iff]
  simp [mayD]
  omega
theorem less_neither {a b : List UInt8} (h : Op.bytesLess a b = false) (h' : Op.bytesLess b a = false) : a = b := by
  refine Decidable.byContradiction fun hne => ?_
  rcases less_total hne with h1 | h1
  · rw [h] at h1; cases h1
  · rw [h'] at h1; cases h1
theorem ord_or (a b : Gon) : orI (cmpB a.key b.key) (orI (cmpI a.dt.node b.dt.node) (cmpI a.dt.life b.dt.life)) = ordG a b := by
  unfold orI cmpB cmpI ordG ltG sameG ltM
  by_cases h1 : Op.bytesLess a.key b.key = true
  · simp [h1]
  · by_cases h2 : a.key = b.key
    · have h3 : Op.bytesLess b.key b.key = false := less_irr _
      by_cases h4 : a.dt.node < b.dt.node
      · simp [h2, h3, h4]
      · by_cases h5 : b.dt.node < a.dt.node
        · have h6 : ¬ a.dt.node = b.dt.node := by omega
          simp [h2, h3, h4, h5, h6]
        · have h6 : a.dt.node = b.dt.node := by omega
          by_cases h7 : a.dt.life < b.dt.life
          · simp [h2, h3, h6, h7]
          · by_cases h8 : b.dt.life < a.dt.life
            · have h9 : ¬ a.dt.life = b.dt.life := by omega
              simp [h2, h3, h6, h7, h8, h9]
            · have h9 : a.dt.life = b.dt.life := by omega
              simp [h2, h3, h6, h9]
    · simp [h1, h2]
end Go.Fw
namespace Go.Proofs.YtakpdbmdfnialaaGreat
open Go.Fw Go.Proofs Go.RowKit Go.Proofs.Tryz
theorem c176 (w0 : World) (l : List UInt8) : Calls Tryz.prog 176 #[.string (bs l)] w0 fun e w' => e = .returned (.bool false) ∧ Bel w0.heap.size w0 w' := by
  refine enter1 func176 rfl ntmps176 rfl fun a S => sg S (.ac rfl <| .z) fun a w S => sg S (.mv rfl <| .mv rfl <| .yy (ys_neqStr (.t rfl) (.t rfl)) rfl <| .as rfl <| .z) fun a w S => wp_ret (st_ret S (results1 S results176 (Rv.tmp rfl)) ?_)
  exact ⟨by simp, S.wd.below⟩
theorem c131 (w0 : World) (l m : List UInt8) : Calls Tryz.prog 131 #[.string (bs l), .string (bs m)] w0 fun e w' => e = .returned (.int .i64 (cmpB l m)) ∧ Bel w0.heap.size w0 w' := by
  refine enter2 func131 rfl ntmps131 rfl fun a S => sg S (.ac rfl <| .z) fun a w S => sg S (.mv rfl <| .xx (ys_call call176 (.cons (.t rfl) .nil) (fun hp w W => c176 _ _)) rfl <| .as rfl <| .z) fun a w S => sg S (.mv rfl <| .xx (ys_call call176 (.cons (.t rfl) .nil) (fun hp w W => c176 _ _)) rfl <| .as rfl <| .z) fun a w S => wp_seq_k fun _ hK1 => sg S (.mv rfl <| .z) fun a w S => st_else S (.t rfl) (wp_skip (then_normal (hK1 _ _ (wp_seq_k fun _ hK1 => sg S (.mv rfl <| .z) fun a w S => st_else S (.t rfl) (wp_skip (then_normal (hK1 _ _ (wp_seq_k fun _ hK1 => sg S (.mv rfl <| .mv rfl <| .yy (ys_lssStr (.t rfl) (.t rfl)) rfl <| .z) fun a w S => ?_))))))))
  refine st_cond S (.t rfl) (fun h1 => ?_) (fun h1 => ?_)
  refine sg S (.ac rfl <| .z) fun a w S => wp_ret (then_ret (st_ret S (results1 S results131 (Rv.tmp rfl)) ?_))
  rotate_left
  refine wp_skip (then_normal (hK1 _ _ (wp_seq_k fun _ hK1 => sg S (.mv rfl <| .mv rfl <| .yy (ys_gtrStr (.t rfl) (.t rfl)) rfl <| .z) fun a w S => ?_)))
  refine st_cond S (.t rfl) (fun h2 => ?_) (fun h2 => ?_)
  refine sg S (.ac rfl <| .z) fun a w S => wp_ret (then_ret (st_ret S (results1 S results131 (Rv.tmp rfl)) ?_))
  rotate_left
  refine wp_skip (then_normal (hK1 _ _ (sg S (.ac rfl <| .z) fun a w S => wp_ret (st_ret S (results1 S results131 (Rv.tmp rfl)) ?_))))
  rotate_left
  · exact ⟨by rw [cmpB, if_pos h1], S.wd.below⟩
  · exact ⟨by rw [cmpB, if_neg (by rw [h1]; simp), if_neg (less_ne h2).symm], S.wd.below⟩
  · exact ⟨by rw [cmpB, if_neg (by rw [h1]; simp), if_pos (less_neither h1 h2)], S.wd.below⟩
theorem c56 (w0 : World) (x y z : Int) : Calls Tryz.prog 56 #[.agg #[.int .i64 x, .int .i64 y, .int .i64 z]] w0 fun e w' => e = .returned (.bool (mayD ⟨x, y, z⟩)) ∧ Bel w0.heap.size w0 w' := by
  refine enter1 func56 rfl ntmps56 rfl fun a S => wp_seq_k fun _ hK1 => wp_region_lit (st_m (op_box S (.t rfl) rfl fun g1 a w S => run S (.ac rfl <| .z) fun a w S => st_nil (then_normal (hK1 _ _ (wp_seq_k fun _ hK1 => wp_region_lit (run S (.fa underlying30 sizeOf3 0 rfl rfl rfl <| .ld gt3 0 rfl rfl rfl <| .yy (ys_geq (.t rfl) Ev.c) rfl <| .mv rfl <| .z) fun a w S => st_yg S rfl rfl (Yr.ys (ys_fieldN (FieldT.mk underlying30 rfl sizeOf3 rfl) (.t rfl) (i' := 0) rfl)) rfl fun a w S => st_yg S rfl rfl (Yr.ys (ys_ld ⟨isAgg3, sizeOf3⟩ (Ev.g rfl) (k := 0) rfl rfl)) rfl fun a w S => st_yg S rfl rfl (Yr.ys (ys_lss (Ev.g rfl) Ev.c)) rfl fun a w S => run S (.yy (ys_and (.t rfl) (Ev.g rfl) Ev.c) rfl <| .mv rfl <| .z) fun a w S => st_yg S rfl rfl (Yr.ys (ys_fieldN (FieldT.mk underlying30 rfl sizeOf3 rfl) (.t rfl) (i' := 1) rfl)) rfl fun a w S => st_yg S rfl rfl (Yr.ys (ys_ld ⟨isAgg3, sizeOf3⟩ (Ev.g rfl) (k := 0) rfl rfl)) rfl fun a w S => st_yg S rfl rfl (Yr.ys (ys_geq (Ev.g rfl) Ev.c)) rfl fun a w S => run S (.yy (ys_and (.t rfl) (Ev.g rfl) Ev.c) rfl <| .mv rfl <| .z) fun a w S => st_yg S rfl rfl (Yr.ys (ys_fieldN (FieldT.mk underlying30 rfl sizeOf3 rfl) (.t rfl) (i' := 1) rfl)) rfl fun a w S => st_yg S rfl rfl (Yr.ys (ys_ld ⟨isAgg3, sizeOf3⟩ (Ev.g rfl) (k := 0) rfl rfl)) rfl fun a w S => st_yg S rfl rfl (Yr.ys (ys_leq (Ev.g rfl) Ev.c)) rfl fun a w S => ?_))))))
  refine run S (.yy (ys_and (.t rfl) (Ev.g rfl) Ev.c) rfl <| .mv rfl <| .z) fun a w S => st_yg S rfl rfl (Yr.ys (ys_fieldN (FieldT.mk underlying30 rfl sizeOf3 rfl) (.t rfl) (i' := 2) rfl)) rfl fun a w S => st_yg S rfl rfl (Yr.ys (ys_ld ⟨isAgg3, sizeOf3⟩ (Ev.g rfl) (k := 0) rfl rfl)) rfl fun a w S => st_yg S rfl rfl (Yr.ys (ys_geq (Ev.g rfl) Ev.c)) rfl fun a w S => run S (.yy (ys_and (.t rfl) (Ev.g rfl) Ev.c) rfl <| .mv rfl <| .z) fun a w S => st_yg S rfl rfl (Yr.ys (ys_fieldN (FieldT.mk underlying30 rfl sizeOf3 rfl) (.t rfl) (i' := 2) rfl)) rfl fun a w S => st_yg S rfl rfl (Yr.ys (ys_ld ⟨isAgg3, sizeOf3⟩ (Ev.g rfl) (k := 0) rfl rfl)) rfl fun a w S => st_yg S rfl rfl (Yr.ys (ys_leq (Ev.g rfl) Ev.c)) rfl fun a w S => run S (.yy (ys_and (.t rfl) (Ev.g rfl) Ev.c) rfl <| .as rfl <| .z) fun a w S => st_nil (then_normal (hK1 _ _ (wp_ret (st_ret S (results1 S results56 (Rv.tmp rfl)) ?_))))
  exact ⟨by rw [may_and], S.wd.below⟩
theorem c59 (w0 : World) (a b : Gon) : Calls Tryz.prog 59 #[.agg (Gon.enc a).toArray, .agg (Gon.enc b).toArray] w0 fun e w' => e = .returned (.int .i64 (ordG a b)) ∧ Bel w0.heap.size w0 w' := by
  refine enter2 func59 rfl ntmps59 rfl fun a S => wp_seq_k fun _ hK1 => wp_region_lit (st_m (op_box S (.t rfl) rfl fun g1 a w S => st_m (op_box S (.t rfl) rfl fun g2 a w S => run S (.ac rfl <| .z) fun a w S => st_nil (then_normal (hK1 _ _ (wp_seq_k fun _ hK1 => h_begin0 S (by kernel_rfl) fun a w S => hy 0 S rfl (ys_fieldN (FieldT.mk underlying52 rfl sizeOf9 rfl) (.t rfl) (i' := 0) rfl) rfl fun a w S => hy 1 S rfl (ys_ld ⟨isAgg9, sizeOf9⟩ (.t rfl) (k := 1) rfl rfl) rfl fun a w S => hy 2 S rfl (ys_fieldN (FieldT.mk underlying52 rfl sizeOf9 rfl) (.t rfl) (i' := 0) rfl) rfl fun a w S => ?_))))))
  refine hy 3 S rfl (ys_ld ⟨isAgg9, sizeOf9⟩ (.t rfl) (k := 0) rfl rfl) rfl fun a w S => hy 5 S rfl (ys_fieldN (FieldT.mk underlying52 rfl sizeOf30 rfl) (.t rfl) (i' := 1) rfl) rfl fun a w S => hy 6 S rfl (ys_fieldN (FieldT.mk underlying30 rfl sizeOf3 rfl) (.t rfl) (i' := 1) rfl) rfl fun a w S => hy 7 S rfl (ys_ld ⟨isAgg3, sizeOf3⟩ (.t rfl) (k := 1) rfl rfl) rfl fun a w S => ?_
  refine hy 8 S rfl (ys_fieldN (FieldT.mk underlying52 rfl sizeOf30 rfl) (.t rfl) (i' := 1) rfl) rfl fun a w S => hy 9 S rfl (ys_fieldN (FieldT.mk underlying30 rfl sizeOf3 rfl) (.t rfl) (i' := 1) rfl) rfl fun a w S => hy 10 S rfl (ys_ld ⟨isAgg3, sizeOf3⟩ (.t rfl) (k := 0) rfl rfl) rfl fun a w S => hy 12 S rfl (ys_fieldN (FieldT.mk underlying52 rfl sizeOf30 rfl) (.t rfl) (i' := 1) rfl) rfl fun a w S => ?_
  refine hy 13 S rfl (ys_fieldN (FieldT.mk underlying30 rfl sizeOf3 rfl) (.t rfl) (i' := 2) rfl) rfl fun a w S => hy 14 S rfl (ys_ld ⟨isAgg3, sizeOf3⟩ (.t rfl) (k := 1) rfl rfl) rfl fun a w S => hy 15 S rfl (ys_fieldN (FieldT.mk underlying52 rfl sizeOf30 rfl) (.t rfl) (i' := 1) rfl) rfl fun a w S => hy 16 S rfl (ys_fieldN (FieldT.mk underlying30 rfl sizeOf3 rfl) (.t rfl) (i' := 2) rfl) rfl fun a w S => ?_
  refine hy 17 S rfl (ys_ld ⟨isAgg3, sizeOf3⟩ (.t rfl) (k := 0) rfl rfl) rfl fun a w S => h_q (i := 4) S (by repeat (first | exact List.Sublist.refl _ | exact List.nil_sublist _ | refine .cons_cons _ ?_ | refine .cons _ ?_)) rfl (by kernel_rfl) (ys_call call131 (.cons (.t rfl) (.cons (.t rfl) .nil)) (fun hp w W => c131 _ _ _)) rfl fun a w S => h_q (i := 11) S (by repeat (first | exact List.Sublist.refl _ | exact List.nil_sublist _ | refine .cons_cons _ ?_ | refine .cons _ ?_)) rfl (by kernel_rfl) (ys_call call132 (.cons (.t rfl) (.cons (.t rfl) .nil)) (fun hp w W => c132 _ _ _)) rfl fun a w S => h_q (i := 18) S (by repeat (first | exact List.Sublist.refl _ | exact List.nil_sublist _ | refine .cons_cons _ ?_ | refine .cons _ ?_)) rfl (by kernel_rfl) (ys_call call132 (.cons (.t rfl) (.cons (.t rfl) .nil)) (fun hp w W => c132 _ _ _)) rfl fun a w S => ?_
  (refine h_m (i := 19) rfl (by kernel_rfl) (op_bsliceZ (ps := [(0, Go.Operand.tmp 9), (1, Go.Operand.tmp 16), (2, Go.Operand.tmp 23)]) (us := [_, _, _]) S underlying202 sizeOf3 zeroValue3 rfl rfl (.cons (.t rfl) (.cons (.t rfl) (.cons (.t rfl) .nil))) rfl rfl ?_); clear S a w; intro g3 a w S; refine h_n2 S ?_)
  refine h_q (i := 20) S (by repeat (first | exact List.Sublist.refl _ | exact List.nil_sublist _ | refine .cons_cons _ ?_ | refine .cons _ ?_)) rfl (by kernel_rfl) (ys_call call130 (.cons (.t rfl) .nil) (fun hp w W => d130 _ _ _ _ _ (by exact Wd.cell W (k := 0) rfl rfl) (by exact Wd.cell W (k := 0) rfl rfl) (by exact Wd.cell W (k := 0) rfl rfl))) rfl fun a w S => hy 21 S rfl (ys_assign (.t rfl)) rfl fun a w S => h_done (by kernel_rfl) (then_normal (hK1 _ _ (wp_ret (st_ret S (results1 S results59 (Rv.tmp rfl)) ?_))))
  exact ⟨by rw [ord_or], S.wd.below⟩
end Go.Proofs.YtakpdbmdfnialaaGreat
set_option linter.unusedVariables false
set_option linter.unusedSimpArgs false
set_option maxRecDepth 100000
namespace Go.Proofs.YtakpdbmdfnialaaGreat
open Go.Fw Go.Proofs Go.RowKit Go.Proofs.Tryz
set_option maxHeartbeats 1000000 in
theorem k60 {α : Type} {enc : α → List Value} (he : ∀ x, (enc x).length = 4) (h1 : ∀ x, ∀ u ∈ enc x, u.oneCell' = true) {w0 w : World} {L : List Chunk} {A : Option Addr} {cap gv : Nat} {l : List α} {x : α} {vs : List Value} {E' : TypeId}
    (W : Wd w0 (rowOf 52 4 enc A cap l :: .blk gv (.cells vs.toArray E') :: L) w) (hvs : vs = enc x) (i : Nat) (hi : i ≤ l.length) (hn : l.length ≤ 4194304) :
    RetsO Tryz.prog 60 #[.slice A l.length cap, .int .i64 (i : Int), .slice (some ⟨gv, 0, none⟩) 1 1] w0 w fun v L' => ∃ A' c', v = .slice A' (l.length + 1) c' ∧ L' = rowOf 52 4 enc A' c' (l.take i ++ x :: l.drop i) :: L := by
  obtain ⟨hlc, hcm⟩ := W.room (k := 0) rfl
  have hf1 : ∀ u ∈ l.flatMap enc, u.oneCell' = true := fun u hu => by
    obtain ⟨y, _, hy⟩ := List.mem_flatMap.1 hu
    exact h1 y u hy
  have hd1 : ∀ u ∈ (l.drop i).flatMap enc, u.oneCell' = true := fun u hu => by
    obtain ⟨y, _, hy⟩ := List.mem_flatMap.1 hu
    exact h1 y u hy
  have hx := he x
  have hfl := flat_len he l
  have hdl := flat_len he (l.drop i)
  have hdi : (l.drop i).length = l.length - i := List.length_drop
  have rw_1 : ((1 : Nat) : Int) = 1 := rfl
  unfold RetsO
  refine enterW3 W func60 rfl ntmps60 rfl fun a S => ?_
  by_cases hil : i = l.length
  · refine sg S (.ac rfl <| .z) fun a w S => sg S (.mv rfl <| .mv rfl <| .yy (ys_slLo underlying26 sizeOf52 (.t rfl) (.t rfl) (fun _ => by first | omega | (simp; done) | (simp; omega))) rfl <| .z) fun a w S => wp_seq_k fun _ hK1 => wp_region_lit (run S (.mv rfl <| .ln underlying26 rfl <| .z) fun a w S => ?_)
    rw [rw_1] at S
    refine run S (.as rfl <| .z) fun a w S => st_nil (then_normal (hK1 _ _ (wp_seq_k fun _ hK1 => sg S (.mv rfl <| .yy (ys_F (by omega) (ys_eql (.t rfl) Ev.c)) rfl <| .z) fun a w S => st_else S (.t rfl) (wp_skip (then_normal (hK1 _ _ (sg S (.mv rfl <| .ln underlying26 rfl <| .as rfl <| .z) fun a w S => wp_seq_k fun _ hK1 => sg S (.mv rfl <| .mv rfl <| .yy (ys_T (by omega) (ys_eql (.t rfl) (.t rfl))) rfl <| .z) fun a w S => st_then S (.t rfl) (wp_seq_k fun _ hK2 => wp_region_lit (run S (.mv rfl <| .mv rfl <| .z) fun a w S => ?_)))))))))
    refine st_m (op_extend [x] S underlying26 underlying26 (.inr ⟨_, rfl⟩) inf52 rfl (k := 0) rfl (.t rfl) (.t rfl) (by
      have h := Src.blk (P := Tryz.prog) (size := 4) (m := 1) (c := 1) S.wd (k := 1) rfl (by rw [hvs, he]) (by rw [hvs]; exact h1 x)
      simpa [hvs] using h) (by simp; omega) rfl rfl rfl ?_)
    clear S
    intro A1 cap1 a w S
    refine run S (.as rfl <| .z) fun a w S => st_nil (then_normal (hK2 _ _ (wp_ret (then_ret (st_ret S (results1 S results60 (Rv.tmp rfl)) ?_)))))
    refine ⟨_, rowOf 52 4 enc A1 cap1 (l ++ [x]) :: L, rfl, S.wd.sub (by repeat (first | exact List.Sublist.refl _ | exact List.nil_sublist _ | refine .cons_cons _ ?_ | refine .cons _ ?_)), A1, cap1, by simp, ?_⟩
    rw [hil, List.take_length, List.drop_length]
  by_cases hroom : l.length + 1 ≤ cap
  · have rw_2 : (l.length : Int) + 1 = ((l.length + 1 : Nat) : Int) := by omega
    have rw_3 : (i : Int) + 1 = ((i + 1 : Nat) : Int) := by omega
    obtain ⟨g, cs, rfl, hcs, _, hcm', htk, W2⟩ := S.wd.open_row (k := 0) rfl (by omega)
    replace S := St.mk S.kn W2
    clear W W2
    have hlen : cs.length = cap * 4 := hcs
    refine sg S (.ac rfl <| .z) fun a w S => sg S (.mv rfl <| .mv rfl <| .yy (ys_slLoB underlying26 sizeOf52 (.t rfl) (.t rfl) (fun _ => by omega)) rfl <| .z) fun a w S => wp_seq_k fun _ hK1 => wp_region_lit (run S (.mv rfl <| .ln underlying26 rfl <| .z) fun a w S => ?_)
    rw [rw_1] at S
    refine run S (.as rfl <| .z) fun a w S => st_nil (then_normal (hK1 _ _ (wp_seq_k fun _ hK1 => sg S (.mv rfl <| .yy (ys_F (by omega) (ys_eql (.t rfl) Ev.c)) rfl <| .z) fun a w S => st_else S (.t rfl) (wp_skip (then_normal (hK1 _ _ (sg S (.mv rfl <| .ln underlying26 rfl <| .as rfl <| .z) fun a w S => wp_seq_k fun _ hK1 => sg S (.mv rfl <| .mv rfl <| .yy (ys_F (by omega) (ys_eql (.t rfl) (.t rfl))) rfl <| .z) fun a w S => st_else S (.t rfl) (wp_skip (then_normal (hK1 _ _ (wp_seq_k fun _ hK1 => wp_seq_k fun _ hK2 => wp_region_lit (run S (.mv rfl <| .mv rfl <| .yy (ys_addI (.t rfl) (.t rfl) (fun _ => by unfold I64; omega)) rfl <| .z) fun a w S => ?_))))))))))))
    rw [rw_2] at S
    refine run S (.mv rfl <| .yy (ys_cap underlying26 (.t rfl)) rfl <| .yy (ys_F (by omega) (ys_gtr (.t rfl) (.t rfl))) rfl <| .z) fun a w S => st_nil (then_normal (hK2 _ _ (st_else S (.t rfl) (wp_skip (then_normal (hK1 _ _ (wp_seq_k fun _ hK1 => wp_region_lit (run S (.mv rfl <| .mv rfl <| .mv rfl <| .yy (ys_addI (.t rfl) (.t rfl) (fun _ => by unfold I64; omega)) rfl <| .z) fun a w S => ?_))))))))
    rw [rw_2] at S
    refine run S (.yy (ys_slHi underlying26 sizeOf52 (.t rfl) (.t rfl) (fun _ => by first | omega | (simp; done) | (simp; omega))) rfl <| .as rfl <| .z) fun a w S => st_nil (then_normal (hK1 _ _ (wp_seq_k fun _ hK1 => wp_seq_k fun _ hK2 => wp_region_lit (run S (.mv rfl <| .mv rfl <| .mv rfl <| .mv rfl <| .yy (ys_addI (.t rfl) (.t rfl) (fun _ => by unfold I64; omega)) rfl <| .z) fun a w S => ?_))))
    rw [rw_3] at S
    refine run S (.yy (ys_slLoB underlying26 sizeOf52 (.t rfl) (.t rfl) (fun _ => by omega)) rfl <| .z) fun a w S => st_y S (Yr.ys (ys_overlaps (tS := 26) (tR := 4) (ka := 1) (kb := 0) func133 (by kernel_rfl) (by kernel_rfl) (by kernel_rfl) (by kernel_rfl) underlying26 sizeOf52 (.t rfl) (.t rfl) rfl rfl (by decide) (fun h => by rw [h] at hlen; simp at hlen; omega))) rfl ?_
    clear S
    intro a w S
    refine run S (.nt rfl <| .z) fun a w S => st_nil (then_normal (hK2 _ _ (st_then S (.t rfl) (wp_seq_k fun _ hK2 => h_begin S (by kernel_rfl) [] fun a w S => hy 0 S rfl (ys_move (.t rfl)) rfl fun a w S => hy 1 S rfl (ys_move (.t rfl)) rfl fun a w S => hy 2 S rfl (ys_move (.t rfl)) rfl fun a w S => hy 3 S rfl (ys_addI (.t rfl) (.t rfl) (fun _ => by unfold I64; omega)) rfl fun a w S => ?_))))
    rw [rw_3] at S
    refine hy 4 S rfl (ys_slLoB underlying26 sizeOf52 (.t rfl) (.t rfl) (fun _ => by omega)) rfl fun a w S => hy 5 S rfl (ys_move (.t rfl)) rfl fun a w S => hy 6 S rfl (ys_move (.t rfl)) rfl fun a w S => hy 7 S rfl (ys_slLoB underlying26 sizeOf52 (.t rfl) (.t rfl) (fun _ => by omega)) rfl fun a w S => ?_
    have hnew : (cs.drop (0 + i * 4)).take ((l.length - i) * 4) = (l.drop i).flatMap enc := by
      rw [← flat_drop he, ← htk, Nat.zero_add, List.drop_take, ← Nat.sub_mul]
    refine h_m (i := 8) rfl (by kernel_rfl) (op_copyG (m := l.length - i) (q := l.length + 1 - i) S underlying26 sizeOf52 (.t rfl) (.t rfl) (k := 0) rfl (fun W => rfl) (by omega) (first_blk S.wd (k := 0) rfl (by omega)) (by rw [hnew]; omega) (by rw [hnew]; exact hd1) rfl ?_)
    clear S
    intro a w S
    refine h_n1 S ?_
    rw [hnew] at S
    refine h_done (by kernel_rfl) (then_normal (hK2 _ _ (wp_seq_k fun _ hK2 => wp_region_lit (run S (.mv rfl <| .mv rfl <| .yy (ys_slLoB underlying26 sizeOf52 (.t rfl) (.t rfl) (fun _ => by omega)) rfl <| .mv rfl <| .z) fun a w S => st_m (op_copyG (m := 1) (q := 1) S underlying26 sizeOf52 (.t rfl) (.t rfl) (k := 0) rfl (fun W => rfl) (by omega) (first_blk S.wd (k := 1) rfl (by rw [hvs]; omega)) (by rw [lay_len, hvs]; simp; omega) (by rw [hvs]; exact fun u hu => h1 x u (by simpa using List.mem_of_mem_take hu)) rfl ?_)))))
    clear S
    intro a w S
    have hv3 : (vs.drop 0).take (1 * 4) = enc x := by rw [List.drop_zero, hvs, List.take_of_length_le (by omega)]
    rw [hv3] at S
    refine st_nil ?_
    rw [rw_1] at S
    refine then_normal (hK2 _ _ (sg S (.mv rfl <| .as rfl <| .z) fun a w S => wp_ret (then_ret (st_ret S (results1 S results60 (Rv.tmp rfl)) ?_))))
    have hfin := (ins_cells (cs := cs) (a := (l.take i).flatMap enc) (x := enc x) (d := (l.drop i).flatMap enc) (o := 0 + i * 4) (by rw [Nat.zero_add, ← flat_take he, ← htk, List.take_take, Nat.min_eq_left (Nat.mul_le_mul_right _ hi)]) (by omega) (by omega)).2
    have W3 := S.wd.close_row (k := 0) rfl (size := 4) (l.length + 1) cap ((l.take i ++ x :: l.drop i).flatMap enc) (by omega) (by rw [lay_len, lay_len]; exact hlen) (by omega) hcm' (by
      rw [List.flatMap_append, List.flatMap_cons, ← List.append_assoc, ← hfin, hx]
      rw [show (i + 1) * 4 = i * 4 + 4 by omega, Nat.zero_add, Nat.zero_add, Nat.add_assoc (i * 4) 4]
      congr 1
      omega)
    refine ⟨_, .row 52 4 (some ⟨g, 0, none⟩) (l.length + 1) cap ((l.take i ++ x :: l.drop i).flatMap enc) :: L, rfl, W3.sub (by repeat (first | exact List.Sublist.refl _ | exact List.nil_sublist _ | refine .cons_cons _ ?_ | refine .cons _ ?_)), some ⟨g, 0, none⟩, cap, rfl, ?_⟩
    simp only [rowOf]
    congr 2
    simp; omega
  · have rw_4 : (l.length : Int) + 1 - i = ((l.length + 1 - i : Nat) : Int) := by omega
    have rw_3 : (i : Int) + 1 = ((i + 1 : Nat) : Int) := by omega
    obtain ⟨ga, rfl⟩ := S.wd.row_at (k := 0) rfl (by omega)
    clear W
    refine sg S (.ac rfl <| .z) fun a w S => sg S (.mv rfl <| .mv rfl <| .yy (ys_slLoB underlying26 sizeOf52 (.t rfl) (.t rfl) (fun _ => by omega)) rfl <| .z) fun a w S => wp_seq_k fun _ hK1 => wp_region_lit (run S (.mv rfl <| .ln underlying26 rfl <| .z) fun a w S => ?_)
    rw [rw_1] at S
    refine run S (.as rfl <| .z) fun a w S => st_nil (then_normal (hK1 _ _ (wp_seq_k fun _ hK1 => sg S (.mv rfl <| .yy (ys_F (by omega) (ys_eql (.t rfl) Ev.c)) rfl <| .z) fun a w S => st_else S (.t rfl) (wp_skip (then_normal (hK1 _ _ (sg S (.mv rfl <| .ln underlying26 rfl <| .as rfl <| .z) fun a w S => wp_seq_k fun _ hK1 => sg S (.mv rfl <| .mv rfl <| .yy (ys_F (by omega) (ys_eql (.t rfl) (.t rfl))) rfl <| .z) fun a w S => st_else S (.t rfl) (wp_skip (then_normal (hK1 _ _ (wp_seq_k fun _ hK1 => sg S (.mv rfl <| .mv rfl <| .yy (ys_addI (.t rfl) (.t rfl) (fun _ => by unfold I64; omega)) rfl <| .mv rfl <| .yy (ys_cap underlying26 (.t rfl)) rfl <| .yy (ys_T (by omega) (ys_gtr (.t rfl) (.t rfl))) rfl <| .z) fun a w S => st_then S (.t rfl) (wp_seq_k fun _ hK2 => wp_region_lit (run S (.mv rfl <| .mv rfl <| .yy (ys_slHi underlying26 sizeOf52 (.t rfl) (.t rfl) (fun _ => by first | omega | (simp; done) | (simp; omega))) rfl <| .mv rfl <| .mv rfl <| .yy (ys_addI (.t rfl) (.t rfl) (fun _ => by unfold I64; omega)) rfl <| .mv rfl <| .yy (ys_subI (.t rfl) (.t rfl) (fun _ => by unfold I64; omega)) rfl <| .z) fun a w S => ?_)))))))))))))
    rw [rw_4] at S
    refine st_m (op_appZ (i := i) (z := l.length + 1 - i) S underlying26 underlying3 inf52 rfl (by simp [Value.cells, Value.oneCell']) (k := 0) rfl (.t rfl) (.t rfl) hi (by omega) (by omega) rfl rfl hf1 rfl ?_)
    clear S
    intro g cs cap' a w hcs hcap' hcm' htk hcs1 S
    have hlen : cs.length = cap' * 4 := hcs
    clear hcs
    refine run S (.as rfl <| .z) fun a w S => st_nil (then_normal (hK2 _ _ (wp_seq_k fun _ hK2 => wp_region_lit (run S (.mv rfl <| .mv rfl <| .yy (ys_slLoB underlying26 sizeOf52 (.t rfl) (.t rfl) (fun _ => by omega)) rfl <| .mv rfl <| .z) fun a w S => st_m (op_copyG (m := 1) (q := 1) S underlying26 sizeOf52 (.t rfl) (.t rfl) (k := 0) rfl (fun W => rfl) (by omega) (first_blk S.wd (k := 2) rfl (by rw [hvs]; omega)) (by rw [hvs]; simp; omega) (by rw [hvs]; exact fun u hu => h1 x u (by simpa using List.mem_of_mem_take hu)) rfl ?_)))))
    clear S
    intro a w S
    have hv3 : (vs.drop 0).take (1 * 4) = enc x := by rw [List.drop_zero, hvs, List.take_of_length_le (by omega)]
    rw [hv3] at S
    refine st_nil ?_
    rw [rw_1] at S
    refine then_normal (hK2 _ _ (wp_seq_k fun _ hK2 => h_begin S (by kernel_rfl) [] fun a w S => hy 0 S rfl (ys_move (.t rfl)) rfl fun a w S => hy 1 S rfl (ys_move (.t rfl)) rfl fun a w S => hy 2 S rfl (ys_move (.t rfl)) rfl fun a w S => hy 3 S rfl (ys_addI (.t rfl) (.t rfl) (fun _ => by unfold I64; omega)) rfl fun a w S => ?_))
    rw [rw_3] at S
    refine hy 4 S rfl (ys_slLoB underlying26 sizeOf52 (.t rfl) (.t rfl) (fun _ => by omega)) rfl fun a w S => hy 5 S rfl (ys_move (.t rfl)) rfl fun a w S => hy 6 S rfl (ys_move (.t rfl)) rfl fun a w S => hy 7 S rfl (ys_slLoB underlying26 sizeOf52 (.t rfl) (.t rfl) (fun _ => by omega)) rfl fun a w S => ?_
    have hnew : (l.drop i).take (l.length - i) = l.drop i := List.take_of_length_le (by simp)
    refine h_m (i := 8) rfl (by kernel_rfl) (op_copyG (m := l.length - i) (q := l.length - i) S underlying26 sizeOf52 (.t rfl) (.t rfl) (k := 0) rfl (fun W => rfl) (by omega) (first_row he S.wd (k := 1) rfl (by omega)) (by rw [hnew, lay_len]; omega) (by rw [hnew]; exact hd1) rfl ?_)
    clear S
    intro a w S
    refine h_n1 S ?_
    rw [hnew] at S
    refine h_done (by kernel_rfl) (then_normal (hK2 _ _ (sg S (.mv rfl <| .as rfl <| .z) fun a w S => wp_ret (then_ret (st_ret S (results1 S results60 (Rv.tmp rfl)) ?_)))))
    have hfin := (ins_cells (cs := cs) (a := (l.take i).flatMap enc) (x := enc x) (d := (l.drop i).flatMap enc) (o := 0 + i * 4) (by rw [Nat.zero_add, htk, flat_take he]) (by omega) (by omega)).1
    have W3 := S.wd.close_row (k := 0) rfl (size := 4) (l.length + 1) cap' ((l.take i ++ x :: l.drop i).flatMap enc) (by omega) (by rw [lay_len, lay_len]; exact hlen) (by omega) hcm' (by
      rw [List.flatMap_append, List.flatMap_cons, ← List.append_assoc, ← hfin, hx]
      rw [show (i + 1) * 4 = i * 4 + 4 by omega, Nat.zero_add, Nat.zero_add, Nat.add_assoc (i * 4) 4]
      congr 1
      omega)
    refine ⟨_, .row 52 4 (some ⟨g, 0, none⟩) (l.length + 1) cap' ((l.take i ++ x :: l.drop i).flatMap enc) :: L, rfl, W3.sub (by repeat (first | exact List.Sublist.refl _ | exact List.nil_sublist _ | refine .cons_cons _ ?_ | refine .cons _ ?_)), some ⟨g, 0, none⟩, cap', ?_, ?_⟩
    · congr 1
      omega
    · simp only [rowOf]
      congr 2
      simp; omega
end Go.Proofs.YtakpdbmdfnialaaGreat
set_option linter.unusedVariables false
set_option linter.unusedSimpArgs false
set_option maxRecDepth 100000
set_option maxHeartbeats 4000000
namespace Go.Fw
theorem marksG_yes {l : List Gon} {k : List UInt8} {i : Nat} {x : Gon} (h : l[i]? = some x) (hk : x.key = k) : marksG (l.take (i + 1)) k = marksG (l.take i) k ++ [x.dt] := by
  unfold marksG
  rw [List.take_add_one, h, Option.toList_some, List.filter_append, List.map_append]
  simp [hk]
theorem marksG_no {l : List Gon} {k : List UInt8} {i : Nat} {x : Gon} (h : l[i]? = some x) (hk : ¬ x.key = k) : marksG (l.take (i + 1)) k = marksG (l.take i) k := by
  unfold marksG
  rw [List.take_add_one, h, Option.toList_some, List.filter_append, List.map_append]
  simp [hk]
theorem marksG_take (l : List Gon) (k : List UInt8) (i : Nat) : (marksG (l.take i) k).length ≤ l.length := by
  have := marksG_len (l.take i) k
  rw [List.length_take] at this
  omega
end Go.Fw
namespace Go.Proofs.YtakpdbmdfnialaaGreat
open Go.Fw Go.Proofs Go.RowKit Go.Proofs.Tryz
theorem c73 (w0 : World) (v1 : Value) (l : List Gon) (h : Sl Gon.enc 4 w0 w0.heap.size v1 l) (hn : l.length ≤ 4194304) :
    Rets Tryz.prog 73 #[v1] w0 fun v L => ∃ A c, v = .slice A l.length c ∧ L = [rowOf 52 4 Gon.enc A c l] := by
  have h0 := h
  obtain ⟨A, cap, rfl, hl, hcap, hA⟩ := h
  unfold Go.Fw.Rets
  refine enter1 func73 rfl ntmps73 rfl fun a S => sg S (.ac rfl <| .z) fun a w S => wp_seq_k fun _ hK1 => sg S (.mv rfl <| .yy (ys_sNil underlying26 (.t rfl) Ev.c) rfl <| .z) fun a w S => ?_
  refine st_cond S (.t rfl) (fun h1 => ?_) (fun h1 => ?_)
  refine sg S (.ac rfl <| .z) fun a w S => wp_ret (then_ret (st_ret S (results1 S results73 (Rv.tmp rfl)) ?_))
  rotate_left
  refine wp_skip (then_normal (hK1 _ _ (wp_seq_k fun _ hK1 => wp_region_lit (st_m (op_bslice0 S underlying26 sizeOf52 rfl fun g1 a w S => run S (.mv rfl <| .z) fun a w S => st_m (op_extend _ (S.nil_ 52 _ Go.Fw.Gon.enc _) underlying26 underlying26 (.inr ⟨_, rfl⟩) inf52 rfl (k := 0) rfl (.t rfl) (.t rfl) (Src.sl (Sl.old S.wd h0) (by decide) Go.Fw.Gon.enc_len Go.Fw.Gon.enc_one) (by first | omega | (simp only [List.length_append, List.length_cons, List.length_nil]; omega) | (simp; omega)) rfl rfl rfl fun A1 cap1 a w S => ?_))))))
  simp only [List.nil_append] at S
  refine run S (.as rfl <| .z) fun a w S => st_nil (then_normal (hK1 _ _ (wp_ret (st_ret S (results1 S results73 (Rv.tmp rfl)) ?_))))
  rotate_left
  · have hnil : l = [] := by
      refine List.eq_nil_of_length_eq_zero (Decidable.byContradiction fun hne => ?_)
      obtain ⟨g, o, rfl, _⟩ := hA (by omega)
      cases h1
    subst hnil
    exact ⟨_, _, rfl, (S.nil_ 52 4 Gon.enc none).wd.sub (by repeat (first | exact List.Sublist.refl _ | exact List.nil_sublist _ | refine .cons_cons _ ?_ | refine .cons _ ?_)), none, 0, rfl, rfl⟩
  · try simp only [List.nil_append] at S ⊢
    exact ⟨_, _, rfl, S.wd.sub (by repeat (first | exact List.Sublist.refl _ | exact List.nil_sublist _ | refine .cons_cons _ ?_ | refine .cons _ ?_)), _, _, rfl, rfl⟩
theorem c55 (w0 : World) (g : Nat) (b : Bool) (h : w0.cell? ⟨g, 0, none⟩ = some (.bool b)) :
    Calls Tryz.prog 55 #[.pointer (some ⟨g, 0, none⟩)] w0 fun e w' => e = .returned (.bool b) ∧ Bel w0.heap.size w0 w' := by
  refine enter1 func55 rfl ntmps55 rfl fun a S => sg S (.ac rfl <| .z) fun a w S => sg S (.mv rfl <| .yy (ys_pNotS underlying23 (.t rfl) Ev.c) rfl <| .mv rfl <| .gy rfl rfl (ys_move (.t rfl)) <| .gy rfl rfl (ys_nilc (.t rfl)) <| .gy rfl rfl (ys_fieldN (FieldT.mk underlying104 rfl sizeOf4 rfl) (.t rfl) (i' := 0) rfl) <| .gy rfl rfl (ys_ldO ⟨isAgg4, sizeOf4⟩ (.t rfl) (fun _ => h)) <| .yy (ys_pickT (.t rfl) (.t rfl)) rfl <| .as rfl <| .z) fun a w S => wp_ret (st_ret S (results1 S results55 (Rv.tmp rfl)) ?_)
  exact ⟨rfl, S.wd.below⟩
theorem c22 (w0 : World) (g : Nat) (v : Value) (l : List Gon) (h0 : w0.cell? ⟨g, 0, none⟩ = some (.bool true)) (h1 : w0.cell? ⟨g, 1, none⟩ = some v) (h : Sl Gon.enc 4 w0 w0.heap.size v l) (hn : l.length ≤ 4194304) :
    Rets Tryz.prog 22 #[.pointer (some ⟨g, 0, none⟩)] w0 fun v L => ∃ A c, v = .slice A l.length c ∧ L = [rowOf 52 4 Gon.enc A c l] := by
  unfold Go.Fw.Rets
  refine enter1 func22 rfl ntmps22 rfl fun a S => sg S (.ac rfl <| .z) fun a w S => wp_seq_k fun _ hK1 => sg S (.mv rfl <| .xx (ys_call call55 (.cons (.t rfl) .nil) (fun hp w W => c55 _ _ _ (by exact Wd.cellOld W (by assumption)))) rfl <| .nt rfl <| .z) fun a w S => st_else S (.t rfl) (wp_skip (then_normal (hK1 _ _ (wp_seq_k fun _ hK1 => wp_region_lit (run S (.mv rfl <| .yy (ys_nilc (.t rfl)) rfl <| .fa underlying104 sizeOf26 1 rfl rfl rfl <| .yy (ys_ldO ⟨isAgg26, sizeOf26⟩ (.t rfl) (fun _ => h1)) rfl <| .z) fun a w S => ?_)))))
  (refine st_m (op_calls S call73 (.cons (.t rfl) .nil) (c73 _ _ _ (by exact .old S.wd (by assumption)) (by assumption)) rfl ?_); clear S a w; rintro _ _ ⟨A1, c1, rfl, rfl⟩ a w S)
  refine run S (.as rfl <| .z) fun a w S => st_nil (then_normal (hK1 _ _ (wp_ret (st_ret S (results1 S results22 (Rv.tmp rfl)) ?_))))
  exact ⟨_, _, rfl, S.wd.pk, _, _, rfl, rfl⟩
theorem c21 (w0 : World) (g : Nat) (v : Value) (l : List Gon) (k : List UInt8) (h0 : w0.cell? ⟨g, 0, none⟩ = some (.bool true)) (h1 : w0.cell? ⟨g, 1, none⟩ = some v) (h : Sl Gon.enc 4 w0 w0.heap.size v l) (hn : l.length ≤ 4194304) :
    Rets Tryz.prog 21 #[.pointer (some ⟨g, 0, none⟩), .string (bs k)] w0 fun v L => ∃ A c, v = .slice A (marksG l k).length c ∧ L = [rowOf 30 3 Dot.enc A c (marksG l k)] := by
  unfold Go.Fw.Rets
  refine enter2 func21 rfl ntmps21 rfl fun a S => sg S (.ac rfl <| .z) fun a w S => sg S (.ac rfl <| .z) fun a w S => wp_seq_k fun _ hK1 => wp_seq_k fun _ hK2 => wp_region_lit (run S (.mv rfl <| .z) fun a w S => ?_)
  (refine st_m (op_calls S call22 (.cons (.t rfl) .nil) (c22 _ _ _ _ (by exact Wd.cellOld S.wd (by assumption)) (by exact Wd.cellOld S.wd (by assumption)) (by exact .old S.wd (by assumption)) (by assumption)) rfl ?_); clear S a w; rintro _ _ ⟨A1, c1, rfl, rfl⟩ a w S)
  refine run S (.ln underlying26 rfl <| .mc rfl <| .z) fun a w S => st_nil (then_normal (hK2 _ _ (wp_block ?_)))
  refine st_lpM (S.nil_ 30 3 Dot.enc none) [5, 11] (X := Nat × Option Addr × Nat) (fun q => [(5, true, .slice q.2.1 (marksG (l.take q.1) k).length q.2.2), (11, true, .int .i64 (q.1 : Int))])
    (fun q => [rowOf 30 3 Dot.enc q.2.1 q.2.2 (marksG (l.take q.1) k), rowOf 52 4 Gon.enc A1 c1 l]) (fun q => q.1 ≤ l.length) (fun q => l.length - q.1) (0, none, 0) (Nat.zero_le _) ?_
  clear S
  rintro ⟨i, B, cB⟩ a w hi S
  dsimp only at hi S
  have hml := marksG_take l k i
  by_cases hlt : i < l.length
  · obtain ⟨ga, rfl⟩ := S.wd.row_at (k := 1) rfl (by have := (S.wd.room (k := 1) rfl).1; omega)
    obtain ⟨x, hx⟩ : ∃ x, l[i]? = some x := ⟨l[i], List.getElem?_eq_getElem hlt⟩
    by_cases hk : x.key = k
    · have rw_k := decide_eq_true hk
      have hst := marksG_yes hx hk
      refine sg S (.lt (by omega) rfl rfl <| .z) fun a w S => wp_seq_k fun _ hK2 => st_then S (.t rfl) (wp_skip (then_normal (hK2 _ _ (wp_seq_k fun _ hK2 => wp_block (wp_seq_k fun _ hK3 => wp_region_lit (run S (.ix underlying26 sizeOf52 (by omega) rfl rfl <| .yy (ys_ldWA ⟨isAgg52, sizeOf52⟩ (.t rfl) (k := 1) rfl hx (fun _ => rfl)) rfl <| .z) fun a w S => st_m (op_alloc S zeroValue52 (cs := _) rfl rfl fun g1 a w S => st_m (op_stW S sizeOf52 (.t rfl) (.t rfl) (k := 0) rfl rfl rfl (by simp [Value.oneCell']) fun a w S => st_nil (then_normal (hK3 _ _ (wp_seq_k fun _ hK3 => wp_region_lit (run S (.fa underlying52 sizeOf9 0 rfl rfl rfl <| .ld gt9 0 rfl rfl rfl <| .mv rfl <| .yy (ys_eqlStr (.t rfl) (.t rfl)) rfl <| .z) fun a w S => ?_))))))))))))
      rw [rw_k] at S
      refine st_nil (then_normal (hK3 _ _ (st_then S (.t rfl) (wp_region_lit (run S (.mv rfl <| .fa underlying52 sizeOf30 1 rfl rfl rfl <| .la gt30 0 rfl rfl rfl <| .z) fun a w S => st_m (op_bslice1 S underlying32 inf30 rfl rfl rfl (.t rfl) rfl rfl rfl fun g2 a w S => st_m (op_push S underlying32 inf30 rfl (k := 2) (j := 0) rfl (.t rfl) (.t rfl) rfl rfl rfl rfl (by first | omega | (simp only [List.length_append, List.length_cons, List.length_nil]; omega)) rfl rfl rfl fun A1 cap1 a w S => run S (.as rfl <| .z) fun a w S => st_nil (in_normal (then_normal (hK2 _ _ (wp_region_lit (run S (.ad (by unfold I64; omega) rfl <| .mv rfl <| .z) fun a w S => st_nil (then_normal ?_)))))))))))))
      exact ⟨(i + 1, A1, cap1), by dsimp only; omega, by dsimp only; omega, by dsimp only; rw [hst]; exact S.pk⟩
    · have rw_k := decide_eq_false hk
      have hst := marksG_no hx hk
      refine sg S (.lt (by omega) rfl rfl <| .z) fun a w S => wp_seq_k fun _ hK2 => st_then S (.t rfl) (wp_skip (then_normal (hK2 _ _ (wp_seq_k fun _ hK2 => wp_block (wp_seq_k fun _ hK3 => wp_region_lit (run S (.ix underlying26 sizeOf52 (by omega) rfl rfl <| .yy (ys_ldWA ⟨isAgg52, sizeOf52⟩ (.t rfl) (k := 1) rfl hx (fun _ => rfl)) rfl <| .z) fun a w S => st_m (op_alloc S zeroValue52 (cs := _) rfl rfl fun g1 a w S => st_m (op_stW S sizeOf52 (.t rfl) (.t rfl) (k := 0) rfl rfl rfl (by simp [Value.oneCell']) fun a w S => st_nil (then_normal (hK3 _ _ (wp_seq_k fun _ hK3 => wp_region_lit (run S (.fa underlying52 sizeOf9 0 rfl rfl rfl <| .ld gt9 0 rfl rfl rfl <| .mv rfl <| .yy (ys_eqlStr (.t rfl) (.t rfl)) rfl <| .z) fun a w S => ?_))))))))))))
      rw [rw_k] at S
      refine st_nil (then_normal (hK3 _ _ (st_else S (.t rfl) (wp_skip (in_normal (then_normal (hK2 _ _ (wp_region_lit (run S (.ad (by unfold I64; omega) rfl <| .mv rfl <| .z) fun a w S => st_nil (then_normal ?_))))))))))
      exact ⟨(i + 1, B, cB), by dsimp only; omega, by dsimp only; omega, by dsimp only; rw [hst]; exact S.pk⟩
  obtain rfl : i = l.length := by omega
  rw [List.take_length] at S
  refine sg S (.ge (by omega) rfl rfl <| .z) fun a w S => wp_seq_k fun _ hK2 => st_else S (.t rfl) (wp_exit (then_exit (then_exit (in_here (then_normal (hK1 _ _ (sg S (.mv rfl <| .as rfl <| .z) fun a w S => wp_ret (st_ret S (results1 S results21 (Rv.tmp rfl)) ?_))))))))
  exact ⟨_, _, rfl, S.wd.pk, _, _, rfl, rfl⟩
theorem c13 (w0 : World) : Rets Tryz.prog 13 #[] w0 fun v L => ∃ g, v = .pointer (some ⟨g, 0, none⟩) ∧ L = [.blk g (.cells #[.bool true, .slice none 0 0] 104)] := by
  unfold Go.Fw.Rets
  refine enter0 func13 rfl ntmps13 rfl fun a S => sg S (.ac rfl <| .z) fun a w S => wp_seq_k fun _ hK1 => wp_region_lit (run S (.yy (ys_bld (ps := [(0, _)]) (us := [_, _]) bld104 (.cons Ev.c .nil) rfl) rfl <| .z) fun a w S => st_m (op_box S (.t rfl) rfl fun g1 a w S => run S (.as rfl <| .z) fun a w S => st_nil (then_normal (hK1 _ _ (wp_ret (st_ret S (results1 S results13 (Rv.tmp rfl)) ?_))))))
  exact ⟨_, _, rfl, S.wd.pk, _, rfl, rfl⟩
theorem c58 (w0 : World) (v1 : Value) (l : List Gon) (x : Gon) (h : Sl Gon.enc 4 w0 w0.heap.size v1 l) (hl : l.Pairwise ltG) (hn : l.length ≤ 4194304) :
    Calls Tryz.prog 58 #[v1, .agg (Gon.enc x).toArray, .func (.func 59) #[] #[]] w0 fun e w' => e = .returned (.tuple #[.int .i64 (posG l x : Nat), .bool (hasG l x)]) ∧ Bel w0.heap.size w0 w' := by
  obtain ⟨A, cap, rfl, hl0, hcap, hA⟩ := h
  have hpl := posG_le l x
  refine enter3 func58 rfl ntmps58 rfl fun a S => wp_seq_k fun _ hK1 => wp_region_lit (st_m (op_box S (.t rfl) rfl fun g1 a w S => run S (.ac rfl <| .ac rfl <| .z) fun a w S => st_nil (then_normal (hK1 _ _ (sg S (.mv rfl <| .ln underlying26 rfl <| .as rfl <| .z) fun a w S => sg S (.mv rfl <| .ac rfl <| .as rfl <| .z) fun a w S => wp_seq_k fun _ hK1 => wp_block ?_)))))
  refine st_lpM S [9, 10] (X := Nat × Nat) (fun q => [(9, true, .int .i64 (q.1 : Int)), (10, true, .int .i64 (q.2 : Int))]) (fun _ => [.blk g1 (.cells (Gon.enc x).toArray 52)]) (fun q => q.1 ≤ posG l x ∧ posG l x ≤ q.2 ∧ q.2 ≤ l.length) (fun q => q.2 - q.1) (0, l.length) ⟨Nat.zero_le _, hpl, Nat.le_refl _⟩ ?_
  clear S
  rintro ⟨i, j⟩ a w ⟨hi, hj, hjl⟩ S
  dsimp only at hi hj hjl S
  by_cases hlt : i < j
  · have hlt2 : (i + j) / 2 < l.length := by omega
    obtain ⟨g, o, m, rfl, hmm, hd', hc⟩ := row_at hA hlt2
    have hpos := posG_lt (e := x) hl _ m hmm
    have hol := ordG_lt (a := m) (b := x)
    clear hA
    have rw_h : ((i : Int) + j) / 2 = (((i + j) / 2 : Nat) : Int) := by omega
    have rw_h1 : (((i + j) / 2 : Nat) : Int) + 1 = (((i + j) / 2 + 1 : Nat) : Int) := rfl
    refine wp_seq_k fun _ hK2 => sg S (.mv rfl <| .mv rfl <| .lt (by omega) rfl rfl <| .z) fun a w S => st_then S (.t rfl) (wp_skip (then_normal (hK2 _ _ (wp_block (wp_seq_k fun _ hK2 => wp_region_lit (run S (.mv rfl <| .mv rfl <| .yy (ys_addI (.t rfl) (.t rfl) (fun _ => by unfold I64; omega)) rfl <| .yy (ys_cvU underlying3 underlying61 (.t rfl) (fun _ => by omega)) rfl <| .yy (ys_shrC (m := 1) (c := 2) (.t rfl) Ev.c rfl rfl) rfl <| .z) fun a w S => ?_))))))
    rw [rw_h] at S
    refine run S (.yy (ys_cvI underlying61 underlying3 (.t rfl) (fun _ => by unfold I64; omega)) rfl <| .as rfl <| .z) fun a w S => st_nil (then_normal (hK2 _ _ (wp_seq_k fun _ hK2 => st_quiet S (by kernel_rfl) (by kernel_rfl) fun a S => qrun S (.mv rfl <| .mv rfl <| .mv rfl <| .ix underlying26 sizeOf52 (by omega) rfl rfl <| .yy (ys_ldOA ⟨isAgg52, sizeOf52⟩ (.t rfl) (vs := [_, _, _, _]) rfl (fun _ => hc)) rfl <| .la gt52 0 rfl rfl rfl <| .xx (ys_callV (.t rfl) call59 (.cons (.t rfl) (.cons (.t rfl) .nil)) (fun hp w W => c59 _ _ _)) rfl <| .yy (ys_lss (.t rfl) Ev.c) rfl <| .z) fun a S => ?_)))
    (refine q_nil ?_; intro w W; replace S := St.mk S W; clear W)
    refine then_normal (hK2 _ _ ?_)
    refine st_if S (.t rfl) (fun h1 => ?_) (fun h1 => ?_)
    refine wp_region_lit (run S (.mv rfl <| .ad (by unfold I64; omega) rfl <| .z) fun a w S => ?_)
    rw [rw_h1] at S
    refine run S (.as rfl <| .z) fun a w S => st_nil (in_normal (then_normal ?_))
    rotate_left
    refine wp_region_lit (run S (.mv rfl <| .as rfl <| .z) fun a w S => st_nil (in_normal (then_normal ?_)))
    rotate_left
    · exact ⟨((i + j) / 2 + 1, j), ⟨by dsimp only; have := hpos.1 (hol.1 h1); omega, hj, hjl⟩, by dsimp only; omega, S.pk⟩
    · have : ¬ (i + j) / 2 < posG l x := fun h => h1 (hol.2 (hpos.2 h))
      exact ⟨(i, (i + j) / 2), ⟨hi, by dsimp only; omega, by dsimp only; omega⟩, by dsimp only; omega, S.pk⟩
  · obtain rfl : i = posG l x := by omega
    by_cases hin : posG l x < l.length
    · obtain ⟨g, o, m, rfl, hmm, hd', hc⟩ := row_at hA hin
      have hoe := ordG_eq (a := m) (b := x)
      clear hA
      refine wp_seq_k fun _ hK2 => sg S (.mv rfl <| .mv rfl <| .ge (by omega) rfl rfl <| .z) fun a w S => st_else S (.t rfl) (wp_exit (then_exit (then_exit (in_here (then_normal (hK1 _ _ (wp_seq_k fun _ hK1 => st_quiet S (by kernel_rfl) (by kernel_rfl) fun a S => qrun S (.mv rfl <| .mv rfl <| .mv rfl <| .lt (by omega) rfl rfl <| .mv rfl <| .gy rfl rfl (ys_move (.t rfl)) <| .gy rfl rfl (ys_move (.t rfl)) <| .gy rfl rfl (ys_move (.t rfl)) <| .gy rfl rfl (ys_ixS underlying26 sizeOf52 (.t rfl) (.t rfl) (fun _ => by omega)) <| .gy rfl rfl (ys_ldOA ⟨isAgg52, sizeOf52⟩ (.t rfl) (vs := [_, _, _, _]) rfl (fun _ => hc)) <| .gy rfl rfl (ys_ldA ⟨isAgg52, sizeOf52⟩ (.t rfl) (k := 0) rfl rfl) <| .gx rfl rfl (ys_callV (.t rfl) call59 (.cons (.t rfl) (.cons (.t rfl) .nil)) (fun hp w W => c59 _ _ _)) <| .gy rfl rfl (ys_eql (.t rfl) Ev.c) <| .yy (ys_pickT (.t rfl) (.t rfl)) rfl <| .as rfl <| .as rfl <| .z) fun a S => ?_)))))))
      (refine q_nil ?_; intro w W; replace S := St.mk S W; clear W)
      refine then_normal (hK1 _ _ (wp_ret (st_ret S (results2 S results58 (Rv.tmp rfl) (Rv.tmp rfl)) ?_)))
      refine ⟨?_, S.wd.below⟩
      have e : hasG l x = decide (ordG m x = 0) := by
        unfold hasG
        simp only [hmm]
        exact decide_eq_decide.2 hoe.symm
      rw [e]
    · refine wp_seq_k fun _ hK2 => sg S (.mv rfl <| .mv rfl <| .ge (by omega) rfl rfl <| .z) fun a w S => st_else S (.t rfl) (wp_exit (then_exit (then_exit (in_here (then_normal (hK1 _ _ (wp_seq_k fun _ hK1 => st_quiet S (by kernel_rfl) (by kernel_rfl) fun a S => qrun S (.mv rfl <| .mv rfl <| .mv rfl <| .ge (by omega) rfl rfl <| .mv rfl <| .sk rfl rfl rfl <| .sk rfl rfl rfl <| .sk rfl rfl rfl <| .sk rfl rfl rfl <| .sk rfl rfl rfl <| .sk rfl rfl rfl <| .sk rfl rfl rfl <| .sk rfl rfl rfl <| .yy (ys_pickF (.t rfl) Ev.c) rfl <| .as rfl <| .as rfl <| .z) fun a S => ?_)))))))
      (refine q_nil ?_; intro w W; replace S := St.mk S W; clear W)
      refine then_normal (hK1 _ _ (wp_ret (st_ret S (results2 S results58 (Rv.tmp rfl) (Rv.tmp rfl)) ?_)))
      refine ⟨?_, S.wd.below⟩
      have e : hasG l x = false := by
        unfold hasG
        rw [List.getElem?_eq_none (by omega)]
      rw [e]
end Go.Proofs.YtakpdbmdfnialaaGreat
set_option linter.unusedVariables false
set_option linter.unusedSimpArgs false
set_option maxRecDepth 100000
set_option maxHeartbeats 4000000
namespace Go.Proofs.YtakpdbmdfnialaaGreat
open Go.Fw Go.Proofs Go.RowKit Go.Proofs.Tryz
abbrev tabP (g : Nat) (A : Option Addr) (cap : Nat) (l : List Gon) (L : List Chunk) : List Chunk := .blk g (.cells #[.bool true, .slice A l.length cap] 104) :: rowOf 52 4 Gon.enc A cap l :: L
theorem c14 {w0 w : World} {L : List Chunk} {g cap : Nat} {A : Option Addr} {l : List Gon} {k : List UInt8} {x y z : Int} (W : Wd w0 (tabP g A cap l L) w) (hT : TabOk l) (hl : l.length ≤ 1048576) (hk : k.length ≤ 1048576) :
    RetsO Tryz.prog 14 #[.pointer (some ⟨g, 0, none⟩), .string (bs k), .agg #[.int .i64 x, .int .i64 y, .int .i64 z]] w0 w fun u L' => ∃ A2 e2, u = .int .i64 (putG l k ⟨x, y, z⟩).2 ∧ L' = tabP g A2 e2 (putG l k ⟨x, y, z⟩).1 L := by
  cases hm : mayD ⟨x, y, z⟩ with
  | false =>
    have e : putG l k ⟨x, y, z⟩ = (l, 1) := by unfold putG; rw [if_pos hm]
    have rw_m := hm
    unfold Go.Fw.RetsO
    refine enterW3 W func14 rfl ntmps14 rfl fun a S => wp_seq_k fun _ hK1 => wp_region_lit (st_m (op_box S (.t rfl) rfl fun g1 a w S => run S (.ac rfl <| .z) fun a w S => st_nil (then_normal (hK1 _ _ (wp_seq_k fun _ hK1 => wp_block (sg S (.mv rfl <| .xx (ys_call call55 (.cons (.t rfl) .nil) (fun hp w W => c55 _ _ _ (by exact Wd.cell W (k := 1) rfl rfl))) rfl <| .nt rfl <| .as rfl <| .z) fun a w S => st_else S (.t rfl) (wp_seq_k fun _ hK2 => wp_region_lit (run S (.la gt30 0 rfl rfl rfl <| .xx (ys_call call56 (.cons (.t rfl) .nil) (fun hp w W => c56 _ _ _ _)) rfl <| .z) fun a w S => ?_))))))))
    rw [rw_m] at S
    refine run S (.nt rfl <| .as rfl <| .z) fun a w S => st_nil (then_normal (hK2 _ _ (st_then S (.t rfl) (sg S (.ac rfl <| .z) fun a w S => wp_ret (in_ret (then_ret (st_ret S (results1 S results14 (Rv.tmp rfl)) ?_)))))))
    rw [e]
    exact ⟨_, _, rfl, S.wd.pk, A, cap, rfl, rfl⟩
  | true =>
    have rw_m := hm
    cases hn : nameB k with
    | false =>
      have e : putG l k ⟨x, y, z⟩ = (l, 6) := by unfold putG; rw [if_neg (by rw [hm]; simp), if_pos hn]
      have rw_n := hn
      unfold Go.Fw.RetsO
      refine enterW3 W func14 rfl ntmps14 rfl fun a S => wp_seq_k fun _ hK1 => wp_region_lit (st_m (op_box S (.t rfl) rfl fun g1 a w S => run S (.ac rfl <| .z) fun a w S => st_nil (then_normal (hK1 _ _ (wp_seq_k fun _ hK1 => wp_block (sg S (.mv rfl <| .xx (ys_call call55 (.cons (.t rfl) .nil) (fun hp w W => c55 _ _ _ (by exact Wd.cell W (k := 1) rfl rfl))) rfl <| .nt rfl <| .as rfl <| .z) fun a w S => st_else S (.t rfl) (wp_seq_k fun _ hK2 => wp_region_lit (run S (.la gt30 0 rfl rfl rfl <| .xx (ys_call call56 (.cons (.t rfl) .nil) (fun hp w W => c56 _ _ _ _)) rfl <| .z) fun a w S => ?_))))))))
      rw [rw_m] at S
      refine run S (.nt rfl <| .as rfl <| .z) fun a w S => st_nil (then_normal (hK2 _ _ (st_else S (.t rfl) (wp_seq_k fun _ hK2 => wp_region_lit (run S (.mv rfl <| .xx (ys_call call57 (.cons (.t rfl) .nil) (fun hp w W => c57 _ _ (by assumption))) rfl <| .z) fun a w S => ?_)))))
      rw [rw_n] at S
      refine run S (.nt rfl <| .as rfl <| .z) fun a w S => st_nil (then_normal (hK2 _ _ (st_then S (.t rfl) (sg S (.ac rfl <| .z) fun a w S => wp_ret (in_ret (then_ret (st_ret S (results1 S results14 (Rv.tmp rfl)) ?_)))))))
      rw [e]
      exact ⟨_, _, rfl, S.wd.pk, A, cap, rfl, rfl⟩
    | true =>
      have rw_n := hn
      have rw_e : #[Value.string (bs k), .int .i64 x, .int .i64 y, .int .i64 z] = (Gon.enc ⟨k, ⟨x, y, z⟩⟩).toArray := rfl
      have hs := hT.sorted
      have hpl := posG_le l ⟨k, ⟨x, y, z⟩⟩
      have ha := any_hasG (e := ⟨k, ⟨x, y, z⟩⟩) hs
      cases hh : hasG l ⟨k, ⟨x, y, z⟩⟩ with
      | true =>
        have rw_h := hh
        have e : putG l k ⟨x, y, z⟩ = (l, 61) := by unfold putG; rw [if_neg (by rw [hm]; simp), if_neg (by rw [hn]; simp), if_pos (by rw [← ha]; exact hh)]
        unfold Go.Fw.RetsO
        refine enterW3 W func14 rfl ntmps14 rfl fun a S => wp_seq_k fun _ hK1 => wp_region_lit (st_m (op_box S (.t rfl) rfl fun g1 a w S => run S (.ac rfl <| .z) fun a w S => st_nil (then_normal (hK1 _ _ (wp_seq_k fun _ hK1 => wp_block (sg S (.mv rfl <| .xx (ys_call call55 (.cons (.t rfl) .nil) (fun hp w W => c55 _ _ _ (by exact Wd.cell W (k := 1) rfl rfl))) rfl <| .nt rfl <| .as rfl <| .z) fun a w S => st_else S (.t rfl) (wp_seq_k fun _ hK2 => wp_region_lit (run S (.la gt30 0 rfl rfl rfl <| .xx (ys_call call56 (.cons (.t rfl) .nil) (fun hp w W => c56 _ _ _ _)) rfl <| .z) fun a w S => ?_))))))))
        rw [rw_m] at S
        refine run S (.nt rfl <| .as rfl <| .z) fun a w S => st_nil (then_normal (hK2 _ _ (st_else S (.t rfl) (wp_seq_k fun _ hK2 => wp_region_lit (run S (.mv rfl <| .xx (ys_call call57 (.cons (.t rfl) .nil) (fun hp w W => c57 _ _ (by assumption))) rfl <| .z) fun a w S => ?_)))))
        rw [rw_n] at S
        refine run S (.nt rfl <| .as rfl <| .z) fun a w S => st_nil (then_normal (hK2 _ _ (st_else S (.t rfl) (wp_skip (in_normal (then_normal (hK1 _ _ (wp_seq_k fun _ hK1 => wp_region_lit (run S (.mv rfl <| .la gt30 0 rfl rfl rfl <| .yy (ys_bld (ps := [(0, Go.Operand.tmp 22), (1, Go.Operand.tmp 23)]) (us := [_, _, _, _]) bld52 (.cons (.t rfl) (.cons (.t rfl) .nil)) rfl) rfl <| .z) fun a w S => ?_)))))))))
        rw [rw_e] at S
        refine st_m (op_alloc S zeroValue52 (cs := _) rfl rfl fun g2 a w S => ?_)
        rw [rw_e] at S
        refine st_m (op_stW S sizeOf52 (.t rfl) (.t rfl) (k := 0) rfl rfl rfl (by simp [Value.oneCell']) fun a w S => ?_)
        rw [rw_e] at S
        refine st_nil ?_
        rw [rw_e] at S
        refine then_normal (hK1 _ _ ?_)
        rw [rw_e] at S
        refine wp_seq_k fun _ hK1 => ?_
        rw [rw_e] at S
        refine st_quiet S (by kernel_rfl) (by kernel_rfl) fun a S => ?_
        rw [rw_e] at S
        refine qrun S (.mv rfl <| .z) fun a S => ?_
        rw [rw_e] at S
        refine qrun S (.yy (ys_nilc (.t rfl)) rfl <| .z) fun a S => ?_
        rw [rw_e] at S
        refine qrun S (.fa underlying104 sizeOf26 1 rfl rfl rfl <| .z) fun a S => ?_
        rw [rw_e] at S
        refine qrun S (.ld gt26 2 rfl rfl rfl <| .z) fun a S => ?_
        rw [rw_e] at S
        refine qrun S (.la gt52 0 rfl rfl rfl <| .z) fun a S => ?_
        rw [rw_e] at S
        refine qrun S (.xx (ys_call call58 (.cons (.t rfl) (.cons (.t rfl) (.cons Ev.f .nil))) (fun hp w W => c58 _ _ _ _ (by exact Sl.of_own W (k := 3) rfl (fun _ => rfl)) (by assumption) (by omega))) rfl <| .z) fun a S => ?_
        rw [rw_e] at S
        rw [rw_h] at S
        refine qrun S (.mv rfl <| .z) fun a S => ?_
        rw [rw_e] at S
        refine qrun S (.ex rfl rfl <| .z) fun a S => ?_
        rw [rw_e] at S
        refine qrun S (.ex rfl rfl <| .z) fun a S => ?_
        rw [rw_e] at S
        refine qrun S (.as rfl <| .z) fun a S => ?_
        rw [rw_e] at S
        refine qrun S (.as rfl <| .z) fun a S => ?_
        rw [rw_e] at S
        (refine q_nil ?_; intro w W; replace S := St.mk S W; clear W)
        rw [rw_e] at S
        refine then_normal (hK1 _ _ ?_)
        rw [rw_e] at S
        refine wp_seq_k fun _ hK1 => ?_
        rw [rw_e] at S
        refine wp_seq_k fun _ hK2 => ?_
        rw [rw_e] at S
        refine wp_region_lit ?_
        rw [rw_e] at S
        refine run S (.mv rfl <| .z) fun a w S => ?_
        rw [rw_e] at S
        refine st_nil ?_
        rw [rw_e] at S
        refine then_normal (hK2 _ _ ?_)
        rw [rw_e] at S
        refine st_then S (.t rfl) ?_
        rw [rw_e] at S
        refine wp_seq_k fun _ hK2 => ?_
        rw [rw_e] at S
        refine wp_region_lit ?_
        rw [rw_e] at S
        refine run S (.ac rfl <| .z) fun a w S => ?_
        rw [rw_e] at S
        refine st_nil ?_
        rw [rw_e] at S
        refine then_normal (hK2 _ _ ?_)
        rw [rw_e] at S
        refine wp_ret ?_
        rw [rw_e] at S
        refine then_ret ?_
        rw [rw_e] at S
        refine st_ret S (results1 S results14 (Rv.tmp rfl)) ?_
        rw [rw_e] at S
        rw [e]
        exact ⟨_, _, rfl, S.wd.pk, A, cap, rfl, rfl⟩
      | false =>
        have rw_h := hh
        have halt_r := trivial
        unfold Go.Fw.RetsO
        refine enterW3 W func14 rfl ntmps14 rfl fun a S => wp_seq_k fun _ hK1 => wp_region_lit (st_m (op_box S (.t rfl) rfl fun g1 a w S => run S (.ac rfl <| .z) fun a w S => st_nil (then_normal (hK1 _ _ (wp_seq_k fun _ hK1 => wp_block (sg S (.mv rfl <| .xx (ys_call call55 (.cons (.t rfl) .nil) (fun hp w W => c55 _ _ _ (by exact Wd.cell W (k := 1) rfl rfl))) rfl <| .nt rfl <| .as rfl <| .z) fun a w S => st_else S (.t rfl) (wp_seq_k fun _ hK2 => wp_region_lit (run S (.la gt30 0 rfl rfl rfl <| .xx (ys_call call56 (.cons (.t rfl) .nil) (fun hp w W => c56 _ _ _ _)) rfl <| .z) fun a w S => ?_))))))))
        rw [rw_m] at S
        refine run S (.nt rfl <| .as rfl <| .z) fun a w S => st_nil (then_normal (hK2 _ _ (st_else S (.t rfl) (wp_seq_k fun _ hK2 => wp_region_lit (run S (.mv rfl <| .xx (ys_call call57 (.cons (.t rfl) .nil) (fun hp w W => c57 _ _ (by assumption))) rfl <| .z) fun a w S => ?_)))))
        rw [rw_n] at S
        refine run S (.nt rfl <| .as rfl <| .z) fun a w S => st_nil (then_normal (hK2 _ _ (st_else S (.t rfl) (wp_skip (in_normal (then_normal (hK1 _ _ (wp_seq_k fun _ hK1 => wp_region_lit (run S (.mv rfl <| .la gt30 0 rfl rfl rfl <| .yy (ys_bld (ps := [(0, Go.Operand.tmp 22), (1, Go.Operand.tmp 23)]) (us := [_, _, _, _]) bld52 (.cons (.t rfl) (.cons (.t rfl) .nil)) rfl) rfl <| .z) fun a w S => ?_)))))))))
        rw [rw_e] at S
        refine st_m (op_alloc S zeroValue52 (cs := _) rfl rfl fun g2 a w S => ?_)
        rw [rw_e] at S
        refine st_m (op_stW S sizeOf52 (.t rfl) (.t rfl) (k := 0) rfl rfl rfl (by simp [Value.oneCell']) fun a w S => ?_)
        rw [rw_e] at S
        refine st_nil ?_
        rw [rw_e] at S
        refine then_normal (hK1 _ _ ?_)
        rw [rw_e] at S
        refine wp_seq_k fun _ hK1 => ?_
        rw [rw_e] at S
        refine st_quiet S (by kernel_rfl) (by kernel_rfl) fun a S => ?_
        rw [rw_e] at S
        refine qrun S (.mv rfl <| .z) fun a S => ?_
        rw [rw_e] at S
        refine qrun S (.yy (ys_nilc (.t rfl)) rfl <| .z) fun a S => ?_
        rw [rw_e] at S
        refine qrun S (.fa underlying104 sizeOf26 1 rfl rfl rfl <| .z) fun a S => ?_
        rw [rw_e] at S
        refine qrun S (.ld gt26 2 rfl rfl rfl <| .z) fun a S => ?_
        rw [rw_e] at S
        refine qrun S (.la gt52 0 rfl rfl rfl <| .z) fun a S => ?_
        rw [rw_e] at S
        refine qrun S (.xx (ys_call call58 (.cons (.t rfl) (.cons (.t rfl) (.cons Ev.f .nil))) (fun hp w W => c58 _ _ _ _ (by exact Sl.of_own W (k := 3) rfl (fun _ => rfl)) (by assumption) (by omega))) rfl <| .z) fun a S => ?_
        rw [rw_e] at S
        rw [rw_h] at S
        refine qrun S (.mv rfl <| .z) fun a S => ?_
        rw [rw_e] at S
        refine qrun S (.ex rfl rfl <| .z) fun a S => ?_
        rw [rw_e] at S
        refine qrun S (.ex rfl rfl <| .z) fun a S => ?_
        rw [rw_e] at S
        refine qrun S (.as rfl <| .z) fun a S => ?_
        rw [rw_e] at S
        refine qrun S (.as rfl <| .z) fun a S => ?_
        rw [rw_e] at S
        (refine q_nil ?_; intro w W; replace S := St.mk S W; clear W)
        rw [rw_e] at S
        refine then_normal (hK1 _ _ ?_)
        rw [rw_e] at S
        refine wp_seq_k fun _ hK1 => ?_
        rw [rw_e] at S
        refine wp_seq_k fun _ hK2 => ?_
        rw [rw_e] at S
        refine wp_region_lit ?_
        rw [rw_e] at S
        refine run S (.mv rfl <| .z) fun a w S => ?_
        rw [rw_e] at S
        refine st_nil ?_
        rw [rw_e] at S
        refine then_normal (hK2 _ _ ?_)
        rw [rw_e] at S
        refine st_else S (.t rfl) ?_
        rw [rw_e] at S
        refine wp_skip ?_
        rw [rw_e] at S
        refine then_normal (hK1 _ _ ?_)
        rw [rw_e] at S
        refine wp_seq_k fun _ hK1 => ?_
        rw [rw_e] at S
        clear halt_r
        have hold_r := trivial
        refine h_begin S (by kernel_rfl) [.blk g2 (.cells (Gon.enc ⟨k, ⟨x, y, z⟩⟩).toArray 52)] ?_
        clear S
        intro a w S
        have e : putG l k ⟨x, y, z⟩ = (l.take (posG l ⟨k, ⟨x, y, z⟩⟩) ++ ⟨k, ⟨x, y, z⟩⟩ :: l.drop (posG l ⟨k, ⟨x, y, z⟩⟩), 0) := by
          unfold putG; rw [if_neg (by rw [hm]; simp), if_neg (by rw [hn]; simp), if_neg (by rw [← ha, hh]; simp), insG_at hs hh]
        have el : (l.take (posG l ⟨k, ⟨x, y, z⟩⟩) ++ (⟨k, ⟨x, y, z⟩⟩ : Gon) :: l.drop (posG l ⟨k, ⟨x, y, z⟩⟩)).length = l.length + 1 := by simp; omega
        refine hy 0 S rfl (ys_move (.t rfl)) rfl fun a w S => ?_
        rw [rw_e] at S ⊢
        refine hy 1 S rfl (ys_move (.t rfl)) rfl fun a w S => ?_
        rw [rw_e] at S ⊢
        refine hy 2 S rfl (ys_nilc (.t rfl)) rfl fun a w S => ?_
        rw [rw_e] at S ⊢
        refine hy 3 S rfl (ys_fieldN (FieldT.mk underlying104 rfl sizeOf26 rfl) (.t rfl) (i' := 1) rfl) rfl fun a w S => ?_
        rw [rw_e] at S ⊢
        refine hy 5 S rfl (ys_move (.t rfl)) rfl fun a w S => ?_
        rw [rw_e] at S ⊢
        refine hy 6 S rfl (ys_ldA ⟨isAgg52, sizeOf52⟩ (.t rfl) (k := 0) rfl rfl) rfl fun a w S => ?_
        rw [rw_e] at S ⊢
        refine h_split (i := 4) (j := 7) (by kernel_rfl) rfl rfl ?_ ?_
        (refine op_y S (Yr.ys (ys_ld ⟨isAgg26, sizeOf26⟩ (.t rfl) (k := 2) rfl rfl)) rfl ?_; clear S a w; intro a w S; refine h_n1 S ?_)
        rw [rw_e] at S ⊢
        (refine h_m (i := 7) rfl (by kernel_rfl) (op_bslice1 S underlying26 inf52 rfl rfl rfl (.t rfl) rfl rfl rfl ?_); clear S a w; intro g3 a w S; refine h_n1 S ?_)
        rw [rw_e] at S ⊢
        rotate_left
        (refine op_bslice1 S underlying26 inf52 rfl rfl rfl (.t rfl) rfl rfl rfl ?_; clear S a w; intro g3 a w S; refine h_n1 S ?_)
        rw [rw_e] at S ⊢
        refine h_q (i := 4) S (by repeat (first | exact List.Sublist.refl _ | exact List.nil_sublist _ | refine .cons_cons _ ?_ | refine .cons _ ?_)) rfl (by kernel_rfl) (Yr.ys (ys_ld ⟨isAgg26, sizeOf26⟩ (.t rfl) (k := 3) rfl rfl)) rfl fun a w S => ?_
        rw [rw_e] at S ⊢
        rotate_left
        · (replace S := S.pull 4 rfl; try simp only [List.set_cons_zero, List.set_cons_succ, List.eraseIdx_cons_succ, List.eraseIdx_cons_zero] at S)
          refine h_m (i := 8) rfl (by kernel_rfl) (op_callO S call60 (.cons (.t rfl) (.cons (.t rfl) (.cons (.t rfl) .nil))) (k60 (enc := Gon.enc) (x := (⟨k, ⟨x, y, z⟩⟩ : Gon)) Gon.enc_len Gon.enc_one S.wd rfl (posG l ⟨k, ⟨x, y, z⟩⟩) hpl (by omega)) rfl ?_)
          clear S
          rintro _ _ ⟨A1, e1, rfl, rfl⟩ a w S
          refine h_n1 S ?_
          refine hy 9 S rfl (ys_nilc (.t rfl)) rfl fun a w S => ?_
          rw [rw_e] at S ⊢
          refine hy 10 S rfl (ys_fieldN (FieldT.mk underlying104 rfl sizeOf26 rfl) (.t rfl) (i' := 1) rfl) rfl fun a w S => ?_
          rw [rw_e] at S ⊢
          (refine h_m0 (i := 11) rfl (by kernel_rfl) (op_st S sizeOf26 (.t rfl) (.t rfl) (k := 3) rfl rfl (by simp) ?_); clear S a w; intro a w S; refine h_n1 S ?_)
          rw [rw_e] at S ⊢
          refine h_done (by kernel_rfl) ?_
          rw [rw_e] at S
          refine then_normal (hK1 _ _ ?_)
          rw [rw_e] at S
          refine wp_seq_k fun _ hK1 => ?_
          rw [rw_e] at S
          refine wp_region_lit ?_
          rw [rw_e] at S
          refine run S (.ac rfl <| .z) fun a w S => ?_
          rw [rw_e] at S
          refine st_nil ?_
          rw [rw_e] at S
          refine then_normal (hK1 _ _ ?_)
          rw [rw_e] at S
          refine wp_ret ?_
          rw [rw_e] at S
          refine st_ret S (results1 S results14 (Rv.tmp rfl)) ?_
          rw [rw_e] at S
          rw [e]
          dsimp only
          refine ⟨_, tabP g A1 e1 (l.take (posG l ⟨k, ⟨x, y, z⟩⟩) ++ (⟨k, ⟨x, y, z⟩⟩ : Gon) :: l.drop (posG l ⟨k, ⟨x, y, z⟩⟩)) L, rfl, ?_, A1, e1, rfl, rfl⟩
          unfold tabP
          rw [el]
          exact S.wd.pk
        · (replace S := S.pull 4 rfl; try simp only [List.set_cons_zero, List.set_cons_succ, List.eraseIdx_cons_succ, List.eraseIdx_cons_zero] at S)
          refine h_m (i := 8) rfl (by kernel_rfl) (op_callO S call60 (.cons (.t rfl) (.cons (.t rfl) (.cons (.t rfl) .nil))) (k60 (enc := Gon.enc) (x := (⟨k, ⟨x, y, z⟩⟩ : Gon)) Gon.enc_len Gon.enc_one S.wd rfl (posG l ⟨k, ⟨x, y, z⟩⟩) hpl (by omega)) rfl ?_)
          clear S
          rintro _ _ ⟨A1, e1, rfl, rfl⟩ a w S
          refine h_n1 S ?_
          refine hy 9 S rfl (ys_nilc (.t rfl)) rfl fun a w S => ?_
          rw [rw_e] at S ⊢
          refine hy 10 S rfl (ys_fieldN (FieldT.mk underlying104 rfl sizeOf26 rfl) (.t rfl) (i' := 1) rfl) rfl fun a w S => ?_
          rw [rw_e] at S ⊢
          (refine h_m0 (i := 11) rfl (by kernel_rfl) (op_st S sizeOf26 (.t rfl) (.t rfl) (k := 3) rfl rfl (by simp) ?_); clear S a w; intro a w S; refine h_n1 S ?_)
          rw [rw_e] at S ⊢
          refine h_done (by kernel_rfl) ?_
          rw [rw_e] at S
          refine then_normal (hK1 _ _ ?_)
          rw [rw_e] at S
          refine wp_seq_k fun _ hK1 => ?_
          rw [rw_e] at S
          refine wp_region_lit ?_
          rw [rw_e] at S
          refine run S (.ac rfl <| .z) fun a w S => ?_
          rw [rw_e] at S
          refine st_nil ?_
          rw [rw_e] at S
          refine then_normal (hK1 _ _ ?_)
          rw [rw_e] at S
          refine wp_ret ?_
          rw [rw_e] at S
          refine st_ret S (results1 S results14 (Rv.tmp rfl)) ?_
          rw [rw_e] at S
          rw [e]
          dsimp only
          refine ⟨_, tabP g A1 e1 (l.take (posG l ⟨k, ⟨x, y, z⟩⟩) ++ (⟨k, ⟨x, y, z⟩⟩ : Gon) :: l.drop (posG l ⟨k, ⟨x, y, z⟩⟩)) L, rfl, ?_, A1, e1, rfl, rfl⟩
          unfold tabP
          rw [el]
          exact S.wd.pk
end Go.Proofs.YtakpdbmdfnialaaGreat
set_option linter.unusedVariables false
set_option linter.unusedSimpArgs false
set_option maxRecDepth 100000
set_option maxHeartbeats 4000000
namespace Go.Fw
theorem over_no {ms : List Dot} {C : Ctx} {i : Nat} {m : Dot} (h : ms[i]? = some m) (hn : (ms.take i).any (overG C) = false) (hm : ¬ m.count < C.top m.node m.life) : (ms.take (i + 1)).any (overG C) = false :=
  any_no h hn (decide_eq_false hm)
theorem over_yes {ms : List Dot} {C : Ctx} {i : Nat} {m : Dot} (h : ms[i]? = some m) (hm : m.count < C.top m.node m.life) : ms.any (overG C) = true := any_yes h (decide_eq_true hm)
theorem pruneL_snoc {ms : List Dot} {c : Cart} {i : Nat} {m : Dot} (h : ms[i]? = some m) : pruneL (ms.take (i + 1)) c = pruneK (pruneL (ms.take i) c) m.node m.life := by
  unfold pruneL
  rw [List.take_add_one, h, Option.toList_some, List.foldl_append]
  rfl
theorem cart_len3 {c : Cart} (h : CartOk c) : c.ents.length ≤ 64 ∧ c.ctx.marks.length ≤ 64 ∧ c.ctx.cloud.length ≤ 64 := ⟨h.len, (can_len h.ctx).1, (can_len h.ctx).2⟩
end Go.Fw
namespace Go.Proofs.YtakpdbmdfnialaaGreat
open Go.Fw Go.Proofs Go.RowKit Go.Proofs.Tryz
theorem c17 (w0 : World) (g : Nat) (v : Value) (l : List Gon) (k : List UInt8) (v1 v2 v3 : Value) (X : Cart) (h0 : w0.cell? ⟨g, 0, none⟩ = some (.bool true)) (h1 : w0.cell? ⟨g, 1, none⟩ = some v) (h : Sl Gon.enc 4 w0 w0.heap.size v l) (hn : l.length ≤ 4194304)
    (hs : Sl Ent.enc 6 w0 w0.heap.size v1 X.ents) (hr : RdCtx w0 w0.heap.size v2 v3 X.ctx) :
    Rets Tryz.prog 17 #[.pointer (some ⟨g, 0, none⟩), .string (bs k), .agg #[v1, v2, v3]] w0 fun v L => ∃ A1 r1 A2 r2 A3 r3, v = .tuple #[.agg #[.slice A1 (cleanG (marksG l k) X).1.ents.length r1, .slice A2 (cleanG (marksG l k) X).1.ctx.marks.length r2, .slice A3 (cleanG (marksG l k) X).1.ctx.cloud.length r3], .int .i64 (cleanG (marksG l k) X).2] ∧
      L = [rowOf 100 6 Ent.enc A1 r1 (cleanG (marksG l k) X).1.ents, rowOf 30 3 Dot.enc A2 r2 (cleanG (marksG l k) X).1.ctx.marks, rowOf 74 3 Dot.enc A3 r3 (cleanG (marksG l k) X).1.ctx.cloud] := by
  have hss := hs
  have hrr := hr
  obtain ⟨A, cap, rfl, hl, hcap, hA⟩ := hs
  obtain ⟨⟨A2, cap2, rfl, _⟩, ⟨A3, cap3, rfl, _⟩⟩ := hr
  have hml := marksG_len l k
  by_cases hc : canE X = 0
  rotate_left
  · have rw_c : decide (canE X = 0) = false := decide_eq_false hc
    have e : cleanG (marksG l k) X = (Cart.zero, canE X) := by unfold cleanG; rw [if_neg hc]
    unfold Go.Fw.Rets
    refine enter3 func17 rfl ntmps17 rfl fun a S => wp_seq_k fun _ hK1 => wp_region_lit (st_m (op_box S (.t rfl) rfl fun g1 a w S => st_m (op_alloc S zeroValue37 (cs := _) rfl rfl fun g2 a w S => run S (.ac rfl <| .z) fun a w S => st_nil (then_normal (hK1 _ _ (wp_seq_k fun _ hK1 => sg S (.mv rfl <| .xx (ys_call call55 (.cons (.t rfl) .nil) (fun hp w W => c55 _ _ _ (by exact Wd.cellOld W (by assumption)))) rfl <| .nt rfl <| .z) fun a w S => st_else S (.t rfl) (wp_skip (then_normal (hK1 _ _ (wp_seq_k fun _ hK1 => sg S (.la gt37 1 rfl rfl rfl <| .xx (ys_call call66 (.cons (.t rfl) .nil) (fun hp w W => c66 _ _ _ _ _ (by exact .old W (by assumption)) (by exact .old W (by assumption)))) rfl <| .as rfl <| .z) fun a w S => sg S (.mv rfl <| .yy (ys_T (by omega) (ys_neq (.t rfl) Ev.c)) rfl <| .z) fun a w S => st_then S (.t rfl) (wp_seq_k fun _ hK2 => wp_region_lit (run S (.yy (ys_bld (ps := []) (us := [_, _, _]) bld37 .nil rfl) rfl <| .mv rfl <| .z) fun a w S => st_m (op_stW S sizeOf37 (.t rfl) (.t rfl) (k := 0) rfl rfl rfl (by simp [Value.oneCell']) fun a w S => run S (.as rfl <| .z) fun a w S => st_nil (then_normal (hK2 _ _ (wp_ret (then_ret ?_)))))))))))))))))
    refine st_ret S (results2 S results17 (Rv.cell (k := 0) ⟨isAgg37, sizeOf37⟩ rfl rfl rfl) (Rv.tmp rfl)) ?_
    rw [e]
    exact ⟨_, _, rfl, (((S.nil_ 74 3 Dot.enc none).nil_ 30 3 Dot.enc none).nil_ 100 6 Ent.enc none).wd.sub (by repeat (first | exact List.Sublist.refl _ | exact List.nil_sublist _ | refine .cons_cons _ ?_ | refine .cons _ ?_)), none, 0, none, 0, none, 0, rfl, rfl⟩
  have hX := (canE_ok X).1 hc
  have rw_c := hc
  unfold Go.Fw.Rets
  refine enter3 func17 rfl ntmps17 rfl fun a S => wp_seq_k fun _ hK1 => wp_region_lit (st_m (op_box S (.t rfl) rfl fun g1 a w S => st_m (op_alloc S zeroValue37 (cs := _) rfl rfl fun g2 a w S => run S (.ac rfl <| .z) fun a w S => st_nil (then_normal (hK1 _ _ (wp_seq_k fun _ hK1 => sg S (.mv rfl <| .xx (ys_call call55 (.cons (.t rfl) .nil) (fun hp w W => c55 _ _ _ (by exact Wd.cellOld W (by assumption)))) rfl <| .nt rfl <| .z) fun a w S => st_else S (.t rfl) (wp_skip (then_normal (hK1 _ _ (wp_seq_k fun _ hK1 => wp_seq_k fun _ hK2 => wp_region_lit (run S (.la gt37 1 rfl rfl rfl <| .xx (ys_call call66 (.cons (.t rfl) .nil) (fun hp w W => c66 _ _ _ _ _ (by exact .old W (by assumption)) (by exact .old W (by assumption)))) rfl <| .z) fun a w S => ?_)))))))))))
  rw [rw_c] at S
  refine run S (.as rfl <| .z) fun a w S => st_nil (then_normal (hK2 _ _ (sg S (.mv rfl <| .yy (ys_F (by omega) (ys_neq (.t rfl) Ev.c)) rfl <| .z) fun a w S => st_else S (.t rfl) (wp_skip (then_normal (hK1 _ _ (wp_seq_k fun _ hK1 => wp_region_lit (run S (.mv rfl <| .mv rfl <| .z) fun a w S => ?_))))))))
  (refine st_m (op_calls S call21 (.cons (.t rfl) (.cons (.t rfl) .nil)) (c21 _ _ _ _ _ (by exact Wd.cellOld S.wd (by assumption)) (by exact Wd.cellOld S.wd (by assumption)) (by exact .old S.wd (by assumption)) (by assumption)) rfl ?_); clear S a w; rintro _ _ ⟨A1, c1, rfl, rfl⟩ a w S)
  refine run S (.as rfl <| .z) fun a w S => st_nil (then_normal (hK1 _ _ (wp_seq_k fun _ hK1 => sg S (.mv rfl <| .ln underlying32 rfl <| .mc rfl <| .z) fun a w S => wp_block ?_)))
  generalize marksG l k = ms at *
  refine st_lpM S [7, 29] (X := Nat) (fun i => [(7, true, .int .i64 0), (29, true, .int .i64 (i : Int))]) (fun _ => [rowOf 30 3 Dot.enc A1 c1 ms, .blk g2 (.cells #[.slice none 0 0, .slice none 0 0, .slice none 0 0] 37), .blk g1 (.cells #[.slice A X.ents.length cap, .slice A2 X.ctx.marks.length cap2, .slice A3 X.ctx.cloud.length cap3] 37)]) (fun i => i ≤ ms.length ∧ (ms.take i).any (overG X.ctx) = false) (fun i => ms.length - i) 0 ⟨Nat.zero_le _, by simp⟩ ?_
  clear S
  rintro i a w ⟨hi, hno⟩ S
  by_cases hlt : i < ms.length
  · obtain ⟨ga, rfl⟩ := S.wd.row_at (k := 0) rfl (by have := (S.wd.room (k := 0) rfl).1; omega)
    obtain ⟨m, hm⟩ : ∃ m, ms[i]? = some m := ⟨ms[i], List.getElem?_eq_getElem hlt⟩
    by_cases ho : m.count < X.ctx.top m.node m.life
    · have e : cleanG ms X = (Cart.zero, 50) := by unfold cleanG; rw [if_pos hc, if_pos (over_yes hm ho)]
      have rw_o := decide_eq_true ho
      refine sg S (.lt (by omega) rfl rfl <| .z) fun a w S => wp_seq_k fun _ hK2 => st_then S (.t rfl) (wp_skip (then_normal (hK2 _ _ (wp_seq_k fun _ hK2 => wp_block (wp_seq_k fun _ hK3 => wp_region_lit (run S (.ix underlying32 sizeOf30 (by omega) rfl rfl <| .yy (ys_ldWA ⟨isAgg30, sizeOf30⟩ (.t rfl) (k := 0) rfl hm (fun _ => rfl)) rfl <| .z) fun a w S => st_m (op_alloc S zeroValue30 (cs := _) rfl rfl fun g3 a w S => st_m (op_stW S sizeOf30 (.t rfl) (.t rfl) (k := 0) rfl rfl rfl (by simp [Value.oneCell']) fun a w S => st_nil (then_normal (hK3 _ _ (wp_seq_k fun _ hK3 => st_quiet S (by kernel_rfl) (by kernel_rfl) fun a S => qrun S (.fa underlying37 sizeOf35 1 rfl rfl rfl <| .la gt35 3 rfl rfl rfl <| .fa underlying30 sizeOf3 0 rfl rfl rfl <| .ld gt3 0 rfl rfl rfl <| .fa underlying30 sizeOf3 1 rfl rfl rfl <| .ld gt3 0 rfl rfl rfl <| .yy (ys_bld (ps := [(0, Go.Operand.tmp 36), (1, Go.Operand.tmp 38)]) (us := [_, _]) bld66 (.cons (.t rfl) (.cons (.t rfl) .nil)) rfl) rfl <| .xx (ys_call call67 (.cons (.t rfl) (.cons (.t rfl) .nil)) (fun hp w W => c67 _ _ _ _ _ _ (by exact .old W (by assumption)))) rfl <| .fa underlying30 sizeOf3 2 rfl rfl rfl <| .ld gt3 0 rfl rfl rfl <| .yy (ys_T (by omega) (ys_gtr (.t rfl) (.t rfl))) rfl <| .z) fun a S => ?_)))))))))))
      (refine q_nil ?_; intro w W; replace S := St.mk S W; clear W)
      refine then_normal (hK3 _ _ (st_then S (.t rfl) (wp_seq_k fun _ hK3 => wp_region_lit (run S (.yy (ys_bld (ps := []) (us := [_, _, _]) bld37 .nil rfl) rfl <| .z) fun a w S => st_m (op_stW S sizeOf37 (.t rfl) (.t rfl) (k := 2) rfl rfl rfl (by simp [Value.oneCell']) fun a w S => run S (.ac rfl <| .z) fun a w S => st_nil (then_normal (hK3 _ _ (wp_ret (in_ret (then_ret (then_ret (in_ret (then_ret (st_ret S (results2 S results17 (Rv.cell (k := 2) ⟨isAgg37, sizeOf37⟩ rfl rfl rfl) (Rv.tmp rfl)) ?_))))))))))))))
      rw [e]
      exact ⟨_, _, rfl, (((S.nil_ 74 3 Dot.enc none).nil_ 30 3 Dot.enc none).nil_ 100 6 Ent.enc none).wd.sub (by repeat (first | exact List.Sublist.refl _ | exact List.nil_sublist _ | refine .cons_cons _ ?_ | refine .cons _ ?_)), none, 0, none, 0, none, 0, rfl, rfl⟩
    · have rw_o := decide_eq_false ho
      refine sg S (.lt (by omega) rfl rfl <| .z) fun a w S => wp_seq_k fun _ hK2 => st_then S (.t rfl) (wp_skip (then_normal (hK2 _ _ (wp_seq_k fun _ hK2 => wp_block (wp_seq_k fun _ hK3 => wp_region_lit (run S (.ix underlying32 sizeOf30 (by omega) rfl rfl <| .yy (ys_ldWA ⟨isAgg30, sizeOf30⟩ (.t rfl) (k := 0) rfl hm (fun _ => rfl)) rfl <| .z) fun a w S => st_m (op_alloc S zeroValue30 (cs := _) rfl rfl fun g3 a w S => st_m (op_stW S sizeOf30 (.t rfl) (.t rfl) (k := 0) rfl rfl rfl (by simp [Value.oneCell']) fun a w S => st_nil (then_normal (hK3 _ _ (wp_seq_k fun _ hK3 => st_quiet S (by kernel_rfl) (by kernel_rfl) fun a S => qrun S (.fa underlying37 sizeOf35 1 rfl rfl rfl <| .la gt35 3 rfl rfl rfl <| .fa underlying30 sizeOf3 0 rfl rfl rfl <| .ld gt3 0 rfl rfl rfl <| .fa underlying30 sizeOf3 1 rfl rfl rfl <| .ld gt3 0 rfl rfl rfl <| .yy (ys_bld (ps := [(0, Go.Operand.tmp 36), (1, Go.Operand.tmp 38)]) (us := [_, _]) bld66 (.cons (.t rfl) (.cons (.t rfl) .nil)) rfl) rfl <| .xx (ys_call call67 (.cons (.t rfl) (.cons (.t rfl) .nil)) (fun hp w W => c67 _ _ _ _ _ _ (by exact .old W (by assumption)))) rfl <| .fa underlying30 sizeOf3 2 rfl rfl rfl <| .ld gt3 0 rfl rfl rfl <| .yy (ys_F (by omega) (ys_gtr (.t rfl) (.t rfl))) rfl <| .z) fun a S => ?_)))))))))))
      (refine q_nil ?_; intro w W; replace S := St.mk S W; clear W)
      refine then_normal (hK3 _ _ (st_else S (.t rfl) (wp_skip (in_normal (then_normal (hK2 _ _ (wp_region_lit (run S (.ad (by unfold I64; omega) rfl <| .mv rfl <| .z) fun a w S => st_nil (then_normal ?_)))))))))
      exact ⟨i + 1, ⟨by omega, over_no hm hno ho⟩, by omega, S.pk⟩
  obtain rfl : i = ms.length := by omega
  rw [List.take_length] at hno
  have e := clean_of hX hno
  have hl1 := cart_len3 hX
  have rw_p := prune_none hX 0
  refine sg S (.ge (by omega) rfl rfl <| .z) fun a w S => wp_seq_k fun _ hK2 => st_else S (.t rfl) (wp_exit (then_exit (then_exit (in_here (then_normal (hK1 _ _ (wp_seq_k fun _ hK1 => wp_region_lit (run S (.la gt37 2 rfl rfl rfl <| .yy (ys_bld (ps := [(0, _)]) (us := [_, _]) bld66 (.cons Ev.c .nil) rfl) rfl <| .z) fun a w S => ?_))))))))
  (refine st_m (op_calls S call68 (.cons (.t rfl) (.cons (.t rfl) .nil)) (c68 _ _ _ _ _ _ _ (by exact .old S.wd (by assumption)) (by exact .old S.wd (by assumption)) (by omega) (by omega) (by omega)) rfl ?_); clear S a w; rintro _ _ ⟨A11, r11, A21, r21, A31, r31, rfl, rfl⟩ a w S)
  rw [rw_p] at S
  refine st_m (op_stW S sizeOf37 (.t rfl) (.t rfl) (k := 5) rfl rfl rfl (by simp [Value.oneCell']) fun a w S => st_nil (then_normal (hK1 _ _ (wp_seq_k fun _ hK1 => sg S (.mv rfl <| .ln underlying32 rfl <| .mc rfl <| .z) fun a w S => wp_block ?_))))
  refine st_lpM S [51] (X := Nat × Option Addr × Nat × Option Addr × Nat × Option Addr × Nat) (fun q => [(51, true, .int .i64 (q.1 : Int))]) (fun q => [rowOf 100 6 Ent.enc q.2.1 q.2.2.1 (pruneL (ms.take q.1) X).ents, rowOf 30 3 Dot.enc q.2.2.2.1 q.2.2.2.2.1 (pruneL (ms.take q.1) X).ctx.marks, rowOf 74 3 Dot.enc q.2.2.2.2.2.1 q.2.2.2.2.2.2 (pruneL (ms.take q.1) X).ctx.cloud, rowOf 30 3 Dot.enc A1 c1 ms, .blk g2 (.cells #[.slice none 0 0, .slice none 0 0, .slice none 0 0] 37), .blk g1 (.cells #[.slice q.2.1 (pruneL (ms.take q.1) X).ents.length q.2.2.1, .slice q.2.2.2.1 (pruneL (ms.take q.1) X).ctx.marks.length q.2.2.2.2.1, .slice q.2.2.2.2.2.1 (pruneL (ms.take q.1) X).ctx.cloud.length q.2.2.2.2.2.2] 37)]) (fun q => q.1 ≤ ms.length) (fun q => ms.length - q.1) (0, A11, r11, A21, r21, A31, r31) (Nat.zero_le _) ?_
  clear S
  rintro ⟨i, q1, r1, q2, r2, q3, r3⟩ a w hi S
  dsimp only at hi S
  have hpl := pruneL_ok (ms.take i) hX
  have hpn := cart_len3 hpl
  by_cases hlt : i < ms.length
  · obtain ⟨ga, rfl⟩ := S.wd.row_at (k := 3) rfl (by have := (S.wd.room (k := 3) rfl).1; omega)
    obtain ⟨m, hm⟩ : ∃ m, ms[i]? = some m := ⟨ms[i], List.getElem?_eq_getElem hlt⟩
    have hst := pruneL_snoc (c := X) hm
    generalize pruneL (ms.take i) X = Y at *
    refine sg S (.lt (by omega) rfl rfl <| .z) fun a w S => wp_seq_k fun _ hK3 => st_then S (.t rfl) (wp_skip (then_normal (hK3 _ _ (wp_seq_k fun _ hK3 => wp_block (wp_seq_k fun _ hK4 => wp_region_lit (run S (.ix underlying32 sizeOf30 (by omega) rfl rfl <| .yy (ys_ldWA ⟨isAgg30, sizeOf30⟩ (.t rfl) (k := 3) rfl hm (fun _ => rfl)) rfl <| .z) fun a w S => st_m (op_alloc S zeroValue30 (cs := _) rfl rfl fun g3 a w S => st_m (op_stW S sizeOf30 (.t rfl) (.t rfl) (k := 0) rfl rfl rfl (by simp [Value.oneCell']) fun a w S => st_nil (then_normal (hK4 _ _ (wp_region_lit (run S (.la gt37 6 rfl rfl rfl <| .fa underlying30 sizeOf3 0 rfl rfl rfl <| .ld gt3 0 rfl rfl rfl <| .fa underlying30 sizeOf3 1 rfl rfl rfl <| .ld gt3 0 rfl rfl rfl <| .yy (ys_bld (ps := [(0, Go.Operand.tmp 57), (1, Go.Operand.tmp 59)]) (us := [_, _]) bld66 (.cons (.t rfl) (.cons (.t rfl) .nil)) rfl) rfl <| .z) fun a w S => ?_))))))))))))
    (refine st_m (op_calls S call68 (.cons (.t rfl) (.cons (.t rfl) .nil)) (c68 _ _ _ _ _ _ _ (by exact Sl.of_own S.wd (k := 1) rfl (fun _ => rfl)) (by exact ⟨(by exact Sl.of_own S.wd (k := 2) rfl (fun _ => rfl)), (by exact Sl.of_own S.wd (k := 3) rfl (fun _ => rfl))⟩) (by omega) (by omega) (by omega)) rfl ?_); clear S a w; rintro _ _ ⟨A12, r12, A22, r22, A32, r32, rfl, rfl⟩ a w S)
    refine st_m (op_stW S sizeOf37 (.t rfl) (.t rfl) (k := 9) rfl rfl rfl (by simp [Value.oneCell']) fun a w S => st_nil (in_normal (then_normal (hK3 _ _ (wp_region_lit (run S (.ad (by unfold I64; omega) rfl <| .mv rfl <| .z) fun a w S => st_nil (then_normal ?_)))))))
    exact ⟨(i + 1, A12, r12, A22, r22, A32, r32), by dsimp only; omega, by dsimp only; omega, by dsimp only; rw [hst]; exact S.pk⟩
  obtain rfl : i = ms.length := by omega
  rw [List.take_length] at S
  refine sg S (.ge (by omega) rfl rfl <| .z) fun a w S => wp_seq_k fun _ hK3 => st_else S (.t rfl) (wp_exit (then_exit (then_exit (in_here (then_normal (hK1 _ _ (wp_seq_k fun _ hK1 => wp_region_lit (run S (.la gt37 5 rfl rfl rfl <| .z) fun a w S => st_m (op_stW S sizeOf37 (.t rfl) (.t rfl) (k := 4) rfl rfl rfl (by simp [Value.oneCell']) fun a w S => run S (.ac rfl <| .z) fun a w S => st_nil (then_normal (hK1 _ _ (wp_ret (st_ret S (results2 S results17 (Rv.cell (k := 4) ⟨isAgg37, sizeOf37⟩ rfl rfl rfl) (Rv.tmp rfl)) ?_)))))))))))))
  rw [e]
  exact ⟨_, _, rfl, S.wd.pk, _, _, _, _, _, _, rfl, rfl⟩
end Go.Proofs.YtakpdbmdfnialaaGreat
set_option linter.unusedVariables false
set_option linter.unusedSimpArgs false
set_option maxRecDepth 100000
set_option maxHeartbeats 4000000
namespace Go.Fw
def idxW {α : Type} (p : α → Bool) : Nat → List α → Int
  | _, [] => -1
  | k, y :: r => if p y then (k : Int) else idxW p (k + 1) r
theorem idxW_any {α : Type} (p : α → Bool) : ∀ (l : List α) (k : Nat), decide (0 ≤ idxW p k l) = l.any p
  | [], k => rfl
  | y :: r, k => by
    unfold idxW
    by_cases h : p y = true
    · rw [if_pos h, List.any_cons, h, Bool.true_or]
      exact decide_eq_true (by omega)
    · rw [if_neg h, idxW_any p r (k + 1), List.any_cons, Bool.eq_false_iff.2 h, Bool.false_or]
end Go.Fw
namespace Go.Proofs.YtakpdbmdfnialaaGreat
open Go.Fw Go.Proofs Go.RowKit Go.Proofs.Tryz
def ReadsV {α : Type} (enc : α → List Value) (w0 : World) (f : FuncId) (cs : List Value) (l : List α) (p : α → Bool) : Prop := ∀ w', Wd w0 [] w' → ∀ x ∈ l, Calls Tryz.prog f ([Value.agg (enc x).toArray] ++ cs).toArray w' fun e w'' => e = .returned (.bool (p x)) ∧ Bel w'.heap.size w' w''
theorem x184 (w0 : World) (v : Value) (l : List Ent) (f : FuncId) (cs : List Value) (p : Ent → Bool) (hf : ∀ args w, (callFunc f args).run Tryz.prog w = .ok (.enter f args) w) (hr : ReadsV Ent.enc w0 f cs l p) (h : Sl Ent.enc 6 w0 w0.heap.size v l) :
    Calls Tryz.prog 184 #[v, .func (.func f) #[] cs.toArray] w0 fun e w' => e = .returned (.int .i64 (idxW p 0 l)) ∧ Bel w0.heap.size w0 w' := by
  obtain ⟨A, cap, rfl, hl, hcap, hA⟩ := h
  refine enter2 func184 rfl ntmps184 rfl fun a S => sg S (.ac rfl <| .z) fun a w S => wp_seq_k fun _ hK1 => sg S (.mv rfl <| .ln underlying31 rfl <| .mc rfl <| .z) fun a w S => wp_block ?_
  refine st_lpM S [4, 5, 8] (X := Nat) (fun k => [(8, true, .int .i64 (k : Int))]) (fun _ => []) (fun k => k ≤ l.length ∧ idxW p k (l.drop k) = idxW p 0 l) (fun k => l.length - k) 0 ⟨Nat.zero_le _, rfl⟩ ?_
  clear S
  intro k a w ⟨hk, hno⟩ S
  by_cases hlt : k < l.length
  · obtain ⟨gq, oq, x, rfl, hx, hd, hcc⟩ := row_at hA hlt
    rw [hd] at hno
    have hrx := fun w' W' => hr w' W' x (List.mem_of_getElem? hx)
    refine sg S (.lt (by omega) rfl rfl <| .z) fun a w S => wp_seq_k fun _ hK2 => st_then S (.t rfl) (wp_skip (then_normal (hK2 _ _ (wp_seq_k fun _ hK2 => wp_block (sg S (.mv rfl <| .as rfl <| .z) fun a w S => wp_seq_k fun _ hK3 => wp_region_lit (run S (.mv rfl <| .mv rfl <| .mv rfl <| .ix underlying31 sizeOf100 (by omega) rfl rfl <| .yy (ys_ldOA ⟨isAgg100, sizeOf100⟩ (.t rfl) (vs := [_, _, _, _, _, _]) rfl (fun _ => hcc)) rfl <| .z) fun a w S => st_y S (ys_callVC (cs := cs) (vs := [.agg (Ent.enc x).toArray]) (v := .bool (p x)) (.t rfl) hf (.cons (.t rfl) .nil) (fun _ w' W' => hrx w' (W'.sub (List.nil_sublist _)))) rfl ?_))))))
    clear S a w
    intro a w S
    cases hp : p x with
    | true =>
      rw [hp] at S
      refine st_nil (then_normal (hK3 _ _ (st_then S (.t rfl) (sg S (.mv rfl <| .as rfl <| .z) fun a w S => wp_ret (in_ret (then_ret (then_ret (in_ret (then_ret (st_ret S (results1 S results184 (Rv.tmp rfl)) ?_))))))))))
      refine ⟨?_, S.wd.below⟩
      rw [← hno, idxW, if_pos hp]
    | false =>
      rw [hp] at S
      refine st_nil (then_normal (hK3 _ _ (st_else S (.t rfl) (wp_skip (in_normal (then_normal (hK2 _ _ (wp_region_lit (run S (.ad (by unfold I64; omega) rfl <| .mv rfl <| .z) fun a w S => st_nil (then_normal ?_))))))))))
      rw [idxW, if_neg (by rw [hp]; decide)] at hno
      exact ⟨k + 1, ⟨by omega, hno⟩, by omega, S.pk⟩
  · obtain rfl : k = l.length := by omega
    rw [List.drop_length] at hno
    refine sg S (.ge (by omega) rfl rfl <| .z) fun a w S => wp_seq_k fun _ hK2 => st_else S (.t rfl) (wp_exit (then_exit (then_exit (in_here (then_normal (hK1 _ _ (sg S (.ac rfl <| .z) fun a w S => wp_ret (st_ret S (results1 S results184 (Rv.tmp rfl)) ?_))))))))
    exact ⟨by rw [← hno]; rfl, S.wd.below⟩
theorem x151 (w0 : World) (v : Value) (l : List Ent) (f : FuncId) (cs : List Value) (p : Ent → Bool) (hf : ∀ args w, (callFunc f args).run Tryz.prog w = .ok (.enter f args) w) (hr : ReadsV Ent.enc w0 f cs l p) (h : Sl Ent.enc 6 w0 w0.heap.size v l) :
    Calls Tryz.prog 151 #[v, .func (.func f) #[] cs.toArray] w0 fun e w' => e = .returned (.bool (l.any p)) ∧ Bel w0.heap.size w0 w' := by
  have hs := h
  obtain ⟨A, cap, rfl, hl, hcap, hA⟩ := h
  refine enter2 func151 rfl ntmps151 rfl fun a S => sg S (.ac rfl <| .z) fun a w S => wp_seq_k fun _ hK1 => wp_region_lit (run S (.mv rfl <| .mv rfl <| .z) fun a w S => st_y S (ys_call call184 (.cons (.t rfl) (.cons (.t rfl) .nil)) (fun _ w' W' => x184 w' _ l f cs p hf (fun w'' W'' => hr w'' ((W'.sub (List.nil_sublist _)).step W''.below)) (Sl.old W' hs))) rfl ?_)
  clear S a w
  intro a w S
  refine run S (.yy (ys_geq (.t rfl) Ev.c) rfl <| .as rfl <| .z) fun a w S => st_nil (then_normal (hK1 _ _ (wp_ret (st_ret S (results1 S results151 (Rv.tmp rfl)) ?_))))
  exact ⟨by rw [← idxW_any p l 0], S.wd.below⟩
end Go.Proofs.YtakpdbmdfnialaaGreat
set_option linter.unusedVariables false
set_option linter.unusedSimpArgs false
set_option maxRecDepth 100000
set_option maxHeartbeats 4000000
namespace Go.Fw
theorem CartRd.old {w0 w : World} {L : List Chunk} {X : Cart} {s : Sls3} (W : Wd w0 L w) (h : CartRd w0 X s) : CartRd w X s := ⟨.old W h.1, .old W h.2, .old W h.3⟩
end Go.Fw
namespace Go.Proofs.YtakpdbmdfnialaaGreat
open Go.Fw Go.Proofs Go.RowKit Go.Proofs.Tryz
theorem c152 (w0 : World) (x : Ent) (p q : Int) (g : Nat) (h0 : w0.cell? ⟨g, 0, none⟩ = some (.int .i64 p)) (h1 : w0.cell? ⟨g, 1, none⟩ = some (.int .i64 q)) :
    Calls Tryz.prog 152 #[.agg (Ent.enc x).toArray, .pointer (some ⟨g, 0, none⟩)] w0 fun e w' => e = .returned (.bool (decide (x.dot.node = p ∧ x.dot.life = q))) ∧ Bel w0.heap.size w0 w' := by
  refine enter2 func152 rfl ntmps152 rfl fun a S => wp_seq_k fun _ hK1 => wp_region_lit (st_m (op_box S (.t rfl) rfl fun g1 a w S => run S (.ac rfl <| .z) fun a w S => st_nil (then_normal (hK1 _ _ (wp_seq_k fun _ hK1 => wp_region_lit (run S (.fa underlying100 sizeOf74 1 rfl rfl rfl <| .fa underlying74 sizeOf3 1 rfl rfl rfl <| .ld gt3 0 rfl rfl rfl <| .fa underlying66 sizeOf3 0 rfl rfl rfl <| .yy (ys_ldO ⟨isAgg3, sizeOf3⟩ (.t rfl) (fun _ => h0)) rfl <| .yy (ys_eql (.t rfl) (.t rfl)) rfl <| .mv rfl <| .z) fun a w S => st_yg S rfl rfl (Yr.ys (ys_fieldN (FieldT.mk underlying100 rfl sizeOf74 rfl) (.t rfl) (i' := 1) rfl)) rfl fun a w S => st_yg S rfl rfl (Yr.ys (ys_fieldN (FieldT.mk underlying74 rfl sizeOf3 rfl) (Ev.g rfl) (i' := 2) rfl)) rfl fun a w S => st_yg S rfl rfl (Yr.ys (ys_ld ⟨isAgg3, sizeOf3⟩ (Ev.g rfl) (k := 0) rfl rfl)) rfl fun a w S => st_yg S rfl rfl (Yr.ys (ys_fieldN (FieldT.mk underlying66 rfl sizeOf3 rfl) (.t rfl) (i' := 1) rfl)) rfl fun a w S => st_yg S rfl rfl (Yr.ys (ys_ldO ⟨isAgg3, sizeOf3⟩ (Ev.g rfl) (fun _ => h1))) rfl fun a w S => st_yg S rfl rfl (Yr.ys (ys_eql (Ev.g rfl) (Ev.g rfl))) rfl fun a w S => run S (.yy (ys_and (.t rfl) (Ev.g rfl) Ev.c) rfl <| .as rfl <| .z) fun a w S => st_nil (then_normal (hK1 _ _ (wp_ret (st_ret S (results1 S results152 (Rv.tmp rfl)) ?_))))))))))
  exact ⟨by simp, S.wd.below⟩
theorem c151 (w0 : World) (v : Value) (l : List Ent) (p q : Int) (g : Nat) (h : Sl Ent.enc 6 w0 w0.heap.size v l) (h0 : w0.cell? ⟨g, 0, none⟩ = some (.int .i64 p)) (h1 : w0.cell? ⟨g, 1, none⟩ = some (.int .i64 q)) :
    Calls Tryz.prog 151 #[v, .func (.func 152) #[] #[.pointer (some ⟨g, 0, none⟩)]] w0 fun e w' => e = .returned (.bool (l.any fun x => decide (x.dot.node = p ∧ x.dot.life = q))) ∧ Bel w0.heap.size w0 w' :=
  x151 w0 v l _ [.pointer (some ⟨g, 0, none⟩)] _ call152 (fun w' W' x _ => c152 w' x p q g (Wd.cellOld W' h0) (Wd.cellOld W' h1)) h
theorem c97 (w0 : World) (v1 : Value) (A2 A3 : Option Addr) (n2 c2 n3 c3 : Nat) (l : List Ent) (p q : Int) (h : Sl Ent.enc 6 w0 w0.heap.size v1 l) :
    Calls Tryz.prog 97 #[.agg #[v1, .slice A2 n2 c2, .slice A3 n3 c3], .agg #[.int .i64 p, .int .i64 q]] w0 fun e w' => e = .returned (.bool (l.any fun x => decide (x.dot.node = p ∧ x.dot.life = q))) ∧ Bel w0.heap.size w0 w' := by
  have hs := h
  obtain ⟨A, cap, rfl, hl, hcap, hA⟩ := h
  refine enter2 func97 rfl ntmps97 rfl fun a S => wp_seq_k fun _ hK1 => wp_region_lit (st_m (op_box S (.t rfl) rfl fun g1 a w S => st_m (op_box S (.t rfl) rfl fun g2 a w S => run S (.ac rfl <| .z) fun a w S => st_nil (then_normal (hK1 _ _ (sg S (.fa underlying37 sizeOf31 0 rfl rfl rfl <| .ld gt31 1 rfl rfl rfl <| .yy (ys_mkFunc (.cons (.t rfl) .nil)) rfl <| .xx (ys_call call151 (.cons (.t rfl) (.cons (.t rfl) .nil)) (fun hp w W => c151 _ _ _ _ _ _ (by exact .old W (by assumption)) (by exact Wd.cell W (k := 0) rfl rfl) (by exact Wd.cell W (k := 0) rfl rfl))) rfl <| .as rfl <| .z) fun a w S => wp_ret (st_ret S (results1 S results97 (Rv.tmp rfl)) ?_)))))))
  exact ⟨rfl, S.wd.below⟩
end Go.Proofs.YtakpdbmdfnialaaGreat
set_option linter.unusedVariables false
set_option linter.unusedSimpArgs false
set_option maxRecDepth 100000
set_option maxHeartbeats 4000000
namespace Go.Fw
def CartsRd (w : World) (l : List SCart) : Prop := ∀ x ∈ l, CartRd w x.1 x.2
theorem CartsRd.old {w0 w : World} {L : List Chunk} {l : List SCart} (W : Wd w0 L w) (h : CartsRd w0 l) : CartsRd w l := fun x hx => (h x hx).old W
theorem CartRd.wd {w0 w : World} {X : Cart} {s : Sls3} (h : CartRd w0 X s) (W : Wd w0 [] w) : CartRd w X s := h.old W
end Go.Fw
namespace Go.Proofs.YtakpdbmdfnialaaGreat
open Go.Fw Go.Proofs Go.RowKit Go.Proofs.Tryz
theorem c153 (w0 : World) (v1 : Value) (l : List Dot) (x y z : Int) (h : Sl Dot.enc 3 w0 w0.heap.size v1 l) :
    Calls Tryz.prog 153 #[v1, .agg #[.int .i64 x, .int .i64 y, .int .i64 z]] w0 fun e w' => e = .returned (.int .i64 (idxFrom ⟨x, y, z⟩ 0 l)) ∧ Bel w0.heap.size w0 w' := by
  obtain ⟨A, cap, rfl, hl, hcap, hA⟩ := h
  refine enter2 func153 rfl ntmps153 rfl fun a S => wp_seq_k fun _ hK1 => wp_region_lit (st_m (op_box S (.t rfl) rfl fun g1 a w S => run S (.ac rfl <| .z) fun a w S => st_nil (then_normal (hK1 _ _ (wp_seq_k fun _ hK1 => sg S (.mv rfl <| .ln underlying32 rfl <| .mc rfl <| .z) fun a w S => wp_block ?_)))))
  refine st_lpK S (X := Nat) (fun k => [(8, true, .int .i64 (k : Int))]) (fun _ L => L) (fun k => k ≤ l.length ∧ idxFrom ⟨x, y, z⟩ k (l.drop k) = idxFrom ⟨x, y, z⟩ 0 l) (fun k => l.length - k) 0 ⟨Nat.zero_le _, rfl⟩ ?_
  clear S
  intro k a w ⟨hk, hno⟩ S
  by_cases hlt : k < l.length
  · obtain ⟨g, o, m, rfl, hm, hd, hc⟩ := row_at hA hlt
    clear hA
    refine sg S (.lt (by omega) rfl rfl <| .z) fun a w S => wp_seq_k fun _ hK2 => st_then S (.t rfl) (wp_skip (then_normal (hK2 _ _ (wp_seq_k fun _ hK2 => wp_block (sg S (.mv rfl <| .as rfl <| .z) fun a w S => wp_seq_k fun _ hK3 => st_quiet S (by kernel_rfl) (by kernel_rfl) fun a S => qrun S (.la gt30 0 rfl rfl rfl <| .mv rfl <| .mv rfl <| .ix underlying32 sizeOf30 (by omega) rfl rfl <| .yy (ys_ldOA ⟨isAgg30, sizeOf30⟩ (.t rfl) (vs := [_, _, _]) rfl (fun _ => hc)) rfl <| .yy (ys_eqA (.t rfl) (.t rfl) eq30) rfl <| .z) fun a S => ?_)))))
    (refine q_nil ?_; intro w W; replace S := St.mk S W; clear W)
    refine then_normal (hK3 _ _ ?_)
    refine st_if S (.t rfl) (fun h1 => ?_) (fun h1 => ?_)
    refine sg S (.mv rfl <| .as rfl <| .z) fun a w S => wp_ret (in_ret (then_ret (then_ret (in_ret (then_ret (st_ret S (results1 S results153 (Rv.tmp rfl)) ?_))))))
    rotate_left
    refine wp_skip (in_normal (then_normal (hK2 _ _ (wp_region_lit (run S (.ad (by unfold I64; omega) rfl <| .mv rfl <| .z) fun a w S => st_nil (then_normal ?_))))))
    rotate_left
    · refine ⟨?_, S.wd.below⟩
      obtain ⟨rfl, rfl, rfl⟩ := h1
      rw [← hno, hd, idxFrom, if_pos rfl]
    · rw [hd, idxFrom, if_neg (fun e => h1 (by cases e; exact ⟨rfl, rfl, rfl⟩))] at hno
      exact ⟨k + 1, ⟨by omega, hno⟩, by omega, S.wk⟩
  · refine sg S (.ge (by omega) rfl rfl <| .z) fun a w S => wp_seq_k fun _ hK2 => st_else S (.t rfl) (wp_exit (then_exit (then_exit (in_here (then_normal (hK1 _ _ (sg S (.ac rfl <| .z) fun a w S => wp_ret (st_ret S (results1 S results153 (Rv.tmp rfl)) ?_))))))))
    refine ⟨?_, S.wd.below⟩
    rw [← hno, List.drop_eq_nil_of_le (by omega)]; rfl
theorem c100 (w0 : World) (v1 : Value) (l : List Dot) (x y z : Int) (h : Sl Dot.enc 3 w0 w0.heap.size v1 l) :
    Calls Tryz.prog 100 #[v1, .agg #[.int .i64 x, .int .i64 y, .int .i64 z]] w0 fun e w' => e = .returned (.bool (decide ((⟨x, y, z⟩ : Dot) ∈ l))) ∧ Bel w0.heap.size w0 w' := by
  refine enter2 func100 rfl ntmps100 rfl fun a S => wp_seq_k fun _ hK1 => wp_region_lit (st_m (op_box S (.t rfl) rfl fun g1 a w S => run S (.ac rfl <| .z) fun a w S => st_nil (then_normal (hK1 _ _ (sg S (.mv rfl <| .la gt30 0 rfl rfl rfl <| .xx (ys_call call153 (.cons (.t rfl) (.cons (.t rfl) .nil)) (fun hp w W => c153 _ _ _ _ _ _ (by exact .old W (by assumption)))) rfl <| .yy (ys_geq (.t rfl) Ev.c) rfl <| .as rfl <| .z) fun a w S => wp_ret (st_ret S (results1 S results100 (Rv.tmp rfl)) ?_))))))
  refine ⟨?_, S.wd.below⟩
  rw [idx_mem]
theorem x150 (w0 : World) (v : Value) (l : List SCart) (f : FuncId) (cs : List Value) (p : SCart → Bool) (hf : ∀ args w, (callFunc f args).run Tryz.prog w = .ok (.enter f args) w) (hr : ReadsV SCart.enc w0 f cs l p) (h : Sl SCart.enc 3 w0 w0.heap.size v l) :
    Calls Tryz.prog 150 #[v, .func (.func f) #[] cs.toArray] w0 fun e w' => e = .returned (.int .i64 (idxW p 0 l)) ∧ Bel w0.heap.size w0 w' := by
  obtain ⟨A, cap, rfl, hl, hcap, hA⟩ := h
  refine enter2 func150 rfl ntmps150 rfl fun a S => sg S (.ac rfl <| .z) fun a w S => wp_seq_k fun _ hK1 => sg S (.mv rfl <| .ln underlying64 rfl <| .mc rfl <| .z) fun a w S => wp_block ?_
  refine st_lpM S [4, 5, 8] (X := Nat) (fun k => [(8, true, .int .i64 (k : Int))]) (fun _ => []) (fun k => k ≤ l.length ∧ idxW p k (l.drop k) = idxW p 0 l) (fun k => l.length - k) 0 ⟨Nat.zero_le _, rfl⟩ ?_
  clear S
  intro k a w ⟨hk, hno⟩ S
  by_cases hlt : k < l.length
  · obtain ⟨gq, oq, x, rfl, hx, hd, hcc⟩ := row_at hA hlt
    rw [hd] at hno
    have hrx := fun w' W' => hr w' W' x (List.mem_of_getElem? hx)
    refine sg S (.lt (by omega) rfl rfl <| .z) fun a w S => wp_seq_k fun _ hK2 => st_then S (.t rfl) (wp_skip (then_normal (hK2 _ _ (wp_seq_k fun _ hK2 => wp_block (sg S (.mv rfl <| .as rfl <| .z) fun a w S => wp_seq_k fun _ hK3 => wp_region_lit (run S (.mv rfl <| .mv rfl <| .mv rfl <| .ix underlying64 sizeOf37 (by omega) rfl rfl <| .yy (ys_ldOA ⟨isAgg37, sizeOf37⟩ (.t rfl) (vs := [_, _, _]) rfl (fun _ => hcc)) rfl <| .z) fun a w S => st_y S (ys_callVC (cs := cs) (vs := [.agg (SCart.enc x).toArray]) (v := .bool (p x)) (.t rfl) hf (.cons (.t rfl) .nil) (fun _ w' W' => hrx w' (W'.sub (List.nil_sublist _)))) rfl ?_))))))
    clear S a w
    intro a w S
    cases hp : p x with
    | true =>
      rw [hp] at S
      refine st_nil (then_normal (hK3 _ _ (st_then S (.t rfl) (sg S (.mv rfl <| .as rfl <| .z) fun a w S => wp_ret (in_ret (then_ret (then_ret (in_ret (then_ret (st_ret S (results1 S results150 (Rv.tmp rfl)) ?_))))))))))
      refine ⟨?_, S.wd.below⟩
      rw [← hno, idxW, if_pos hp]
    | false =>
      rw [hp] at S
      refine st_nil (then_normal (hK3 _ _ (st_else S (.t rfl) (wp_skip (in_normal (then_normal (hK2 _ _ (wp_region_lit (run S (.ad (by unfold I64; omega) rfl <| .mv rfl <| .z) fun a w S => st_nil (then_normal ?_))))))))))
      rw [idxW, if_neg (by rw [hp]; decide)] at hno
      exact ⟨k + 1, ⟨by omega, hno⟩, by omega, S.pk⟩
  · obtain rfl : k = l.length := by omega
    rw [List.drop_length] at hno
    refine sg S (.ge (by omega) rfl rfl <| .z) fun a w S => wp_seq_k fun _ hK2 => st_else S (.t rfl) (wp_exit (then_exit (then_exit (in_here (then_normal (hK1 _ _ (sg S (.ac rfl <| .z) fun a w S => wp_ret (st_ret S (results1 S results150 (Rv.tmp rfl)) ?_))))))))
    exact ⟨by rw [← hno]; rfl, S.wd.below⟩
theorem x93 (w0 : World) (v : Value) (l : List SCart) (f : FuncId) (cs : List Value) (p : SCart → Bool) (hf : ∀ args w, (callFunc f args).run Tryz.prog w = .ok (.enter f args) w) (hr : ReadsV SCart.enc w0 f cs l p) (h : Sl SCart.enc 3 w0 w0.heap.size v l) :
    Calls Tryz.prog 93 #[v, .func (.func f) #[] cs.toArray] w0 fun e w' => e = .returned (.bool (l.any p)) ∧ Bel w0.heap.size w0 w' := by
  have hs := h
  obtain ⟨A, cap, rfl, hl, hcap, hA⟩ := h
  refine enter2 func93 rfl ntmps93 rfl fun a S => sg S (.ac rfl <| .z) fun a w S => wp_seq_k fun _ hK1 => wp_region_lit (run S (.mv rfl <| .mv rfl <| .z) fun a w S => st_y S (ys_call call150 (.cons (.t rfl) (.cons (.t rfl) .nil)) (fun _ w' W' => x150 w' _ l f cs p hf (fun w'' W'' => hr w'' ((W'.sub (List.nil_sublist _)).step W''.below)) (Sl.old W' hs))) rfl ?_)
  clear S a w
  intro a w S
  refine run S (.yy (ys_geq (.t rfl) Ev.c) rfl <| .as rfl <| .z) fun a w S => st_nil (then_normal (hK1 _ _ (wp_ret (st_ret S (results1 S results93 (Rv.tmp rfl)) ?_))))
  exact ⟨by rw [← idxW_any p l 0], S.wd.below⟩
theorem x80 (w0 : World) (v : Value) (l : List Dot) (f : FuncId) (cs : List Value) (p : Dot → Bool) (hf : ∀ args w, (callFunc f args).run Tryz.prog w = .ok (.enter f args) w) (hr : ReadsV Dot.enc w0 f cs l p) (h : Sl Dot.enc 3 w0 w0.heap.size v l) :
    Calls Tryz.prog 80 #[v, .func (.func f) #[] cs.toArray] w0 fun e w' => e = .returned (.int .i64 (idxW p 0 l)) ∧ Bel w0.heap.size w0 w' := by
  obtain ⟨A, cap, rfl, hl, hcap, hA⟩ := h
  refine enter2 func80 rfl ntmps80 rfl fun a S => sg S (.ac rfl <| .z) fun a w S => wp_seq_k fun _ hK1 => sg S (.mv rfl <| .ln underlying32 rfl <| .mc rfl <| .z) fun a w S => wp_block ?_
  refine st_lpM S [4, 5, 8] (X := Nat) (fun k => [(8, true, .int .i64 (k : Int))]) (fun _ => []) (fun k => k ≤ l.length ∧ idxW p k (l.drop k) = idxW p 0 l) (fun k => l.length - k) 0 ⟨Nat.zero_le _, rfl⟩ ?_
  clear S
  intro k a w ⟨hk, hno⟩ S
  by_cases hlt : k < l.length
  · obtain ⟨gq, oq, x, rfl, hx, hd, hcc⟩ := row_at hA hlt
    rw [hd] at hno
    have hrx := fun w' W' => hr w' W' x (List.mem_of_getElem? hx)
    refine sg S (.lt (by omega) rfl rfl <| .z) fun a w S => wp_seq_k fun _ hK2 => st_then S (.t rfl) (wp_skip (then_normal (hK2 _ _ (wp_seq_k fun _ hK2 => wp_block (sg S (.mv rfl <| .as rfl <| .z) fun a w S => wp_seq_k fun _ hK3 => wp_region_lit (run S (.mv rfl <| .mv rfl <| .mv rfl <| .ix underlying32 sizeOf30 (by omega) rfl rfl <| .yy (ys_ldOA ⟨isAgg30, sizeOf30⟩ (.t rfl) (vs := [_, _, _]) rfl (fun _ => hcc)) rfl <| .z) fun a w S => st_y S (ys_callVC (cs := cs) (vs := [.agg (Dot.enc x).toArray]) (v := .bool (p x)) (.t rfl) hf (.cons (.t rfl) .nil) (fun _ w' W' => hrx w' (W'.sub (List.nil_sublist _)))) rfl ?_))))))
    clear S a w
    intro a w S
    cases hp : p x with
    | true =>
      rw [hp] at S
      refine st_nil (then_normal (hK3 _ _ (st_then S (.t rfl) (sg S (.mv rfl <| .as rfl <| .z) fun a w S => wp_ret (in_ret (then_ret (then_ret (in_ret (then_ret (st_ret S (results1 S results80 (Rv.tmp rfl)) ?_))))))))))
      refine ⟨?_, S.wd.below⟩
      rw [← hno, idxW, if_pos hp]
    | false =>
      rw [hp] at S
      refine st_nil (then_normal (hK3 _ _ (st_else S (.t rfl) (wp_skip (in_normal (then_normal (hK2 _ _ (wp_region_lit (run S (.ad (by unfold I64; omega) rfl <| .mv rfl <| .z) fun a w S => st_nil (then_normal ?_))))))))))
      rw [idxW, if_neg (by rw [hp]; decide)] at hno
      exact ⟨k + 1, ⟨by omega, hno⟩, by omega, S.pk⟩
  · obtain rfl : k = l.length := by omega
    rw [List.drop_length] at hno
    refine sg S (.ge (by omega) rfl rfl <| .z) fun a w S => wp_seq_k fun _ hK2 => st_else S (.t rfl) (wp_exit (then_exit (then_exit (in_here (then_normal (hK1 _ _ (sg S (.ac rfl <| .z) fun a w S => wp_ret (st_ret S (results1 S results80 (Rv.tmp rfl)) ?_))))))))
    exact ⟨by rw [← hno]; rfl, S.wd.below⟩
theorem x31 (w0 : World) (v : Value) (l : List Dot) (f : FuncId) (cs : List Value) (p : Dot → Bool) (hf : ∀ args w, (callFunc f args).run Tryz.prog w = .ok (.enter f args) w) (hr : ReadsV Dot.enc w0 f cs l p) (h : Sl Dot.enc 3 w0 w0.heap.size v l) :
    Calls Tryz.prog 31 #[v, .func (.func f) #[] cs.toArray] w0 fun e w' => e = .returned (.bool (l.any p)) ∧ Bel w0.heap.size w0 w' := by
  have hs := h
  obtain ⟨A, cap, rfl, hl, hcap, hA⟩ := h
  refine enter2 func31 rfl ntmps31 rfl fun a S => sg S (.ac rfl <| .z) fun a w S => wp_seq_k fun _ hK1 => wp_region_lit (run S (.mv rfl <| .mv rfl <| .z) fun a w S => st_y S (ys_call call80 (.cons (.t rfl) (.cons (.t rfl) .nil)) (fun _ w' W' => x80 w' _ l f cs p hf (fun w'' W'' => hr w'' ((W'.sub (List.nil_sublist _)).step W''.below)) (Sl.old W' hs))) rfl ?_)
  clear S a w
  intro a w S
  refine run S (.yy (ys_geq (.t rfl) Ev.c) rfl <| .as rfl <| .z) fun a w S => st_nil (then_normal (hK1 _ _ (wp_ret (st_ret S (results1 S results31 (Rv.tmp rfl)) ?_))))
  exact ⟨by rw [← idxW_any p l 0], S.wd.below⟩
end Go.Proofs.YtakpdbmdfnialaaGreat
set_option linter.unusedVariables false
set_option linter.unusedSimpArgs false
set_option maxRecDepth 100000
set_option maxHeartbeats 4000000
namespace Go.Fw
def badG (l : List Cart) : Int := match l.find? (fun c => decide (canE c ≠ 0)) with
  | some c => canE c
  | none => 0
theorem bad_none {l : List Cart} (h : ∀ c ∈ l, canE c = 0) : badG l = 0 := by
  unfold badG
  rw [List.find?_eq_none.2 fun x hx => by rw [h x hx]; simp]
theorem bad_at : ∀ {l : List Cart} {i : Nat} {c : Cart}, (∀ x ∈ l.take i, canE x = 0) → l[i]? = some c → canE c ≠ 0 → badG l = canE c
  | [], i, c, _, h, _ => by simp at h
  | y :: r, 0, c, _, h, hc => by
    simp at h
    subst h
    unfold badG
    rw [List.find?_cons_of_pos (by simpa using hc)]
  | y :: r, i + 1, c, hn, h, hc => by
    have hy := hn y (by simp)
    have ih := bad_at (l := r) (i := i) (c := c) (fun x hx => hn x (by simp [hx])) (by simpa using h) hc
    unfold badG at ih ⊢
    rw [List.find?_cons_of_neg (by simp [hy])]
    exact ih
theorem ready_def (l : List Cart) (p q : Int) : readyG l p q = if mayD ⟨p, q, 1⟩ = false then (⟨0, 0, 0⟩, 1) else if badG l ≠ 0 then (⟨0, 0, 0⟩, badG l) else match l with
    | [] => (⟨0, 0, 0⟩, 200)
    | c :: r => if (r.all fun x => decide (c = x)) = false then (⟨0, 0, 0⟩, 200) else if livesK c p q = true then (⟨0, 0, 0⟩, 201) else if c.ctx.top p q = 0 then (⟨0, 0, 0⟩, 62)
      else if (c.ctx.cloud.any fun d => decide (d.node = p ∧ d.life = q)) = true then (⟨0, 0, 0⟩, 202) else (⟨p, q, c.ctx.top p q⟩, 0) := by
  unfold readyG badG
  by_cases h1 : mayD ⟨p, q, 1⟩ = false
  · rw [if_pos h1, if_pos h1]
  · rw [if_neg h1, if_neg h1]
    cases hf : l.find? (fun c => decide (canE c ≠ 0)) with
    | some c =>
      have := List.find?_some hf
      simp at this
      simp [this]
    | none =>
      dsimp only
      rw [if_neg (fun h => h rfl)]
      all_goals (cases l <;> rfl)
end Go.Fw
namespace Go.Proofs.YtakpdbmdfnialaaGreat
open Go.Fw Go.Proofs Go.RowKit Go.Proofs.Tryz
theorem c88 (w0 : World) (f : Nat) (cs : Array Value) (e : Int) : Rets Tryz.prog 88 #[.func (.func f) #[] cs, .int .i64 e] w0 fun u L => ∃ g, u = .agg #[.func (.func f) #[] cs, .func (.func 149) #[] #[.pointer (some ⟨g, 0, none⟩)]] ∧ L = [.blk g (.cells #[.int .i64 e] 40)] := by
  unfold Go.Fw.Rets
  refine enter2 func88 rfl ntmps88 rfl fun a S => wp_seq_k fun _ hK1 => wp_region_lit (st_m (op_box1 S (.t rfl) rfl rfl fun g1 a w S => st_m (op_alloc S zeroValue134 (cs := _) rfl rfl fun g2 a w S => st_nil (then_normal (hK1 _ _ (wp_seq_k fun _ hK1 => wp_region_lit (run S (.mv rfl <| .yy (ys_mkFunc (.cons (.t rfl) .nil)) rfl <| .yy (ys_bld (ps := [(0, Go.Operand.tmp 5), (1, Go.Operand.tmp 6)]) (us := [_, _]) bld134 (.cons (.t rfl) (.cons (.t rfl) .nil)) rfl) rfl <| .z) fun a w S => st_m (op_stW S sizeOf134 (.t rfl) (.t rfl) (k := 0) rfl rfl rfl (by simp [Value.oneCell']) fun a w S => st_nil (then_normal (hK1 _ _ (wp_ret (st_ret S (results1 S results88 (Rv.cell (k := 0) ⟨isAgg134, sizeOf134⟩ rfl rfl rfl)) ?_))))))))))))
  exact ⟨_, _, rfl, S.wd.pk, _, rfl, rfl⟩
theorem c149 (w0 : World) (g : Nat) (e : Int) (h : w0.cell? ⟨g, 0, none⟩ = some (.int .i64 e)) : Calls Tryz.prog 149 #[.pointer (some ⟨g, 0, none⟩)] w0 fun u w' => u = .returned (.int .i64 e) ∧ Bel w0.heap.size w0 w' := by
  refine enter1 func149 rfl ntmps149 rfl fun a S => sg S (.ac rfl <| .z) fun a w S => sg S (.yy (ys_ldO ⟨isAgg40, sizeOf40⟩ (.t rfl) (fun _ => h)) rfl <| .as rfl <| .z) fun a w S => wp_ret (st_ret S (results1 S results149 (Rv.tmp rfl)) ?_)
  exact ⟨rfl, S.wd.below⟩
theorem c89 (w0 : World) (g : Nat) (p q : Int) (h0 : w0.cell? ⟨g, 0, none⟩ = some (.int .i64 p)) (h1 : w0.cell? ⟨g, 1, none⟩ = some (.int .i64 q)) :
    Calls Tryz.prog 89 #[.pointer (some ⟨g, 0, none⟩)] w0 fun u w' => u = .returned (.bool (mayD ⟨p, q, 1⟩)) ∧ Bel w0.heap.size w0 w' := by
  refine enter1 func89 rfl ntmps89 rfl fun a S => sg S (.ac rfl <| .z) fun a w S => sg S (.fa underlying66 sizeOf3 0 rfl rfl rfl <| .yy (ys_ldO ⟨isAgg3, sizeOf3⟩ (.t rfl) (fun _ => h0)) rfl <| .fa underlying66 sizeOf3 1 rfl rfl rfl <| .yy (ys_ldO ⟨isAgg3, sizeOf3⟩ (.t rfl) (fun _ => h1)) rfl <| .yy (ys_bld (ps := [(0, Go.Operand.tmp 3), (1, Go.Operand.tmp 5), (2, _)]) (us := [_, _, _]) bld30 (.cons (.t rfl) (.cons (.t rfl) (.cons Ev.c .nil))) rfl) rfl <| .xx (ys_call call56 (.cons (.t rfl) .nil) (fun hp w W => c56 _ _ _ _)) rfl <| .as rfl <| .z) fun a w S => wp_ret (st_ret S (results1 S results89 (Rv.tmp rfl)) ?_)
  exact ⟨rfl, S.wd.below⟩
theorem c91 (w0 : World) (g : Nat) (e : Int) (h : w0.cell? ⟨g, 0, none⟩ = some (.int .i64 e)) : Calls Tryz.prog 91 #[.pointer (some ⟨g, 0, none⟩)] w0 fun u w' => u = .returned (.int .i64 e) ∧ Bel w0.heap.size w0 w' := by
  refine enter1 func91 rfl ntmps91 rfl fun a S => sg S (.ac rfl <| .z) fun a w S => sg S (.yy (ys_ldO ⟨isAgg40, sizeOf40⟩ (.t rfl) (fun _ => h)) rfl <| .as rfl <| .z) fun a w S => wp_ret (st_ret S (results1 S results91 (Rv.tmp rfl)) ?_)
  exact ⟨rfl, S.wd.below⟩
theorem c90 {w0 w : World} {L : List Chunk} {g1 g4 : Nat} {v : Value} {l : List SCart} (W : Wd w0 (.blk g1 (.cells #[v] 64) :: .blk g4 (.cells #[.int .i64 0] 40) :: L) w) (h : Sl SCart.enc 3 w0 w0.heap.size v l) (hc : CartsRd w0 l) :
    RetsO Tryz.prog 90 #[.pointer (some ⟨g1, 0, none⟩), .pointer (some ⟨g4, 0, none⟩)] w0 w fun u L' => u = .bool (decide (badG (l.map (·.1)) = 0)) ∧ L' = .blk g1 (.cells #[v] 64) :: .blk g4 (.cells #[.int .i64 (badG (l.map (·.1)))] 40) :: L := by
  obtain ⟨A, cap, rfl, hl, hcap, hA⟩ := id h
  unfold Go.Fw.RetsO
  refine enterW2 W func90 rfl ntmps90 rfl fun a S => sg S (.ac rfl <| .z) fun a w S => wp_seq_k fun _ hK1 => sg S (.ld gt64 0 rfl rfl rfl <| .ln underlying64 rfl <| .mc rfl <| .z) fun a w S => wp_block ?_
  refine st_lpM S [2, 7] (X := Nat) (fun i => [(2, true, .bool false), (7, true, .int .i64 (i : Int))]) (fun _ => .blk g1 (.cells #[.slice A l.length cap] 64) :: .blk g4 (.cells #[.int .i64 0] 40) :: L) (fun i => i ≤ l.length ∧ ∀ x ∈ (l.map (·.1)).take i, canE x = 0) (fun i => l.length - i) 0 ⟨Nat.zero_le _, by simp⟩ ?_
  clear S
  rintro i a w ⟨hi, hno⟩ S
  by_cases hlt : i < l.length
  · obtain ⟨gq, oq, x, rfl, hx, hd, hcx⟩ := row_at hA hlt
    have r1 := (hc x (List.mem_of_getElem? hx)).ents
    have r2 := (hc x (List.mem_of_getElem? hx)).ctx
    have e1 : (l.map (·.1))[i]? = some x.1 := by rw [List.getElem?_map, hx]; rfl
    by_cases he : canE x.1 = 0
    · have rw_e := he
      refine sg S (.lt (by omega) rfl rfl <| .z) fun a w S => wp_seq_k fun _ hK2 => st_then S (.t rfl) (wp_skip (then_normal (hK2 _ _ (wp_seq_k fun _ hK2 => wp_block (wp_seq_k fun _ hK3 => wp_region_lit (run S (.ix underlying64 sizeOf37 (by omega) rfl rfl <| .yy (ys_ldOA ⟨isAgg37, sizeOf37⟩ (.t rfl) (vs := [_, _, _]) rfl (fun _ => hcx)) rfl <| .z) fun a w S => st_m (op_alloc S zeroValue37 (cs := _) rfl rfl fun g2 a w S => st_m (op_stW S sizeOf37 (.t rfl) (.t rfl) (k := 0) rfl rfl rfl (by simp [Value.oneCell']) fun a w S => st_nil (then_normal (hK3 _ _ (wp_seq_k fun _ hK3 => wp_region_lit (run S (.la gt37 0 rfl rfl rfl <| .xx (ys_call call66 (.cons (.t rfl) .nil) (fun hp w W => c66 _ _ _ _ _ (by exact .old W (by assumption)) (by exact .old W (by assumption)))) rfl <| .z) fun a w S => ?_))))))))))))
      rw [rw_e] at S
      refine st_m (op_st S sizeOf40 (.t rfl) (.t rfl) (k := 2) rfl rfl (by simp) fun a w S => st_nil (then_normal (hK3 _ _ (sg S (.ld gt40 2 rfl rfl rfl <| .yy (ys_F (by omega) (ys_neq (.t rfl) Ev.c)) rfl <| .z) fun a w S => st_else S (.t rfl) (wp_skip (in_normal (then_normal (hK2 _ _ (wp_region_lit (run S (.ad (by unfold I64; omega) rfl <| .mv rfl <| .z) fun a w S => st_nil (then_normal ?_)))))))))))
      refine ⟨i + 1, ⟨by omega, fun y hy => ?_⟩, by omega, S.pk⟩
      rw [List.take_add_one, e1, Option.toList_some, List.mem_append, List.mem_singleton] at hy
      rcases hy with hy | rfl
      · exact hno y hy
      · exact he
    · have rw_e : decide (canE x.1 = 0) = false := decide_eq_false he
      have eb := bad_at hno e1 he
      refine sg S (.lt (by omega) rfl rfl <| .z) fun a w S => wp_seq_k fun _ hK2 => st_then S (.t rfl) (wp_skip (then_normal (hK2 _ _ (wp_seq_k fun _ hK2 => wp_block (wp_seq_k fun _ hK3 => wp_region_lit (run S (.ix underlying64 sizeOf37 (by omega) rfl rfl <| .yy (ys_ldOA ⟨isAgg37, sizeOf37⟩ (.t rfl) (vs := [_, _, _]) rfl (fun _ => hcx)) rfl <| .z) fun a w S => st_m (op_alloc S zeroValue37 (cs := _) rfl rfl fun g2 a w S => st_m (op_stW S sizeOf37 (.t rfl) (.t rfl) (k := 0) rfl rfl rfl (by simp [Value.oneCell']) fun a w S => st_nil (then_normal (hK3 _ _ (wp_seq_k fun _ hK3 => wp_region_lit (run S (.la gt37 0 rfl rfl rfl <| .xx (ys_call call66 (.cons (.t rfl) .nil) (fun hp w W => c66 _ _ _ _ _ (by exact .old W (by assumption)) (by exact .old W (by assumption)))) rfl <| .z) fun a w S => st_m (op_st S sizeOf40 (.t rfl) (.t rfl) (k := 2) rfl rfl (by simp) fun a w S => st_nil (then_normal (hK3 _ _ (sg S (.ld gt40 2 rfl rfl rfl <| .yy (ys_T (by omega) (ys_neq (.t rfl) Ev.c)) rfl <| .z) fun a w S => st_then S (.t rfl) (sg S (.ac rfl <| .z) fun a w S => wp_ret (in_ret (then_ret (then_ret (in_ret (then_ret (st_ret S (results1 S results90 (Rv.tmp rfl)) ?_)))))))))))))))))))))))
      rw [eb, decide_eq_false he]
      exact ⟨_, _, rfl, S.wd.pk, rfl, rfl⟩
  obtain rfl : i = l.length := by omega
  have eb : badG (l.map (·.1)) = 0 := bad_none fun c hc' => hno c (by rw [List.take_of_length_le (by simp)]; exact hc')
  refine sg S (.ge (by omega) rfl rfl <| .z) fun a w S => wp_seq_k fun _ hK2 => st_else S (.t rfl) (wp_exit (then_exit (then_exit (in_here (then_normal (hK1 _ _ (sg S (.ac rfl <| .z) fun a w S => wp_ret (st_ret S (results1 S results90 (Rv.tmp rfl)) ?_))))))))
  rw [eb]
  exact ⟨_, _, rfl, S.wd.pk, rfl, rfl⟩
theorem c94 (w0 : World) (g : Nat) (v : Value) (c x : SCart) (r : List SCart) (h0 : w0.cell? ⟨g, 0, none⟩ = some v) (h : Sl SCart.enc 3 w0 w0.heap.size v (c :: r)) (hc : CartRd w0 c.1 c.2) (hx : CartRd w0 x.1 x.2) :
    Calls Tryz.prog 94 #[.agg (SCart.enc x).toArray, .pointer (some ⟨g, 0, none⟩)] w0 fun u w' => u = .returned (.bool (!decide (x.1 = c.1))) ∧ Bel w0.heap.size w0 w' := by
  obtain ⟨A, cap, rfl, hl, hcap, hA⟩ := id h
  have r1 := hc.ents
  have r2 := hc.ctx
  have r3 := hx.ents
  have r4 := hx.ctx
  obtain ⟨gq, oq, y, rfl, hy, hd, hcc⟩ := row_at hA (show 0 < (c :: r).length by simp)
  obtain rfl : c = y := by simpa using hy
  have hlen : 0 < (c :: r).length := by simp
  refine enter2 func94 rfl ntmps94 rfl fun a S => wp_seq_k fun _ hK1 => wp_region_lit (st_m (op_box S (.t rfl) rfl fun g1 a w S => run S (.ac rfl <| .z) fun a w S => st_nil (then_normal (hK1 _ _ (wp_seq_k fun _ hK1 => st_quiet S (by kernel_rfl) (by kernel_rfl) fun a S => qrun S (.la gt37 0 rfl rfl rfl <| .yy (ys_ldO ⟨isAgg64, sizeOf64⟩ (.t rfl) (fun _ => h0)) rfl <| .yy (ys_ixS (j := 0) underlying64 sizeOf37 (.t rfl) Ev.c (fun _ => by omega)) rfl <| .yy (ys_ldOA ⟨isAgg37, sizeOf37⟩ (.t rfl) (vs := [_, _, _]) rfl (fun _ => hcc)) rfl <| .xx (ys_call call95 (.cons (.t rfl) (.cons (.t rfl) .nil)) (fun hp w W => c95 _ _ _ _ _ _ _ _ _ (by exact .old W (by assumption)) (by exact .old W (by assumption)) (by exact .old W (by assumption)) (by exact .old W (by assumption)))) rfl <| .nt rfl <| .as rfl <| .z) fun a S => ?_)))))
  (refine q_nil ?_; intro w W; replace S := St.mk S W; clear W)
  refine then_normal (hK1 _ _ (wp_ret (st_ret S (results1 S results94 (Rv.tmp rfl)) ?_)))
  exact ⟨rfl, S.wd.below⟩
theorem c96 (w0 : World) (g1 g2 : Nat) (v : Value) (c : SCart) (r : List SCart) (p q : Int) (h0 : w0.cell? ⟨g1, 0, none⟩ = some v) (h1 : w0.cell? ⟨g2, 0, none⟩ = some (.int .i64 p)) (h2 : w0.cell? ⟨g2, 1, none⟩ = some (.int .i64 q)) (h : Sl SCart.enc 3 w0 w0.heap.size v (c :: r)) (hc : CartRd w0 c.1 c.2) :
    Calls Tryz.prog 96 #[.pointer (some ⟨g1, 0, none⟩), .pointer (some ⟨g2, 0, none⟩)] w0 fun u w' => u = .returned (.bool (!livesK c.1 p q)) ∧ Bel w0.heap.size w0 w' := by
  obtain ⟨A, cap, rfl, hl, hcap, hA⟩ := id h
  have r1 := hc.ents
  have r2 := hc.ctx
  obtain ⟨gq, oq, y, rfl, hy, hd, hcc⟩ := row_at hA (show 0 < (c :: r).length by simp)
  obtain rfl : c = y := by simpa using hy
  have hlen : 0 < (c :: r).length := by simp
  have hact : ∀ j u, [Value.int .i64 p, .int .i64 q][j]? = some u → w0.cell? ⟨g2, 0 + j, none⟩ = some u := fun j u h => by
    rw [Nat.zero_add]
    match j, h with
    | 0, h => cases h; exact h1
    | 1, h => cases h; exact h2
    | j + 2, h => simp at h
  refine enter2 func96 rfl ntmps96 rfl fun a S => sg S (.ac rfl <| .z) fun a w S => wp_seq_k fun _ hK1 => st_quiet S (by kernel_rfl) (by kernel_rfl) fun a S => qrun S (.yy (ys_ldO ⟨isAgg64, sizeOf64⟩ (.t rfl) (fun _ => h0)) rfl <| .yy (ys_ixS (j := 0) underlying64 sizeOf37 (.t rfl) Ev.c (fun _ => by omega)) rfl <| .yy (ys_ldOA ⟨isAgg37, sizeOf37⟩ (.t rfl) (vs := [_, _, _]) rfl (fun _ => hcc)) rfl <| .yy (ys_ldOA ⟨isAgg66, sizeOf66⟩ (.t rfl) (vs := [_, _]) rfl (fun _ => hact)) rfl <| .xx (ys_call call97 (.cons (.t rfl) (.cons (.t rfl) .nil)) (fun hp w W => c97 _ _ _ _ _ _ _ _ _ _ _ (by exact .old W (by assumption)))) rfl <| .nt rfl <| .as rfl <| .z) fun a S => ?_
  (refine q_nil ?_; intro w W; replace S := St.mk S W; clear W)
  refine then_normal (hK1 _ _ (wp_ret (st_ret S (results1 S results96 (Rv.tmp rfl)) ?_)))
  exact ⟨rfl, S.wd.below⟩
theorem c99 (w0 : World) (g1 g5 : Nat) (v : Value) (c : SCart) (r : List SCart) (p q n : Int) (h0 : w0.cell? ⟨g1, 0, none⟩ = some v) (h1 : w0.cell? ⟨g5, 0, none⟩ = some (.int .i64 p)) (h2 : w0.cell? ⟨g5, 1, none⟩ = some (.int .i64 q)) (h3 : w0.cell? ⟨g5, 2, none⟩ = some (.int .i64 n)) (h : Sl SCart.enc 3 w0 w0.heap.size v (c :: r)) (hc : CartRd w0 c.1 c.2) :
    Calls Tryz.prog 99 #[.pointer (some ⟨g1, 0, none⟩), .pointer (some ⟨g5, 0, none⟩)] w0 fun u w' => u = .returned (.bool (decide ((⟨p, q, n⟩ : Dot) ∈ c.1.ctx.marks))) ∧ Bel w0.heap.size w0 w' := by
  obtain ⟨A, cap, rfl, hl, hcap, hA⟩ := id h
  have r1 := hc.marks
  obtain ⟨gq, oq, y, rfl, hy, hd, hcc⟩ := row_at hA (show 0 < (c :: r).length by simp)
  obtain rfl : c = y := by simpa using hy
  have hlen : 0 < (c :: r).length := by simp
  have hctx : ∀ j u, [Value.slice c.2.a2 c.2.n2 c.2.c2, .slice c.2.a3 c.2.n3 c.2.c3][j]? = some u → w0.cell? ⟨gq, oq + 0 * 3 + 1 + j, none⟩ = some u := fun j u h => by
    have := hcc (j + 1) u (by simpa [SCart.enc] using h)
    rw [show oq + 0 * 3 + 1 + j = oq + 0 * 3 + (j + 1) by omega]
    exact this
  have hmk : w0.cell? ⟨gq, oq + 0 * 3 + 1 + 0, none⟩ = some (.slice c.2.a2 c.2.n2 c.2.c2) := hctx 0 _ rfl
  have hm3 : ∀ j u, [Value.int .i64 p, .int .i64 q, .int .i64 n][j]? = some u → w0.cell? ⟨g5, 0 + j, none⟩ = some u := fun j u h => by
    rw [Nat.zero_add]
    match j, h with
    | 0, h => cases h; exact h1
    | 1, h => cases h; exact h2
    | 2, h => cases h; exact h3
    | j + 3, h => simp at h
  refine enter2 func99 rfl ntmps99 rfl fun a S => sg S (.ac rfl <| .z) fun a w S => wp_seq_k fun _ hK1 => st_quiet S (by kernel_rfl) (by kernel_rfl) fun a S => qrun S (.yy (ys_ldO ⟨isAgg64, sizeOf64⟩ (.t rfl) (fun _ => h0)) rfl <| .yy (ys_ixS (j := 0) underlying64 sizeOf37 (.t rfl) Ev.c (fun _ => by omega)) rfl <| .yy (ys_field (FieldT.mk underlying37 rfl sizeOf35 rfl) (.t rfl)) rfl <| .yy (ys_field (FieldT.mk underlying35 rfl sizeOf32 rfl) (.t rfl)) rfl <| .yy (ys_ldO ⟨isAgg32, sizeOf32⟩ (.t rfl) (fun _ => hctx _ _ rfl)) rfl <| .yy (ys_ldOA ⟨isAgg30, sizeOf30⟩ (.t rfl) (vs := [_, _, _]) rfl (fun _ => hm3)) rfl <| .xx (ys_call call100 (.cons (.t rfl) (.cons (.t rfl) .nil)) (fun hp w W => c100 _ _ _ _ _ _ (by exact .old W (by assumption)))) rfl <| .as rfl <| .z) fun a S => ?_
  (refine q_nil ?_; intro w W; replace S := St.mk S W; clear W)
  refine then_normal (hK1 _ _ (wp_ret (st_ret S (results1 S results99 (Rv.tmp rfl)) ?_)))
  exact ⟨rfl, S.wd.below⟩
theorem c98 {w0 w : World} {L : List Chunk} {g1 g2 g5 : Nat} {v : Value} {c : SCart} {r : List SCart} {p q n : Int} (W : Wd w0 (.blk g1 (.cells #[v] 64) :: .blk g2 (.cells #[.int .i64 p, .int .i64 q] 66) :: .blk g5 (.cells #[.int .i64 p, .int .i64 q, .int .i64 n] 30) :: L) w) (h : Sl SCart.enc 3 w0 w0.heap.size v (c :: r)) (hc : CartRd w0 c.1 c.2) :
    RetsO Tryz.prog 98 #[.pointer (some ⟨g1, 0, none⟩), .pointer (some ⟨g2, 0, none⟩), .pointer (some ⟨g5, 0, none⟩)] w0 w fun u L' => u = .bool (decide (0 < c.1.ctx.top p q)) ∧ L' = .blk g1 (.cells #[v] 64) :: .blk g2 (.cells #[.int .i64 p, .int .i64 q] 66) :: .blk g5 (.cells #[.int .i64 p, .int .i64 q, .int .i64 (c.1.ctx.top p q)] 30) :: L := by
  obtain ⟨A, cap, rfl, hl, hcap, hA⟩ := id h
  have r1 := hc.ents
  have r2 := hc.ctx
  obtain ⟨gq, oq, y, rfl, hy, hd, hcc⟩ := row_at hA (show 0 < (c :: r).length by simp)
  obtain rfl : c = y := by simpa using hy
  have hlen : 0 < (c :: r).length := by simp
  have hctx : ∀ j u, [Value.slice c.2.a2 c.2.n2 c.2.c2, .slice c.2.a3 c.2.n3 c.2.c3][j]? = some u → w0.cell? ⟨gq, oq + 0 * 3 + 1 + j, none⟩ = some u := fun j u h => by
    have := hcc (j + 1) u (by simpa [SCart.enc] using h)
    rw [show oq + 0 * 3 + 1 + j = oq + 0 * 3 + (j + 1) by omega]
    exact this
  have hmk : w0.cell? ⟨gq, oq + 0 * 3 + 1 + 0, none⟩ = some (.slice c.2.a2 c.2.n2 c.2.c2) := hctx 0 _ rfl
  unfold Go.Fw.RetsO
  refine enterW3 W Tryz.func98 rfl Tryz.ntmps98 rfl fun a S => ?_
  refine wp_seq_k fun _ hK1 => ?_
  refine wp_region_lit ?_
  (refine st_y S (Yr.ys (ys_assign Ev.c)) rfl ?_; clear S a; intro a w S)
  refine st_nil ?_
  (refine (then_normal (hK1 _ _ ?_)); clear hK1)
  refine wp_seq_k fun _ hK1 => ?_
  (refine h_beginE S (by kernel_rfl) 2 ?_; clear S a w; intro a w S)
  (refine h_y (i := 0) S (by repeat (first | exact List.Sublist.refl _ | exact List.nil_sublist _ | refine .cons_cons _ ?_ | refine .cons _ ?_)) rfl (by kernel_rfl) (by kernel_rfl) (by kernel_rfl) (fun _ _ _ _ h => h) (ys_ld ⟨Tryz.isAgg64, Tryz.sizeOf64⟩ (Ev.t rfl) (k := 0) rfl rfl) rfl ?_; clear S a w; intro a w S)
  (refine h_y (i := 1) S (by repeat (first | exact List.Sublist.refl _ | exact List.nil_sublist _ | refine .cons_cons _ ?_ | refine .cons _ ?_)) rfl (by kernel_rfl) (by kernel_rfl) (by kernel_rfl) (fun _ _ _ _ h => h) (ys_ixS (j := 0) Tryz.underlying64 Tryz.sizeOf37 (Ev.t rfl) Ev.c (fun _ => by omega)) rfl ?_; clear S a w; intro a w S)
  (refine h_y (i := 2) S (by repeat (first | exact List.Sublist.refl _ | exact List.nil_sublist _ | refine .cons_cons _ ?_ | refine .cons _ ?_)) rfl (by kernel_rfl) (by kernel_rfl) (by kernel_rfl) (fun _ _ _ _ h => h) (ys_field (FieldT.mk Tryz.underlying37 rfl Tryz.sizeOf35 rfl) (Ev.t rfl)) rfl ?_; clear S a w; intro a w S)
  (refine h_y (i := 3) S (by repeat (first | exact List.Sublist.refl _ | exact List.nil_sublist _ | refine .cons_cons _ ?_ | refine .cons _ ?_)) rfl (by kernel_rfl) (by kernel_rfl) (by kernel_rfl) (fun _ _ _ _ h => h) (ys_ldOA ⟨Tryz.isAgg35, Tryz.sizeOf35⟩ (Ev.t rfl) (vs := [_, _]) rfl (fun _ => hctx)) rfl ?_; clear S a w; intro a w S)
  (refine h_y (i := 4) S (by repeat (first | exact List.Sublist.refl _ | exact List.nil_sublist _ | refine .cons_cons _ ?_ | refine .cons _ ?_)) rfl (by kernel_rfl) (by kernel_rfl) (by kernel_rfl) (fun _ _ _ _ h => h) (ys_ldA ⟨Tryz.isAgg66, Tryz.sizeOf66⟩ (Ev.t rfl) (k := 1) rfl rfl) rfl ?_; clear S a w; intro a w S)
  (refine h_q (i := 5) S (by repeat (first | exact List.Sublist.refl _ | exact List.nil_sublist _ | refine .cons_cons _ ?_ | refine .cons _ ?_)) rfl (by kernel_rfl) (ys_call Tryz.call67 (EvL.cons (Ev.t rfl) (EvL.cons (Ev.t rfl) EvL.nil)) (fun hp w W => c67 _ _ _ _ _ _ (by exact .old W (by assumption)))) rfl ?_; clear S a w; intro a w S)
  (refine h_y (i := 6) S (by repeat (first | exact List.Sublist.refl _ | exact List.nil_sublist _ | refine .cons_cons _ ?_ | refine .cons _ ?_)) rfl (by kernel_rfl) (by kernel_rfl) (by kernel_rfl) (fun _ _ _ _ h => h) (ys_fieldN (FieldT.mk Tryz.underlying30 rfl Tryz.sizeOf3 rfl) (Ev.t rfl) (i' := 2) rfl) rfl ?_; clear S a w; intro a w S)
  (refine h_m0 (i := 7) rfl (by kernel_rfl) (op_st S Tryz.sizeOf3 (Ev.t rfl) (Ev.t rfl) (k := 2) rfl rfl (by simp) ?_); clear S a w; intro a w S; refine h_on S _ (List.Sublist.refl _) (by repeat (first | exact List.Sublist.refl _ | exact List.nil_sublist _ | refine .cons_cons _ ?_ | refine .cons _ ?_)) ?_)
  refine h_done (by kernel_rfl) ?_
  (refine (then_normal (hK1 _ _ ?_)); clear hK1)
  refine wp_seq_k fun _ hK1 => ?_
  refine wp_region_lit ?_
  (refine st_y S (Yr.ys (ys_fieldN (FieldT.mk Tryz.underlying30 rfl Tryz.sizeOf3 rfl) (Ev.t rfl) (i' := 2) rfl)) rfl ?_; clear S a w; intro a w S)
  (refine st_y S (Yr.ys (ys_ld ⟨Tryz.isAgg3, Tryz.sizeOf3⟩ (Ev.t rfl) (k := 2) rfl rfl)) rfl ?_; clear S a w; intro a w S)
  (refine st_y S (Yr.ys (ys_gtr (Ev.t rfl) Ev.c)) rfl ?_; clear S a w; intro a w S)
  (refine st_y S (Yr.ys (ys_assign (Ev.t rfl))) rfl ?_; clear S a w; intro a w S)
  refine st_nil ?_
  (refine (then_normal (hK1 _ _ ?_)); clear hK1)
  refine wp_ret ?_
  refine st_ret S (results1 S Tryz.results98 (Rv.tmp rfl)) ?_
  exact ⟨_, _, rfl, S.wd.picks (by repeat (first | exact Picks.nil | (refine Picks.rest ?_; (repeat (first | exact List.Sublist.refl _ | refine List.Sublist.cons_cons _ ?_ | refine List.Sublist.cons _ ?_)); done) | refine Picks.take 0 rfl ?_ | refine Picks.take 1 rfl ?_ | refine Picks.take 2 rfl ?_ | refine Picks.take 3 rfl ?_ | refine Picks.take 4 rfl ?_ | refine Picks.take 5 rfl ?_ | refine Picks.take 6 rfl ?_ | refine Picks.take 7 rfl ?_ | refine Picks.take 8 rfl ?_ | refine Picks.take 9 rfl ?_ | refine Picks.take 10 rfl ?_ | refine Picks.take 11 rfl ?_)), rfl, rfl⟩
end Go.Proofs.YtakpdbmdfnialaaGreat
