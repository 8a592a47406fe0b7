/- More of the layer: functions that return or panic with a number, and know of the caller's chunks. Of no program. -/
import Derived.Test.YtjfeeiljinbmjaaMore8
import Derived.Test.YtjfeeiljinbmjaaMore6
import Derived.Recover
set_option linter.unusedVariables false
set_option linter.unusedSimpArgs false
namespace Go.Fw
open Go.Proofs Go.RowKit

/-- a panic of a number of the type t -/
abbrev Pan (t : TypeId) (x : Int) : List PanicEntry := [{ v := .iface t (.int .i64 x), recovered := false }]
/-- A call that returns, or panics with a number. -/
def RetsP (P : Program) (f : FuncId) (args : Array Value) (t : TypeId) (w0 w : World) (R : Value → List Chunk → Prop) (E : Int → List Chunk → Prop) : Prop :=
  Calls P f args w fun e w' => (∃ v L, e = .returned v ∧ Wd w0 L w' ∧ R v L) ∨ (∃ x L, e = .panicked (Pan t x) ∧ Wd w0 L w' ∧ E x L)
section
variable {P : Program} {n : Nat} {w0 : World} {K : KL} {L : List Chunk} {ty : TypeId} {pos : String} {aft : Array Edge} {gd : Option (Nat × Bool)} {a : Act} {w : World} {Z : Act → World → Prop} {Q : Exit → Act → World → Prop} {d : Nat} {dst : Option Tmp} {b : Bool}
theorem op_callRP {f : FuncId} {xs : List Operand} {ts : Array TypeId} {vs : List Value} {t : TypeId} {R : Value → List Chunk → Prop} {E : Int → List Chunk → Prop} (S : St n w0 K L a w) (hf : ∀ args w, (callFunc f args).run P w = .ok (.enter f args) w) (hx : EvL n true K xs vs)
    (hc : RetsP P f vs.toArray t w0 w R E) (hd : Nat.blt d n = true) (next : ∀ v L', R v L' → ∀ a w', St n w0 ((d, true, v) :: K) L' a w' → Z a w')
    (bad : ∀ x L', E x L' → ∀ a w', St n w0 K L' a w' → Q (.panic (Pan t x)) a w') : Oper.wp P ⟨some d, .call ⟨.value (.func f), xs.toArray, ts⟩, ty, pos, aft, gd⟩ a w Z Q :=
  op_callP S hf hx hc fun e w' h => by
    rcases h with ⟨v, L', rfl, hw, hr⟩ | ⟨x, L', rfl, hw, he⟩
    · exact .inl ⟨v, rfl, next v L' hr _ _ ⟨S.kn.put hd v, hw⟩⟩
    · exact .inr ⟨_, rfl, bad x L' he _ _ ⟨S.kn, hw⟩⟩
theorem op_callRPV {f : FuncId} {x0 : Operand} {xs : List Operand} {ts : Array TypeId} {vs cs : List Value} {t : TypeId} {R : Value → List Chunk → Prop} {E : Int → List Chunk → Prop} (S : St n w0 K L a w) (h0 : Ev n true K x0 (.func (.func f) #[] cs.toArray)) (hf : ∀ args w, (callFunc f args).run P w = .ok (.enter f args) w) (hx : EvL n true K xs vs)
    (hc : RetsP P f (vs ++ cs).toArray t w0 w R E) (hd : Nat.blt d n = true) (next : ∀ v L', R v L' → ∀ a w', St n w0 ((d, true, v) :: K) L' a w' → Z a w')
    (bad : ∀ x L', E x L' → ∀ a w', St n w0 K L' a w' → Q (.panic (Pan t x)) a w') : Oper.wp P ⟨some d, .call ⟨.value x0, xs.toArray, ts⟩, ty, pos, aft, gd⟩ a w Z Q :=
  op_callPV S h0 hf hx hc fun e w' h => by
    rcases h with ⟨v, L', rfl, hw, hr⟩ | ⟨x, L', rfl, hw, he⟩
    · exact .inl ⟨v, rfl, next v L' hr _ _ ⟨S.kn.put hd v, hw⟩⟩
    · exact .inr ⟨_, rfl, bad x L' he _ _ ⟨S.kn, hw⟩⟩
theorem op_callO0 {f : FuncId} {xs : List Operand} {ts : Array TypeId} {vs : List Value} {R : Value → List Chunk → Prop} (S : St n w0 K L a w) (hf : ∀ args w, (callFunc f args).run P w = .ok (.enter f args) w) (hx : EvL n true K xs vs)
    (hc : RetsO P f vs.toArray w0 w R) (next : ∀ v L', R v L' → ∀ a w', St n w0 K L' a w' → Z a w') : Oper.wp P ⟨none, .call ⟨.value (.func f), xs.toArray, ts⟩, ty, pos, aft, gd⟩ a w Z Q :=
  op_callP S hf hx hc fun e w' ⟨v, L', he, hw, hr⟩ => .inl ⟨v, he, next v L' hr _ _ ⟨S.kn, hw⟩⟩
theorem ys_pNilS {t t' e : TypeId} {x y : Operand} {A : Addr} (ht : P.underlying t = some (.pointer e)) (hx : Ev n b K x (.pointer (some A))) (hy : Ev n b K y (.pointer none)) : Yr P ⟨dst, .binOp .eql t x y t', ty, pos, aft, gd⟩ n K w0 L b (.bool false) := ys_pNil ht hx hy
theorem ys_pNotS {t t' e : TypeId} {x y : Operand} {A : Addr} (ht : P.underlying t = some (.pointer e)) (hx : Ev n b K x (.pointer (some A))) (hy : Ev n b K y (.pointer none)) : Yr P ⟨dst, .binOp .neq t x y t', ty, pos, aft, gd⟩ n K w0 L b (.bool true) := ys_pNot ht hx hy
theorem ys_pNilN {t t' e : TypeId} {x y : Operand} (ht : P.underlying t = some (.pointer e)) (hx : Ev n b K x (.pointer none)) (hy : Ev n b K y (.pointer none)) : Yr P ⟨dst, .binOp .eql t x y t', ty, pos, aft, gd⟩ n K w0 L b (.bool true) := ys_pNil ht hx hy
theorem ys_pNotN {t t' e : TypeId} {x y : Operand} (ht : P.underlying t = some (.pointer e)) (hx : Ev n b K x (.pointer none)) (hy : Ev n b K y (.pointer none)) : Yr P ⟨dst, .binOp .neq t x y t', ty, pos, aft, gd⟩ n K w0 L b (.bool false) := ys_pNot ht hx hy
theorem ys_andF {x y z : Operand} {p : Bool} (hx : Ev n b K x (.bool p)) (hy : Ev n p K y (.bool false)) (hz : Ev n b K z (.bool false)) : Yr P ⟨dst, .pick x y z, ty, pos, aft, gd⟩ n K w0 L b (.bool false) := Yr.of_imp (fun _ => by rw [Bool.and_false]) (ys_and hx hy hz)
theorem ys_andT {x y z : Operand} {p : Bool} (hx : Ev n b K x (.bool p)) (hy : Ev n p K y (.bool true)) (hz : Ev n b K z (.bool false)) : Yr P ⟨dst, .pick x y z, ty, pos, aft, gd⟩ n K w0 L b (.bool p) := Yr.of_imp (fun _ => by rw [Bool.and_true]) (ys_and hx hy hz)
theorem ys_orF {x y z : Operand} {p : Bool} (hx : Ev n b K x (.bool p)) (hy : Ev n b K y (.bool true)) (hz : Ev n (!p) K z (.bool false)) : Yr P ⟨dst, .pick x y z, ty, pos, aft, gd⟩ n K w0 L b (.bool p) := Yr.of_imp (fun _ => by rw [Bool.or_false]) (ys_or hx hy hz)
theorem ys_orT {x y z : Operand} {p : Bool} (hx : Ev n b K x (.bool p)) (hy : Ev n b K y (.bool true)) (hz : Ev n (!p) K z (.bool true)) : Yr P ⟨dst, .pick x y z, ty, pos, aft, gd⟩ n K w0 L b (.bool true) := Yr.of_imp (fun _ => by rw [Bool.or_true]) (ys_or hx hy hz)
theorem ys_and2F {x y z : Operand} {p : Bool} (hx : Ev n b K x (.bool p)) (hy : Ev n (b && p) K y (.bool false)) (hz : Ev n b K z (.bool false)) : Yr P ⟨dst, .pick x y z, ty, pos, aft, gd⟩ n K w0 L b (.bool false) := Yr.of_imp (fun _ => by rw [Bool.and_false]) (ys_and2 hx hy hz)
theorem ys_and2T {x y z : Operand} {p : Bool} (hx : Ev n b K x (.bool p)) (hy : Ev n (b && p) K y (.bool true)) (hz : Ev n b K z (.bool false)) : Yr P ⟨dst, .pick x y z, ty, pos, aft, gd⟩ n K w0 L b (.bool p) := Yr.of_imp (fun _ => by rw [Bool.and_true]) (ys_and2 hx hy hz)
theorem ys_or2F {x y z : Operand} {p : Bool} (hx : Ev n b K x (.bool p)) (hy : Ev n b K y (.bool true)) (hz : Ev n (b && !p) K z (.bool false)) : Yr P ⟨dst, .pick x y z, ty, pos, aft, gd⟩ n K w0 L b (.bool p) := Yr.of_imp (fun _ => by rw [Bool.or_false]) (ys_or2 hx hy hz)
theorem ys_or2T {x y z : Operand} {p : Bool} (hx : Ev n b K x (.bool p)) (hy : Ev n b K y (.bool true)) (hz : Ev n (b && !p) K z (.bool true)) : Yr P ⟨dst, .pick x y z, ty, pos, aft, gd⟩ n K w0 L b (.bool true) := Yr.of_imp (fun _ => by rw [Bool.or_true]) (ys_or2 hx hy hz)
theorem Wd.cellOld (W : Wd w0 L w) {g i : Nat} {v : Value} (h : w0.cell? ⟨g, i, none⟩ = some v) : w.cell? ⟨g, i, none⟩ = some v := (W.below.toBelow.cell (World.block_lt_of_cell? w0 _ h)).trans h
variable {K' : Act → World → Prop} {i : Nat} {ps : List PanicEntry}
theorem then_panic (h : Q (.panic ps) a w) : Exit.then K' Q (.panic ps) a w := h
theorem in_panic (h : Q (.panic ps) a w) : Exit.inBlock i Q (.panic ps) a w := h
theorem jump_panic {l : Nat} {J : Act → World → Prop} (h : Q (.panic ps) a w) : Exit.jump l J Q (.panic ps) a w := h
end
section
variable {P : Program} {f : FuncId} {fn : Func} {c : Code} {R : Ending → World → Prop} {w0 w : World} {L : List Chunk} {v0 v1 v2 v3 v4 v5 v6 v7 v8 : Value}
theorem enterW0 (W : Wd w0 L w) (hf : P.funcs[f]? = some fn) (hb : fn.body = some c) {n : Nat} (hn : fn.ntmps = n) (hsz : Nat.ble 0 n = true)
    (h : ∀ a, St n w0 [] L a w → c.wp P (bodyPost P fn R) a w) : Calls P f #[] w R := enterW (args := []) W hf hb hn hsz h
theorem enterW5 (W : Wd w0 L w) (hf : P.funcs[f]? = some fn) (hb : fn.body = some c) {n : Nat} (hn : fn.ntmps = n) (hsz : Nat.ble 5 n = true)
    (h : ∀ a, St n w0 [(0, true, v0), (1, true, v1), (2, true, v2), (3, true, v3), (4, true, v4)] L a w → c.wp P (bodyPost P fn R) a w) : Calls P f #[v0, v1, v2, v3, v4] w R := enterW (args := [v0, v1, v2, v3, v4]) W hf hb hn hsz h
theorem enterW6 (W : Wd w0 L w) (hf : P.funcs[f]? = some fn) (hb : fn.body = some c) {n : Nat} (hn : fn.ntmps = n) (hsz : Nat.ble 6 n = true)
    (h : ∀ a, St n w0 [(0, true, v0), (1, true, v1), (2, true, v2), (3, true, v3), (4, true, v4), (5, true, v5)] L a w → c.wp P (bodyPost P fn R) a w) : Calls P f #[v0, v1, v2, v3, v4, v5] w R := enterW (args := [v0, v1, v2, v3, v4, v5]) W hf hb hn hsz h
end
/-- What is known but of some slots. -/
def dropK (ms : List Nat) : KL → KL
  | [] => []
  | (i, v) :: r => bif ms.elem i then dropK ms r else (i, v) :: dropK ms r
/-- A loop: the slots ms change from round to round, of which KX tells. -/
theorem st_loopM {P : Program} {Q : Exit → Act → World → Prop} {n : Nat} {w0 : World} {K : KL} {L : List Chunk} {a : Act} {w : World} {c : Code} {X : Type} (S : St n w0 K L a w) (ms : List Nat) (KX : X → KL) (LX : X → List Chunk) (φ : X → Prop) (μ : X → Nat) (x0 : X) (h0 : φ x0)
    (hK : Fits [] K (KX x0 ++ dropK ms K)) (hL : Picks L (LX x0))
    (round : ∀ x a w, φ x → St n w0 (KX x ++ dropK ms K) (LX x) a w → c.wp P (Exit.then (fun a' w' => ∃ x', φ x' ∧ μ x' < μ x ∧ St n w0 (KX x' ++ dropK ms K) (LX x') a' w') Q) a w) : (Code.loop c).wp P Q a w :=
  st_loop (fun x a w => φ x ∧ St n w0 (KX x ++ dropK ms K) (LX x) a w) μ x0 ⟨h0, S.picks hK hL⟩ fun x a w ⟨h1, h2⟩ =>
    wp_mono (round x a w h1 h2) fun e a w h => by
      cases e with
      | normal => obtain ⟨x', h3, h4, h5⟩ := h; exact ⟨x', ⟨h3, h5⟩, h4⟩
      | _ => exact h
theorem Sl.le {w : World} {α : Type} {enc : α → List Value} {size B : Nat} {A : Option Addr} {l : List α} {cap : Nat} (h : Sl enc size w B (.slice A l.length cap) l) : l.length ≤ cap ∧ cap ≤ 9223372036854775807 := by
  obtain ⟨A', cap', hv, h2, h3, h4⟩ := h
  simp only [Value.slice.injEq, true_and] at hv
  obtain ⟨rfl, rfl⟩ := hv
  exact ⟨h2, h3⟩
theorem at_step {α : Type} {l l' : List α} {k : Nat} {m m' : α} (h : l.take k = l'.take k) (hm : l[k]? = some m) (hm' : l'[k]? = some m') (e : m = m') : l.take (k + 1) = l'.take (k + 1) := by
  rw [List.take_add_one, List.take_add_one, hm, hm', h, e]
theorem at_ne {α : Type} [DecidableEq α] {l l' : List α} {k : Nat} {m m' : α} (hm : l[k]? = some m) (hm' : l'[k]? = some m') (e : ¬ m = m') : decide (l = l') = false := by
  rw [decide_eq_false_iff_not]
  intro h
  subst h
  rw [hm] at hm'
  exact e (by simpa using hm')
/-- A part of a list that reads. -/
theorem Sl.sub {w : World} {α : Type} {enc : α → List Value} {size B : Nat} {A : Option Addr} {l : List α} {cap : Nat} (h : Sl enc size w B (.slice A l.length cap) l) (lo hi : Nat) (hlo : lo ≤ hi) (hhi : hi ≤ l.length) :
    Sl enc size w B (.slice (if cap = lo then A else A.map (·.add (lo * size))) (hi - lo) (cap - lo)) ((l.drop lo).take (hi - lo)) := by
  obtain ⟨A', cap', hv, h2, h3, h4⟩ := h
  simp only [Value.slice.injEq, true_and] at hv
  obtain ⟨rfl, rfl⟩ := hv
  have hl : ((l.drop lo).take (hi - lo)).length = hi - lo := by simp; omega
  refine ⟨if cap = lo then A else A.map (·.add (lo * size)), cap - lo, by rw [hl], by rw [hl]; omega, by omega, fun hp => ?_⟩
  rw [hl] at hp
  obtain ⟨g, o, rfl, hg, hc⟩ := h4 (by omega)
  rw [if_neg (by omega)]
  refine ⟨g, o + lo * size, by simp [Addr.add_mid], hg, fun k x hx j u hu => ?_⟩
  rw [List.getElem?_take] at hx
  split at hx
  · rw [List.getElem?_drop] at hx
    have := hc _ x hx j u hu
    rw [Nat.add_mul] at this
    rw [show o + lo * size + k * size + j = o + (lo * size + k * size) + j by omega]
    exact this
  · cases hx
theorem Src.subS {P : Program} {w : World} {α : Type} {enc : α → List Value} {size B : Nat} {A : Option Addr} {l : List α} {cap lo hi c : Nat} (h : Sl enc size w B (.slice A l.length cap) l) (hsz : 0 < size) (he : ∀ x, (enc x).length = size) (h1 : ∀ x, ∀ u ∈ enc x, u.oneCell' = true) (hlo : lo ≤ hi) (hhi : hi ≤ l.length) :
    Src P w size (.slice (if cap = lo then A else A.map (·.add (lo * size))) (hi - lo) c) ((l.drop lo).take (hi - lo)).length (((l.drop lo).take (hi - lo)).flatMap enc) := by
  have hl : ((l.drop lo).take (hi - lo)).length = hi - lo := by simp; omega
  have h' : Sl enc size w B (.slice (if cap = lo then A else A.map (·.add (lo * size))) ((l.drop lo).take (hi - lo)).length (cap - lo)) ((l.drop lo).take (hi - lo)) := by rw [hl]; exact h.sub lo hi hlo hhi
  have := Src.sl (P := P) (c := c) h' hsz he h1
  rw [hl] at this
  rw [hl]
  exact this
theorem Src.sub {P : Program} {α : Type} {enc : α → List Value} {size e cap k lo hi c : Nat} {w w0 : World} {L : List Chunk} {A : Option Addr} {l : List α} (W : Wd w0 L w) (hk : L[k]? = some (rowOf e size enc A cap l)) (hsz : 0 < size) (he : ∀ x, (enc x).length = size) (h1 : ∀ x, ∀ u ∈ enc x, u.oneCell' = true) (hlo : lo ≤ hi) (hhi : hi ≤ l.length) :
    Src P w size (.slice (if cap = lo then A else A.map (·.add (lo * size))) (hi - lo) c) ((l.drop lo).take (hi - lo)).length (((l.drop lo).take (hi - lo)).flatMap enc) :=
  Src.subS (Sl.of_own W hk he) hsz he h1 hlo hhi
/-- A call of f, of which Wd is known, that panics for sure. -/
theorem RetsP.of_bad {P : Program} {f : FuncId} {args : Array Value} {t : TypeId} {w0 w : World} {L : List Chunk} {x : Int} {R : Value → List Chunk → Prop} {E : Int → List Chunk → Prop} (W : Wd w0 L w)
    (h : Calls P f args w fun e w' => e = .panicked (Pan t x) ∧ Bel w.heap.size w w') (hE : E x L) : RetsP P f args t w0 w R E :=
  h.mono fun e w' ⟨he, hb⟩ => .inr ⟨x, L, he, W.step hb, hE⟩
end Go.Fw
