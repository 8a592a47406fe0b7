/- Calls that are handed chunks of the caller's own, and give them back changed. Of no program. -/
import Derived.Test.YtjfeeiljinbmjaaMore
set_option linter.unusedVariables false
set_option linter.unusedSimpArgs false
namespace Go.Fw
open Go.RowKit

/-- A call in the midst of another one, that knows of the caller's chunks: its answer, and the chunks that there are then. -/
def RetsO (P : Program) (f : FuncId) (args : Array Value) (w0 w : World) (R : Value → List Chunk → Prop) : Prop :=
  Calls P f args w fun e w' => ∃ v L, e = .returned v ∧ Wd w0 L w' ∧ R v L

section
variable {P : Program} {f : FuncId} {fn : Func} {c : Code} {R : Ending → World → Prop} {w0 w : World} {L : List Chunk} {v0 v1 v2 v3 v4 v5 v6 v7 v8 : Value}
theorem enterW {args : List Value} (W : Wd w0 L w) (hf : P.funcs[f]? = some fn) (hb : fn.body = some c)
    {n : Nat} (hn : fn.ntmps = n) (hsz : Nat.ble args.length n = true) (h : ∀ a, St n w0 (argsK 0 args) L a w → c.wp P (bodyPost P fn R) a w) : Calls P f args.toArray w R :=
  enterL hf hb hn hsz fun a S => h a ⟨S.kn, W⟩
theorem enterW1 (W : Wd w0 L w) (hf : P.funcs[f]? = some fn) (hb : fn.body = some c) {n : Nat} (hn : fn.ntmps = n) (hsz : Nat.ble 1 n = true)
    (h : ∀ a, St n w0 [(0, true, v0)] L a w → c.wp P (bodyPost P fn R) a w) : Calls P f #[v0] w R := enterW (args := [v0]) W hf hb hn hsz h
theorem enterW2 (W : Wd w0 L w) (hf : P.funcs[f]? = some fn) (hb : fn.body = some c) {n : Nat} (hn : fn.ntmps = n) (hsz : Nat.ble 2 n = true)
    (h : ∀ a, St n w0 [(0, true, v0), (1, true, v1)] L a w → c.wp P (bodyPost P fn R) a w) : Calls P f #[v0, v1] w R := enterW (args := [v0, v1]) W hf hb hn hsz h
theorem enterW3 (W : Wd w0 L w) (hf : P.funcs[f]? = some fn) (hb : fn.body = some c) {n : Nat} (hn : fn.ntmps = n) (hsz : Nat.ble 3 n = true)
    (h : ∀ a, St n w0 [(0, true, v0), (1, true, v1), (2, true, v2)] L a w → c.wp P (bodyPost P fn R) a w) : Calls P f #[v0, v1, v2] w R := enterW (args := [v0, v1, v2]) W hf hb hn hsz h
theorem enterW4 (W : Wd w0 L w) (hf : P.funcs[f]? = some fn) (hb : fn.body = some c) {n : Nat} (hn : fn.ntmps = n) (hsz : Nat.ble 4 n = true)
    (h : ∀ a, St n w0 [(0, true, v0), (1, true, v1), (2, true, v2), (3, true, v3)] L a w → c.wp P (bodyPost P fn R) a w) : Calls P f #[v0, v1, v2, v3] w R := enterW (args := [v0, v1, v2, v3]) W hf hb hn hsz h
end

section
variable {P : Program} {n : Nat} {w0 : World} {K : KL} {L : List Chunk} {ty : TypeId} {pos : String} {aft : Array Edge} {gd : Option (Nat × Bool)} {a : Act} {w : World} {Z : Act → World → Prop} {Q : Exit → Act → World → Prop} {d : Nat} {c c' c'' c3 : Chunk}
theorem op_callO {f : FuncId} {xs : List Operand} {ts : Array TypeId} {vs : List Value} {R : Value → List Chunk → Prop} (S : St n w0 K L a w) (hf : ∀ args w, (callFunc f args).run P w = .ok (.enter f args) w) (hx : EvL n true K xs vs)
    (hc : RetsO P f vs.toArray w0 w R) (hd : Nat.blt d n = true) (next : ∀ v L', R v L' → ∀ a w', St n w0 ((d, true, v) :: K) L' a w' → Z a w') : Oper.wp P ⟨some d, .call ⟨.value (.func f), xs.toArray, ts⟩, ty, pos, aft, gd⟩ a w Z Q :=
  op_call S hf hx hc fun e w' ⟨v, L', he, hw, hr⟩ => ⟨v, he, next v L' hr _ _ ⟨S.kn.put hd v, hw⟩⟩
theorem St.perm (S : St n w0 K L a w) {L' : List Chunk} (h : L.Perm L') : St n w0 K L' a w := ⟨S.kn, S.wd.perm h⟩
theorem St.swap (S : St n w0 K (c :: c' :: L) a w) : St n w0 K (c' :: c :: L) a w := S.perm (.swap _ _ _)
theorem St.swap1 (S : St n w0 K (c :: c' :: c'' :: L) a w) : St n w0 K (c :: c'' :: c' :: L) a w := S.perm (.cons _ (.swap _ _ _))
theorem St.back2 (S : St n w0 K (c :: c' :: c'' :: L) a w) : St n w0 K (c' :: c'' :: c :: L) a w := S.swap.swap1
theorem St.front2 (S : St n w0 K (c :: c' :: c'' :: L) a w) : St n w0 K (c'' :: c :: c' :: L) a w := S.swap1.swap
end
end Go.Fw
