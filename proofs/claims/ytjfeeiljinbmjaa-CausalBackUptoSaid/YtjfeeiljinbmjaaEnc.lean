/- Contexts as bytes, the document's words: plain. Of no program. -/
import Derived.Test.YtjfeeiljinbmjaaLat
import Derived.Test.YtjfeeiljinbmjaaNum
set_option linter.unusedVariables false
set_option linter.unusedSimpArgs false
namespace Go.Fw
open Go.RowKit

def dotB (b : List UInt8) (d : Dot) : List UInt8 := putL (putL (putL b d.node) d.life) d.count
def dotsB (b : List UInt8) (l : List Dot) : List UInt8 := l.foldl dotB (putL b (l.length : Int))
def encC (b : List UInt8) (C : Ctx) : List UInt8 := dotsB (dotsB b C.marks) C.cloud
theorem dotB_len {b : List UInt8} {d : Dot} (h : mayD d = true) : (dotB b d).length ≤ b.length + 27 := by
  have hl := may_lim h
  have h1 := putL_len b (n := d.node) (by omega)
  have h2 := putL_len (putL b d.node) (n := d.life) (by omega)
  have h3 := putL_len (putL (putL b d.node) d.life) (n := d.count) (by omega)
  unfold dotB
  omega
theorem dotF_len : ∀ {l : List Dot} {b : List UInt8}, (∀ x ∈ l, mayD x = true) → (l.foldl dotB b).length ≤ b.length + 27 * l.length
  | [], b, _ => by simp
  | d :: r, b, h => by
    have h1 := dotB_len (b := b) (h d (by simp))
    have h2 := dotF_len (l := r) (b := dotB b d) fun x hx => h x (by simp [hx])
    rw [List.foldl_cons, List.length_cons]
    omega
theorem dotF_take {l : List Dot} {b : List UInt8} {k : Nat} {m : Dot} (hm : l[k]? = some m) : (l.take (k + 1)).foldl dotB b = dotB ((l.take k).foldl dotB b) m := by
  rw [List.take_add_one, hm, List.foldl_append]; rfl
theorem dotsB_len {l : List Dot} {b : List UInt8} (h : ∀ x ∈ l, mayD x = true) (hl : l.length ≤ 64) : (dotsB b l).length ≤ b.length + 1737 := by
  have h1 := dotF_len (l := l) (b := putL b (l.length : Int)) h
  have h2 := putL_len b (n := (l.length : Int)) (by omega)
  unfold dotsB
  omega
end Go.Fw
