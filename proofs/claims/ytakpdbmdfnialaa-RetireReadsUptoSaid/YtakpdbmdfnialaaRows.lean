/-
  No cell of these rows narrows 'for every input' (looked for: loops, veiled, ifaces, maps, wideKeys, modest, calm, conditions, laid).
  DERIVED. THE GIVEN ROWS OF THIS SEAT. 4 by the template 'for every input the law returns true; each argument reads behind the call as it read before'; 0 by the template 'total and deterministic' (their statements: YtakpdbmdfnialaaTotals.lean).
  GIVEN WITH THE SEED: the statements are not yours to turn. If you find one false, say at which input.
  Laid BY PROGRAM, IN A SANDBOX (cutbox-rows.mjs): the forced cells as the released guide's own fill.sh prints them over the translation 5fa42eb1437e84be… (all of the seat's roots in one cut). By AI agents, Wed Nov 11 2026. No macro, syntax, notation, axiom, sorry.
-/
import Derived.Test.YtakpdbmdfnialaaChecked
import GoSem.Claim
import GoSem.ClaimJoined
import GoSem.ClaimMapViews
import Derived.JoinedTies
import Derived.KernelRfl
namespace Go.Proofs.Ytakpdbmdfnialaa
/- THE CELL 'sum', in the pinned program and in every row, IS THE sha256 OF THE DUMP (.gsa) THAT YtakpdbmdfnialaaProg.lean LOADS. Nothing in Lean hashes anything: it is a label: what it is worth is what the hold of that sum in a sandbox is worth. -/
noncomputable def Try.pinned : Pinned := { name := "ytakpdbmdfnialaa", sum := "5fa42eb1437e84be15ca4464ab4d27e29750dd07af59bc306553279b907f69f3", checked := Try.checked }
namespace Rows
def none {H : Type} : Left H := { results := [], args := [] }

/-- 'trolleylaw20.RetireNone': WHATEVER THE INPUT: true; the input reads as it did. -/
def retireNoneSpec : ChangeSpec := { name := "retireNone", fn := fun _ => fun
  | [d] => { results := [.lit (.bool true)], args := [d] }
  | _ => none }
def retireNoneRow : OpenClaim := { program := "ytakpdbmdfnialaa", sum := "5fa42eb1437e84be15ca4464ab4d27e29750dd07af59bc306553279b907f69f3", func := "trolley/trolleylaw20.RetireNone", spec := "retireNone", inPlace := ["internal/bytealg.IndexByteString", "internal/bytealg.IndexString", "math.Float64frombits", "internal/bytealg.abigen_runtime_cmpstring", "slices.overlaps[trolley/api.Gone]"], unfollowed := true, recurses := true, named := ["internal/bytealg.MaxLen"], apart := false }
def RetireNoneSaid : Prop := retireNoneRow.holds Try.pinned (OpenSpec.ofChange retireNoneSpec)

/-- ITS FALSE NEIGHBOUR: 'it returns false'. Refute it at one input. -/
def retireNoneWrong : ChangeSpec := { name := "retireNone", fn := fun _ => fun
  | [d] => { results := [.lit (.bool false)], args := [d] }
  | _ => none }
def RetireNoneWrongFalsely : Prop := retireNoneRow.holds Try.pinned (OpenSpec.ofChange retireNoneWrong)

/-- 'trolleylaw20.RetireTwice': WHATEVER THE INPUT: true; the input reads as it did. -/
def retireTwiceSpec : ChangeSpec := { name := "retireTwice", fn := fun _ => fun
  | [d1, d2] => { results := [.lit (.bool true)], args := [d1, d2] }
  | _ => none }
def retireTwiceRow : OpenClaim := { program := "ytakpdbmdfnialaa", sum := "5fa42eb1437e84be15ca4464ab4d27e29750dd07af59bc306553279b907f69f3", func := "trolley/trolleylaw20.RetireTwice", spec := "retireTwice", inPlace := ["slices.overlaps[trolley/api.Gone]", "internal/bytealg.IndexByteString", "internal/bytealg.IndexString", "math.Float64frombits", "internal/bytealg.abigen_runtime_cmpstring"], unfollowed := true, recurses := true, named := ["internal/bytealg.MaxLen"], apart := false }
def RetireTwiceSaid : Prop := retireTwiceRow.holds Try.pinned (OpenSpec.ofChange retireTwiceSpec)

/-- ITS FALSE NEIGHBOUR: 'it returns false'. Refute it at one input. -/
def retireTwiceWrong : ChangeSpec := { name := "retireTwice", fn := fun _ => fun
  | [d1, d2] => { results := [.lit (.bool false)], args := [d1, d2] }
  | _ => none }
def RetireTwiceWrongFalsely : Prop := retireTwiceRow.holds Try.pinned (OpenSpec.ofChange retireTwiceWrong)

/-- 'trolleylaw20.RetireReads': WHATEVER THE INPUT: true; the input reads as it did. -/
def retireReadsSpec : ChangeSpec := { name := "retireReads", fn := fun _ => fun
  | [d1, d2] => { results := [.lit (.bool true)], args := [d1, d2] }
  | _ => none }
def retireReadsRow : OpenClaim := { program := "ytakpdbmdfnialaa", sum := "5fa42eb1437e84be15ca4464ab4d27e29750dd07af59bc306553279b907f69f3", func := "trolley/trolleylaw20.RetireReads", spec := "retireReads", inPlace := ["slices.overlaps[trolley/api.Gone]", "internal/bytealg.IndexByteString", "internal/bytealg.IndexString", "math.Float64frombits", "internal/bytealg.abigen_runtime_cmpstring"], unfollowed := true, recurses := true, named := ["internal/bytealg.MaxLen"], apart := false }
def RetireReadsSaid : Prop := retireReadsRow.holds Try.pinned (OpenSpec.ofChange retireReadsSpec)

/-- ITS FALSE NEIGHBOUR: 'it returns false'. Refute it at one input. -/
def retireReadsWrong : ChangeSpec := { name := "retireReads", fn := fun _ => fun
  | [d1, d2] => { results := [.lit (.bool false)], args := [d1, d2] }
  | _ => none }
def RetireReadsWrongFalsely : Prop := retireReadsRow.holds Try.pinned (OpenSpec.ofChange retireReadsWrong)

/-- 'trolleylaw20.RetireSafe': WHATEVER THE INPUT: true; the input reads as it did. -/
def retireSafeSpec : ChangeSpec := { name := "retireSafe", fn := fun _ => fun
  | [d1, d2] => { results := [.lit (.bool true)], args := [d1, d2] }
  | _ => none }
def retireSafeRow : OpenClaim := { program := "ytakpdbmdfnialaa", sum := "5fa42eb1437e84be15ca4464ab4d27e29750dd07af59bc306553279b907f69f3", func := "trolley/trolleylaw20.RetireSafe", spec := "retireSafe", inPlace := ["internal/bytealg.IndexByteString", "internal/bytealg.IndexString", "math.Float64frombits", "internal/bytealg.abigen_runtime_cmpstring", "slices.overlaps[trolley/api.Gone]"], unfollowed := true, recurses := true, named := ["internal/bytealg.MaxLen"], apart := false }
def RetireSafeSaid : Prop := retireSafeRow.holds Try.pinned (OpenSpec.ofChange retireSafeSpec)

/-- ITS FALSE NEIGHBOUR: 'it returns false'. Refute it at one input. -/
def retireSafeWrong : ChangeSpec := { name := "retireSafe", fn := fun _ => fun
  | [d1, d2] => { results := [.lit (.bool false)], args := [d1, d2] }
  | _ => none }
def RetireSafeWrongFalsely : Prop := retireSafeRow.holds Try.pinned (OpenSpec.ofChange retireSafeWrong)

/- THE SECOND FORM. 'bulk': how many values and letters a reading holds, each counted each time it is reached (what is shared counts as often as it is met; a slice's spare places count too). A statement '..UptoSaid' is the law's where the arguments, and the package variables that the reading takes, are together of bulk at most 1048576: NARROWER than '..Said'. Prove '..Said' where nothing that the law and all that it calls make is longer than what came in: it says more and counts as full. Else prove '..UptoSaid'. A law counts once. -/
mutual
def uptoBulk {H : Type} : DataW H → Nat
  | .lit (.string bytes) => bytes.length + 1
  | .lit _ => 1
  | .nil => 1
  | .ptr d => uptoBulk d + 1
  | .slice elems spare => uptoBulkAll elems + uptoBulkAll spare + 1
  | .agg parts => uptoBulkAll parts + 1
  | .iface _ d => uptoBulk d + 1
  | .map entries => uptoBulkEntries entries + 1
  | .held _ => 1
def uptoBulkAll {H : Type} : List (DataW H) → Nat
  | [] => 0
  | d :: r => uptoBulk d + uptoBulkAll r
def uptoBulkEntries {H : Type} : List (Lit × DataW H) → Nat
  | [] => 0
  | x :: r => uptoBulkEntry x + uptoBulkEntries r
def uptoBulkEntry {H : Type} : Lit × DataW H → Nat
  | (.string bytes, d) => bytes.length + uptoBulk d + 1
  | (_, d) => uptoBulk d + 1
 end
def uptoSmall : (H : Type) → List (DataW H) → Bool := fun _ ds => decide (uptoBulkAll ds ≤ 1048576)
def OpenSpec.upto (s : _root_.Go.ChangeSpec) : _root_.Go.OpenSpec := { _root_.Go.OpenSpec.ofChange s with cond := some uptoSmall }

/-- 'trolleylaw20.RetireNone', WHERE WHAT IT READS IS OF BULK AT MOST 1048576: true; the input reads as it did. -/
def retireNoneUptoRow : OpenClaim := { program := "ytakpdbmdfnialaa", sum := "5fa42eb1437e84be15ca4464ab4d27e29750dd07af59bc306553279b907f69f3", func := "trolley/trolleylaw20.RetireNone", spec := "retireNone", inPlace := ["internal/bytealg.IndexByteString", "internal/bytealg.IndexString", "math.Float64frombits", "internal/bytealg.abigen_runtime_cmpstring", "slices.overlaps[trolley/api.Gone]"], unfollowed := true, recurses := true, named := ["internal/bytealg.MaxLen"], apart := false, narrowed := true }
def RetireNoneUptoSaid : Prop := retireNoneUptoRow.holds Try.pinned (OpenSpec.upto retireNoneSpec)

/-- 'trolleylaw20.RetireTwice', WHERE WHAT IT READS IS OF BULK AT MOST 1048576: true; the input reads as it did. -/
def retireTwiceUptoRow : OpenClaim := { program := "ytakpdbmdfnialaa", sum := "5fa42eb1437e84be15ca4464ab4d27e29750dd07af59bc306553279b907f69f3", func := "trolley/trolleylaw20.RetireTwice", spec := "retireTwice", inPlace := ["slices.overlaps[trolley/api.Gone]", "internal/bytealg.IndexByteString", "internal/bytealg.IndexString", "math.Float64frombits", "internal/bytealg.abigen_runtime_cmpstring"], unfollowed := true, recurses := true, named := ["internal/bytealg.MaxLen"], apart := false, narrowed := true }
def RetireTwiceUptoSaid : Prop := retireTwiceUptoRow.holds Try.pinned (OpenSpec.upto retireTwiceSpec)

/-- 'trolleylaw20.RetireReads', WHERE WHAT IT READS IS OF BULK AT MOST 1048576: true; the input reads as it did. -/
def retireReadsUptoRow : OpenClaim := { program := "ytakpdbmdfnialaa", sum := "5fa42eb1437e84be15ca4464ab4d27e29750dd07af59bc306553279b907f69f3", func := "trolley/trolleylaw20.RetireReads", spec := "retireReads", inPlace := ["slices.overlaps[trolley/api.Gone]", "internal/bytealg.IndexByteString", "internal/bytealg.IndexString", "math.Float64frombits", "internal/bytealg.abigen_runtime_cmpstring"], unfollowed := true, recurses := true, named := ["internal/bytealg.MaxLen"], apart := false, narrowed := true }
def RetireReadsUptoSaid : Prop := retireReadsUptoRow.holds Try.pinned (OpenSpec.upto retireReadsSpec)

/-- 'trolleylaw20.RetireSafe', WHERE WHAT IT READS IS OF BULK AT MOST 1048576: true; the input reads as it did. -/
def retireSafeUptoRow : OpenClaim := { program := "ytakpdbmdfnialaa", sum := "5fa42eb1437e84be15ca4464ab4d27e29750dd07af59bc306553279b907f69f3", func := "trolley/trolleylaw20.RetireSafe", spec := "retireSafe", inPlace := ["internal/bytealg.IndexByteString", "internal/bytealg.IndexString", "math.Float64frombits", "internal/bytealg.abigen_runtime_cmpstring", "slices.overlaps[trolley/api.Gone]"], unfollowed := true, recurses := true, named := ["internal/bytealg.MaxLen"], apart := false, narrowed := true }
def RetireSafeUptoSaid : Prop := retireSafeUptoRow.holds Try.pinned (OpenSpec.upto retireSafeSpec)

end Rows
end Go.Proofs.Ytakpdbmdfnialaa
