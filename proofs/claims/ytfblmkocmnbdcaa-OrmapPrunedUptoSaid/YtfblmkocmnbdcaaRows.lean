/-
  No cell of these rows narrows 'for every input' (looked for: loops, veiled, ifaces, maps, wideKeys, modest, calm, conditions, laid).
  DERIVED. THE GIVEN ROWS OF THIS SEAT. 3 by the template 'for every input the law returns true; each argument reads behind the call as it read before'; 0 by the template 'total and deterministic' (their statements: YtfblmkocmnbdcaaTotals.lean).
  GIVEN WITH THE SEED: the statements are not yours to turn. If you find one false, say at which input.
  Laid BY PROGRAM, IN A SANDBOX (cutbox-rows.mjs): the forced cells as the released guide's own fill.sh prints them over the translation 9a1d1b9178c8d3f3… (all of the seat's roots in one cut). By AI agents, Wed Nov 11 2026. No macro, syntax, notation, axiom, sorry.
-/
import Derived.Test.YtfblmkocmnbdcaaChecked
import GoSem.Claim
import GoSem.ClaimJoined
import GoSem.ClaimMapViews
import Derived.JoinedTies
import Derived.KernelRfl
namespace Go.Proofs.Ytfblmkocmnbdcaa
/- THE CELL 'sum', in the pinned program and in every row, IS THE sha256 OF THE DUMP (.gsa) THAT YtfblmkocmnbdcaaProg.lean LOADS. Nothing in Lean hashes anything: it is a label: what it is worth is what the hold of that sum in a sandbox is worth. -/
noncomputable def Try.pinned : Pinned := { name := "ytfblmkocmnbdcaa", sum := "9a1d1b9178c8d3f38aac56c35e7639a6a47ae3e341f13d09aaf5b9c93ab85272", checked := Try.checked }
namespace Rows
def none {H : Type} : Left H := { results := [], args := [] }

/-- 'trolleylaw05.OrmapPruned': WHATEVER THE INPUT: true; the input reads as it did. -/
def ormapPrunedSpec : ChangeSpec := { name := "ormapPruned", fn := fun _ => fun
  | [d1, d2, d3] => { results := [.lit (.bool true)], args := [d1, d2, d3] }
  | _ => none }
def ormapPrunedRow : OpenClaim := { program := "ytfblmkocmnbdcaa", sum := "9a1d1b9178c8d3f38aac56c35e7639a6a47ae3e341f13d09aaf5b9c93ab85272", func := "trolley/trolleylaw05.OrmapPruned", spec := "ormapPruned", inPlace := ["internal/bytealg.IndexByteString", "internal/bytealg.IndexString", "math.Float64frombits", "internal/bytealg.abigen_runtime_cmpstring", "math.Float64bits"], unfollowed := true, recurses := true, named := ["internal/bytealg.MaxLen"], apart := false }
def OrmapPrunedSaid : Prop := ormapPrunedRow.holds Try.pinned (OpenSpec.ofChange ormapPrunedSpec)

/-- ITS FALSE NEIGHBOUR: 'it returns false'. Refute it at one input. -/
def ormapPrunedWrong : ChangeSpec := { name := "ormapPruned", fn := fun _ => fun
  | [d1, d2, d3] => { results := [.lit (.bool false)], args := [d1, d2, d3] }
  | _ => none }
def OrmapPrunedWrongFalsely : Prop := ormapPrunedRow.holds Try.pinned (OpenSpec.ofChange ormapPrunedWrong)

/-- 'trolleylaw15.TokenTurned': WHATEVER THE INPUT: true; the input reads as it did. -/
def tokenTurnedSpec : ChangeSpec := { name := "tokenTurned", fn := fun _ => fun
  | [d1, d2, d3] => { results := [.lit (.bool true)], args := [d1, d2, d3] }
  | _ => none }
def tokenTurnedRow : OpenClaim := { program := "ytfblmkocmnbdcaa", sum := "9a1d1b9178c8d3f38aac56c35e7639a6a47ae3e341f13d09aaf5b9c93ab85272", func := "trolley/trolleylaw15.TokenTurned", spec := "tokenTurned", inPlace := ["internal/bytealg.IndexByteString", "internal/bytealg.IndexString", "math.Float64frombits", "internal/bytealg.abigen_runtime_cmpstring"], unfollowed := true, recurses := true, named := ["internal/bytealg.MaxLen"], apart := false }
def TokenTurnedSaid : Prop := tokenTurnedRow.holds Try.pinned (OpenSpec.ofChange tokenTurnedSpec)

/-- ITS FALSE NEIGHBOUR: 'it returns false'. Refute it at one input. -/
def tokenTurnedWrong : ChangeSpec := { name := "tokenTurned", fn := fun _ => fun
  | [d1, d2, d3] => { results := [.lit (.bool false)], args := [d1, d2, d3] }
  | _ => none }
def TokenTurnedWrongFalsely : Prop := tokenTurnedRow.holds Try.pinned (OpenSpec.ofChange tokenTurnedWrong)

/-- 'trolleylaw05.OrmapMay': WHATEVER THE INPUT: true; the input reads as it did. -/
def ormapMaySpec : ChangeSpec := { name := "ormapMay", fn := fun _ => fun
  | [d1, d2] => { results := [.lit (.bool true)], args := [d1, d2] }
  | _ => none }
def ormapMayRow : OpenClaim := { program := "ytfblmkocmnbdcaa", sum := "9a1d1b9178c8d3f38aac56c35e7639a6a47ae3e341f13d09aaf5b9c93ab85272", func := "trolley/trolleylaw05.OrmapMay", spec := "ormapMay", inPlace := ["internal/bytealg.IndexByteString", "internal/bytealg.IndexString", "math.Float64frombits", "internal/bytealg.abigen_runtime_cmpstring", "slices.overlaps[trolley/api.Mark]"], unfollowed := true, recurses := true, named := ["internal/bytealg.MaxLen"], apart := false }
def OrmapMaySaid : Prop := ormapMayRow.holds Try.pinned (OpenSpec.ofChange ormapMaySpec)

/-- ITS FALSE NEIGHBOUR: 'it returns false'. Refute it at one input. -/
def ormapMayWrong : ChangeSpec := { name := "ormapMay", fn := fun _ => fun
  | [d1, d2] => { results := [.lit (.bool false)], args := [d1, d2] }
  | _ => none }
def OrmapMayWrongFalsely : Prop := ormapMayRow.holds Try.pinned (OpenSpec.ofChange ormapMayWrong)

/- THE SECOND FORM. 'bulk': how many values and letters a reading holds, each counted each time it is reached (what is shared counts as often as it is met; a slice's spare places count too). A statement '..UptoSaid' is the law's where the arguments, and the package variables that the reading takes, are together of bulk at most 1048576: NARROWER than '..Said'. Prove '..Said' where nothing that the law and all that it calls make is longer than what came in: it says more and counts as full. Else prove '..UptoSaid'. A law counts once. -/
mutual
def uptoBulk {H : Type} : DataW H → Nat
  | .lit (.string bytes) => bytes.length + 1
  | .lit _ => 1
  | .nil => 1
  | .ptr d => uptoBulk d + 1
  | .slice elems spare => uptoBulkAll elems + uptoBulkAll spare + 1
  | .agg parts => uptoBulkAll parts + 1
  | .iface _ d => uptoBulk d + 1
  | .map entries => uptoBulkEntries entries + 1
  | .held _ => 1
def uptoBulkAll {H : Type} : List (DataW H) → Nat
  | [] => 0
  | d :: r => uptoBulk d + uptoBulkAll r
def uptoBulkEntries {H : Type} : List (Lit × DataW H) → Nat
  | [] => 0
  | x :: r => uptoBulkEntry x + uptoBulkEntries r
def uptoBulkEntry {H : Type} : Lit × DataW H → Nat
  | (.string bytes, d) => bytes.length + uptoBulk d + 1
  | (_, d) => uptoBulk d + 1
 end
def uptoSmall : (H : Type) → List (DataW H) → Bool := fun _ ds => decide (uptoBulkAll ds ≤ 1048576)
def OpenSpec.upto (s : _root_.Go.ChangeSpec) : _root_.Go.OpenSpec := { _root_.Go.OpenSpec.ofChange s with cond := some uptoSmall }

/-- 'trolleylaw05.OrmapPruned', WHERE WHAT IT READS IS OF BULK AT MOST 1048576: true; the input reads as it did. -/
def ormapPrunedUptoRow : OpenClaim := { program := "ytfblmkocmnbdcaa", sum := "9a1d1b9178c8d3f38aac56c35e7639a6a47ae3e341f13d09aaf5b9c93ab85272", func := "trolley/trolleylaw05.OrmapPruned", spec := "ormapPruned", inPlace := ["internal/bytealg.IndexByteString", "internal/bytealg.IndexString", "math.Float64frombits", "internal/bytealg.abigen_runtime_cmpstring", "math.Float64bits"], unfollowed := true, recurses := true, named := ["internal/bytealg.MaxLen"], apart := false, narrowed := true }
def OrmapPrunedUptoSaid : Prop := ormapPrunedUptoRow.holds Try.pinned (OpenSpec.upto ormapPrunedSpec)

/-- 'trolleylaw15.TokenTurned', WHERE WHAT IT READS IS OF BULK AT MOST 1048576: true; the input reads as it did. -/
def tokenTurnedUptoRow : OpenClaim := { program := "ytfblmkocmnbdcaa", sum := "9a1d1b9178c8d3f38aac56c35e7639a6a47ae3e341f13d09aaf5b9c93ab85272", func := "trolley/trolleylaw15.TokenTurned", spec := "tokenTurned", inPlace := ["internal/bytealg.IndexByteString", "internal/bytealg.IndexString", "math.Float64frombits", "internal/bytealg.abigen_runtime_cmpstring"], unfollowed := true, recurses := true, named := ["internal/bytealg.MaxLen"], apart := false, narrowed := true }
def TokenTurnedUptoSaid : Prop := tokenTurnedUptoRow.holds Try.pinned (OpenSpec.upto tokenTurnedSpec)

/-- 'trolleylaw05.OrmapMay', WHERE WHAT IT READS IS OF BULK AT MOST 1048576: true; the input reads as it did. -/
def ormapMayUptoRow : OpenClaim := { program := "ytfblmkocmnbdcaa", sum := "9a1d1b9178c8d3f38aac56c35e7639a6a47ae3e341f13d09aaf5b9c93ab85272", func := "trolley/trolleylaw05.OrmapMay", spec := "ormapMay", inPlace := ["internal/bytealg.IndexByteString", "internal/bytealg.IndexString", "math.Float64frombits", "internal/bytealg.abigen_runtime_cmpstring", "slices.overlaps[trolley/api.Mark]"], unfollowed := true, recurses := true, named := ["internal/bytealg.MaxLen"], apart := false, narrowed := true }
def OrmapMayUptoSaid : Prop := ormapMayUptoRow.holds Try.pinned (OpenSpec.upto ormapMaySpec)

end Rows
end Go.Proofs.Ytfblmkocmnbdcaa
