/-
  No cell of these rows narrows 'for every input' (looked for: loops, veiled, ifaces, maps, wideKeys, modest, calm, conditions, laid).
  DERIVED. THE GIVEN ROWS OF THIS SEAT. 6 by the template 'for every input the law returns true; each argument reads behind the call as it read before'; 0 by the template 'total and deterministic' (their statements: YtbijdmfilmecbaaTotals.lean).
  GIVEN WITH THE SEED: the statements are not yours to turn. If you find one false, say at which input.
  Laid BY PROGRAM, IN A SANDBOX (cutbox-rows.mjs): the forced cells as the released guide's own fill.sh prints them over the translation 6f66734a878be7b8… (all of the seat's roots in one cut). By AI agents, Wed Nov 11 2026. No macro, syntax, notation, axiom, sorry.
-/
import Derived.Test.YtbijdmfilmecbaaChecked
import GoSem.Claim
import GoSem.ClaimJoined
import GoSem.ClaimMapViews
import Derived.JoinedTies
import Derived.KernelRfl
namespace Go.Proofs.Ytbijdmfilmecbaa
/- THE CELL 'sum', in the pinned program and in every row, IS THE sha256 OF THE DUMP (.gsa) THAT YtbijdmfilmecbaaProg.lean LOADS. Nothing in Lean hashes anything: it is a label: what it is worth is what the hold of that sum in a sandbox is worth. -/
noncomputable def Try.pinned : Pinned := { name := "ytbijdmfilmecbaa", sum := "6f66734a878be7b8c5f54a960edceace70f2389336a571dc4d0565ce5bf5cf29", checked := Try.checked }
namespace Rows
def none {H : Type} : Left H := { results := [], args := [] }

/-- 'trolleylaw08.MerkleWay': WHATEVER THE INPUT: true; the input reads as it did. -/
def merkleWaySpec : ChangeSpec := { name := "merkleWay", fn := fun _ => fun
  | [d1, d2, d3, d4] => { results := [.lit (.bool true)], args := [d1, d2, d3, d4] }
  | _ => none }
def merkleWayRow : OpenClaim := { program := "ytbijdmfilmecbaa", sum := "6f66734a878be7b8c5f54a960edceace70f2389336a571dc4d0565ce5bf5cf29", func := "trolley/trolleylaw08.MerkleWay", spec := "merkleWay", unfollowed := true, recurses := true, apart := false }
def MerkleWaySaid : Prop := merkleWayRow.holds Try.pinned (OpenSpec.ofChange merkleWaySpec)

/-- ITS FALSE NEIGHBOUR: 'it returns false'. Refute it at one input. -/
def merkleWayWrong : ChangeSpec := { name := "merkleWay", fn := fun _ => fun
  | [d1, d2, d3, d4] => { results := [.lit (.bool false)], args := [d1, d2, d3, d4] }
  | _ => none }
def MerkleWayWrongFalsely : Prop := merkleWayRow.holds Try.pinned (OpenSpec.ofChange merkleWayWrong)

/-- 'trolleylaw08.MerkleBack': WHATEVER THE INPUT: true; the input reads as it did. -/
def merkleBackSpec : ChangeSpec := { name := "merkleBack", fn := fun _ => fun
  | [d1, d2, d3] => { results := [.lit (.bool true)], args := [d1, d2, d3] }
  | _ => none }
def merkleBackRow : OpenClaim := { program := "ytbijdmfilmecbaa", sum := "6f66734a878be7b8c5f54a960edceace70f2389336a571dc4d0565ce5bf5cf29", func := "trolley/trolleylaw08.MerkleBack", spec := "merkleBack", unfollowed := true, recurses := true, apart := false }
def MerkleBackSaid : Prop := merkleBackRow.holds Try.pinned (OpenSpec.ofChange merkleBackSpec)

/-- ITS FALSE NEIGHBOUR: 'it returns false'. Refute it at one input. -/
def merkleBackWrong : ChangeSpec := { name := "merkleBack", fn := fun _ => fun
  | [d1, d2, d3] => { results := [.lit (.bool false)], args := [d1, d2, d3] }
  | _ => none }
def MerkleBackWrongFalsely : Prop := merkleBackRow.holds Try.pinned (OpenSpec.ofChange merkleBackWrong)

/-- 'trolleylaw08.MerkleTells': WHATEVER THE INPUT: true; the input reads as it did. -/
def merkleTellsSpec : ChangeSpec := { name := "merkleTells", fn := fun _ => fun
  | [d1, d2, d3, d4] => { results := [.lit (.bool true)], args := [d1, d2, d3, d4] }
  | _ => none }
def merkleTellsRow : OpenClaim := { program := "ytbijdmfilmecbaa", sum := "6f66734a878be7b8c5f54a960edceace70f2389336a571dc4d0565ce5bf5cf29", func := "trolley/trolleylaw08.MerkleTells", spec := "merkleTells", unfollowed := true, recurses := true, apart := false }
def MerkleTellsSaid : Prop := merkleTellsRow.holds Try.pinned (OpenSpec.ofChange merkleTellsSpec)

/-- ITS FALSE NEIGHBOUR: 'it returns false'. Refute it at one input. -/
def merkleTellsWrong : ChangeSpec := { name := "merkleTells", fn := fun _ => fun
  | [d1, d2, d3, d4] => { results := [.lit (.bool false)], args := [d1, d2, d3, d4] }
  | _ => none }
def MerkleTellsWrongFalsely : Prop := merkleTellsRow.holds Try.pinned (OpenSpec.ofChange merkleTellsWrong)

/-- 'trolleylaw08.MerkleNone': WHATEVER THE INPUT: true; the input reads as it did. -/
def merkleNoneSpec : ChangeSpec := { name := "merkleNone", fn := fun _ => fun
  | [d1, d2, d3, d4] => { results := [.lit (.bool true)], args := [d1, d2, d3, d4] }
  | _ => none }
def merkleNoneRow : OpenClaim := { program := "ytbijdmfilmecbaa", sum := "6f66734a878be7b8c5f54a960edceace70f2389336a571dc4d0565ce5bf5cf29", func := "trolley/trolleylaw08.MerkleNone", spec := "merkleNone", unfollowed := true, recurses := true, apart := false }
def MerkleNoneSaid : Prop := merkleNoneRow.holds Try.pinned (OpenSpec.ofChange merkleNoneSpec)

/-- ITS FALSE NEIGHBOUR: 'it returns false'. Refute it at one input. -/
def merkleNoneWrong : ChangeSpec := { name := "merkleNone", fn := fun _ => fun
  | [d1, d2, d3, d4] => { results := [.lit (.bool false)], args := [d1, d2, d3, d4] }
  | _ => none }
def MerkleNoneWrongFalsely : Prop := merkleNoneRow.holds Try.pinned (OpenSpec.ofChange merkleNoneWrong)

/-- 'trolleylaw08.MerkleFound': WHATEVER THE INPUT: true; the input reads as it did. -/
def merkleFoundSpec : ChangeSpec := { name := "merkleFound", fn := fun _ => fun
  | [d1, d2] => { results := [.lit (.bool true)], args := [d1, d2] }
  | _ => none }
def merkleFoundRow : OpenClaim := { program := "ytbijdmfilmecbaa", sum := "6f66734a878be7b8c5f54a960edceace70f2389336a571dc4d0565ce5bf5cf29", func := "trolley/trolleylaw08.MerkleFound", spec := "merkleFound", unfollowed := true, recurses := true, apart := false }
def MerkleFoundSaid : Prop := merkleFoundRow.holds Try.pinned (OpenSpec.ofChange merkleFoundSpec)

/-- ITS FALSE NEIGHBOUR: 'it returns false'. Refute it at one input. -/
def merkleFoundWrong : ChangeSpec := { name := "merkleFound", fn := fun _ => fun
  | [d1, d2] => { results := [.lit (.bool false)], args := [d1, d2] }
  | _ => none }
def MerkleFoundWrongFalsely : Prop := merkleFoundRow.holds Try.pinned (OpenSpec.ofChange merkleFoundWrong)

/-- 'trolleylaw19.RepairFinds': WHATEVER THE INPUT: true; the input reads as it did. -/
def repairFindsSpec : ChangeSpec := { name := "repairFinds", fn := fun _ => fun
  | [d1, d2] => { results := [.lit (.bool true)], args := [d1, d2] }
  | _ => none }
def repairFindsRow : OpenClaim := { program := "ytbijdmfilmecbaa", sum := "6f66734a878be7b8c5f54a960edceace70f2389336a571dc4d0565ce5bf5cf29", func := "trolley/trolleylaw19.RepairFinds", spec := "repairFinds", unfollowed := true, recurses := true, apart := false }
def RepairFindsSaid : Prop := repairFindsRow.holds Try.pinned (OpenSpec.ofChange repairFindsSpec)

/-- ITS FALSE NEIGHBOUR: 'it returns false'. Refute it at one input. -/
def repairFindsWrong : ChangeSpec := { name := "repairFinds", fn := fun _ => fun
  | [d1, d2] => { results := [.lit (.bool false)], args := [d1, d2] }
  | _ => none }
def RepairFindsWrongFalsely : Prop := repairFindsRow.holds Try.pinned (OpenSpec.ofChange repairFindsWrong)

/- THE SECOND FORM. 'bulk': how many values and letters a reading holds, each counted each time it is reached (what is shared counts as often as it is met; a slice's spare places count too). A statement '..UptoSaid' is the law's where the arguments, and the package variables that the reading takes, are together of bulk at most 1048576: NARROWER than '..Said'. Prove '..Said' where nothing that the law and all that it calls make is longer than what came in: it says more and counts as full. Else prove '..UptoSaid'. A law counts once. -/
mutual
def uptoBulk {H : Type} : DataW H → Nat
  | .lit (.string bytes) => bytes.length + 1
  | .lit _ => 1
  | .nil => 1
  | .ptr d => uptoBulk d + 1
  | .slice elems spare => uptoBulkAll elems + uptoBulkAll spare + 1
  | .agg parts => uptoBulkAll parts + 1
  | .iface _ d => uptoBulk d + 1
  | .map entries => uptoBulkEntries entries + 1
  | .held _ => 1
def uptoBulkAll {H : Type} : List (DataW H) → Nat
  | [] => 0
  | d :: r => uptoBulk d + uptoBulkAll r
def uptoBulkEntries {H : Type} : List (Lit × DataW H) → Nat
  | [] => 0
  | x :: r => uptoBulkEntry x + uptoBulkEntries r
def uptoBulkEntry {H : Type} : Lit × DataW H → Nat
  | (.string bytes, d) => bytes.length + uptoBulk d + 1
  | (_, d) => uptoBulk d + 1
 end
def uptoSmall : (H : Type) → List (DataW H) → Bool := fun _ ds => decide (uptoBulkAll ds ≤ 1048576)
def OpenSpec.upto (s : _root_.Go.ChangeSpec) : _root_.Go.OpenSpec := { _root_.Go.OpenSpec.ofChange s with cond := some uptoSmall }

/-- 'trolleylaw08.MerkleWay', WHERE WHAT IT READS IS OF BULK AT MOST 1048576: true; the input reads as it did. -/
def merkleWayUptoRow : OpenClaim := { program := "ytbijdmfilmecbaa", sum := "6f66734a878be7b8c5f54a960edceace70f2389336a571dc4d0565ce5bf5cf29", func := "trolley/trolleylaw08.MerkleWay", spec := "merkleWay", unfollowed := true, recurses := true, apart := false, narrowed := true }
def MerkleWayUptoSaid : Prop := merkleWayUptoRow.holds Try.pinned (OpenSpec.upto merkleWaySpec)

/-- 'trolleylaw08.MerkleBack', WHERE WHAT IT READS IS OF BULK AT MOST 1048576: true; the input reads as it did. -/
def merkleBackUptoRow : OpenClaim := { program := "ytbijdmfilmecbaa", sum := "6f66734a878be7b8c5f54a960edceace70f2389336a571dc4d0565ce5bf5cf29", func := "trolley/trolleylaw08.MerkleBack", spec := "merkleBack", unfollowed := true, recurses := true, apart := false, narrowed := true }
def MerkleBackUptoSaid : Prop := merkleBackUptoRow.holds Try.pinned (OpenSpec.upto merkleBackSpec)

/-- 'trolleylaw08.MerkleTells', WHERE WHAT IT READS IS OF BULK AT MOST 1048576: true; the input reads as it did. -/
def merkleTellsUptoRow : OpenClaim := { program := "ytbijdmfilmecbaa", sum := "6f66734a878be7b8c5f54a960edceace70f2389336a571dc4d0565ce5bf5cf29", func := "trolley/trolleylaw08.MerkleTells", spec := "merkleTells", unfollowed := true, recurses := true, apart := false, narrowed := true }
def MerkleTellsUptoSaid : Prop := merkleTellsUptoRow.holds Try.pinned (OpenSpec.upto merkleTellsSpec)

/-- 'trolleylaw08.MerkleNone', WHERE WHAT IT READS IS OF BULK AT MOST 1048576: true; the input reads as it did. -/
def merkleNoneUptoRow : OpenClaim := { program := "ytbijdmfilmecbaa", sum := "6f66734a878be7b8c5f54a960edceace70f2389336a571dc4d0565ce5bf5cf29", func := "trolley/trolleylaw08.MerkleNone", spec := "merkleNone", unfollowed := true, recurses := true, apart := false, narrowed := true }
def MerkleNoneUptoSaid : Prop := merkleNoneUptoRow.holds Try.pinned (OpenSpec.upto merkleNoneSpec)

/-- 'trolleylaw08.MerkleFound', WHERE WHAT IT READS IS OF BULK AT MOST 1048576: true; the input reads as it did. -/
def merkleFoundUptoRow : OpenClaim := { program := "ytbijdmfilmecbaa", sum := "6f66734a878be7b8c5f54a960edceace70f2389336a571dc4d0565ce5bf5cf29", func := "trolley/trolleylaw08.MerkleFound", spec := "merkleFound", unfollowed := true, recurses := true, apart := false, narrowed := true }
def MerkleFoundUptoSaid : Prop := merkleFoundUptoRow.holds Try.pinned (OpenSpec.upto merkleFoundSpec)

/-- 'trolleylaw19.RepairFinds', WHERE WHAT IT READS IS OF BULK AT MOST 1048576: true; the input reads as it did. -/
def repairFindsUptoRow : OpenClaim := { program := "ytbijdmfilmecbaa", sum := "6f66734a878be7b8c5f54a960edceace70f2389336a571dc4d0565ce5bf5cf29", func := "trolley/trolleylaw19.RepairFinds", spec := "repairFinds", unfollowed := true, recurses := true, apart := false, narrowed := true }
def RepairFindsUptoSaid : Prop := repairFindsUptoRow.holds Try.pinned (OpenSpec.upto repairFindsSpec)

end Rows
end Go.Proofs.Ytbijdmfilmecbaa
