/-
  No cell of these rows narrows 'for every input' (looked for: loops, veiled, ifaces, maps, wideKeys, modest, calm, conditions, laid).
  DERIVED. THE GIVEN ROWS OF THIS SEAT. 15 by the template 'for every input the law returns true; each argument reads behind the call as it read before'; 0 by the template 'total and deterministic' (their statements: YtcglchdbddlnjaaTotals.lean).
  GIVEN WITH THE SEED: the statements are not yours to turn. If you find one false, say at which input.
  Laid BY PROGRAM, IN A SANDBOX (cutbox-rows.mjs): the forced cells as the released guide's own fill.sh prints them over the translation fe6deb102c4506c5… (all of the seat's roots in one cut). By AI agents, Wed Nov 11 2026. No macro, syntax, notation, axiom, sorry.
-/
import Derived.Test.YtcglchdbddlnjaaChecked
import GoSem.Claim
import GoSem.ClaimJoined
import GoSem.ClaimMapViews
import Derived.JoinedTies
import Derived.KernelRfl
namespace Go.Proofs.Ytcglchdbddlnjaa
/- THE CELL 'sum', in the pinned program and in every row, IS THE sha256 OF THE DUMP (.gsa) THAT YtcglchdbddlnjaaProg.lean LOADS. Nothing in Lean hashes anything: it is a label: what it is worth is what the hold of that sum in a sandbox is worth. -/
noncomputable def Try.pinned : Pinned := { name := "ytcglchdbddlnjaa", sum := "fe6deb102c4506c5f5e7cd7cde902113506322506dda65cbbfeffdfb342d3227", checked := Try.checked }
namespace Rows
def none {H : Type} : Left H := { results := [], args := [] }

/-- 'trolleylaw10.PlanSame': WHATEVER THE INPUT: true; the input reads as it did. -/
def planSameSpec : ChangeSpec := { name := "planSame", fn := fun _ => fun
  | [d] => { results := [.lit (.bool true)], args := [d] }
  | _ => none }
def planSameRow : OpenClaim := { program := "ytcglchdbddlnjaa", sum := "fe6deb102c4506c5f5e7cd7cde902113506322506dda65cbbfeffdfb342d3227", func := "trolley/trolleylaw10.PlanSame", spec := "planSame", unfollowed := true, recurses := true, apart := false }
def PlanSameSaid : Prop := planSameRow.holds Try.pinned (OpenSpec.ofChange planSameSpec)

/-- ITS FALSE NEIGHBOUR: 'it returns false'. Refute it at one input. -/
def planSameWrong : ChangeSpec := { name := "planSame", fn := fun _ => fun
  | [d] => { results := [.lit (.bool false)], args := [d] }
  | _ => none }
def PlanSameWrongFalsely : Prop := planSameRow.holds Try.pinned (OpenSpec.ofChange planSameWrong)

/-- 'trolleylaw10.PlanLittle': WHATEVER THE INPUT: true; the input reads as it did. -/
def planLittleSpec : ChangeSpec := { name := "planLittle", fn := fun _ => fun
  | [d1, d2] => { results := [.lit (.bool true)], args := [d1, d2] }
  | _ => none }
def planLittleRow : OpenClaim := { program := "ytcglchdbddlnjaa", sum := "fe6deb102c4506c5f5e7cd7cde902113506322506dda65cbbfeffdfb342d3227", func := "trolley/trolleylaw10.PlanLittle", spec := "planLittle", unfollowed := true, recurses := true, apart := false }
def PlanLittleSaid : Prop := planLittleRow.holds Try.pinned (OpenSpec.ofChange planLittleSpec)

/-- ITS FALSE NEIGHBOUR: 'it returns false'. Refute it at one input. -/
def planLittleWrong : ChangeSpec := { name := "planLittle", fn := fun _ => fun
  | [d1, d2] => { results := [.lit (.bool false)], args := [d1, d2] }
  | _ => none }
def PlanLittleWrongFalsely : Prop := planLittleRow.holds Try.pinned (OpenSpec.ofChange planLittleWrong)

/-- 'trolleylaw10.PlanMoves': WHATEVER THE INPUT: true; the input reads as it did. -/
def planMovesSpec : ChangeSpec := { name := "planMoves", fn := fun _ => fun
  | [d1, d2] => { results := [.lit (.bool true)], args := [d1, d2] }
  | _ => none }
def planMovesRow : OpenClaim := { program := "ytcglchdbddlnjaa", sum := "fe6deb102c4506c5f5e7cd7cde902113506322506dda65cbbfeffdfb342d3227", func := "trolley/trolleylaw10.PlanMoves", spec := "planMoves", unfollowed := true, recurses := true, apart := false }
def PlanMovesSaid : Prop := planMovesRow.holds Try.pinned (OpenSpec.ofChange planMovesSpec)

/-- ITS FALSE NEIGHBOUR: 'it returns false'. Refute it at one input. -/
def planMovesWrong : ChangeSpec := { name := "planMoves", fn := fun _ => fun
  | [d1, d2] => { results := [.lit (.bool false)], args := [d1, d2] }
  | _ => none }
def PlanMovesWrongFalsely : Prop := planMovesRow.holds Try.pinned (OpenSpec.ofChange planMovesWrong)

/-- 'trolleylaw10.PlanGains': WHATEVER THE INPUT: true; the input reads as it did. -/
def planGainsSpec : ChangeSpec := { name := "planGains", fn := fun _ => fun
  | [d1, d2] => { results := [.lit (.bool true)], args := [d1, d2] }
  | _ => none }
def planGainsRow : OpenClaim := { program := "ytcglchdbddlnjaa", sum := "fe6deb102c4506c5f5e7cd7cde902113506322506dda65cbbfeffdfb342d3227", func := "trolley/trolleylaw10.PlanGains", spec := "planGains", unfollowed := true, recurses := true, apart := false }
def PlanGainsSaid : Prop := planGainsRow.holds Try.pinned (OpenSpec.ofChange planGainsSpec)

/-- ITS FALSE NEIGHBOUR: 'it returns false'. Refute it at one input. -/
def planGainsWrong : ChangeSpec := { name := "planGains", fn := fun _ => fun
  | [d1, d2] => { results := [.lit (.bool false)], args := [d1, d2] }
  | _ => none }
def PlanGainsWrongFalsely : Prop := planGainsRow.holds Try.pinned (OpenSpec.ofChange planGainsWrong)

/-- 'trolleylaw10.PlanLoad': WHATEVER THE INPUT: true; the input reads as it did. -/
def planLoadSpec : ChangeSpec := { name := "planLoad", fn := fun _ => fun
  | [d] => { results := [.lit (.bool true)], args := [d] }
  | _ => none }
def planLoadRow : OpenClaim := { program := "ytcglchdbddlnjaa", sum := "fe6deb102c4506c5f5e7cd7cde902113506322506dda65cbbfeffdfb342d3227", func := "trolley/trolleylaw10.PlanLoad", spec := "planLoad", unfollowed := true, recurses := true, apart := false }
def PlanLoadSaid : Prop := planLoadRow.holds Try.pinned (OpenSpec.ofChange planLoadSpec)

/-- ITS FALSE NEIGHBOUR: 'it returns false'. Refute it at one input. -/
def planLoadWrong : ChangeSpec := { name := "planLoad", fn := fun _ => fun
  | [d] => { results := [.lit (.bool false)], args := [d] }
  | _ => none }
def PlanLoadWrongFalsely : Prop := planLoadRow.holds Try.pinned (OpenSpec.ofChange planLoadWrong)

/-- 'trolleylaw10.PlanBoth': WHATEVER THE INPUT: true; the input reads as it did. -/
def planBothSpec : ChangeSpec := { name := "planBoth", fn := fun _ => fun
  | [d1, d2, d3] => { results := [.lit (.bool true)], args := [d1, d2, d3] }
  | _ => none }
def planBothRow : OpenClaim := { program := "ytcglchdbddlnjaa", sum := "fe6deb102c4506c5f5e7cd7cde902113506322506dda65cbbfeffdfb342d3227", func := "trolley/trolleylaw10.PlanBoth", spec := "planBoth", unfollowed := true, recurses := true, apart := false }
def PlanBothSaid : Prop := planBothRow.holds Try.pinned (OpenSpec.ofChange planBothSpec)

/-- ITS FALSE NEIGHBOUR: 'it returns false'. Refute it at one input. -/
def planBothWrong : ChangeSpec := { name := "planBoth", fn := fun _ => fun
  | [d1, d2, d3] => { results := [.lit (.bool false)], args := [d1, d2, d3] }
  | _ => none }
def PlanBothWrongFalsely : Prop := planBothRow.holds Try.pinned (OpenSpec.ofChange planBothWrong)

/-- 'trolleylaw10.PlanTells': WHATEVER THE INPUT: true; the input reads as it did. -/
def planTellsSpec : ChangeSpec := { name := "planTells", fn := fun _ => fun
  | [d1, d2, d3, d4] => { results := [.lit (.bool true)], args := [d1, d2, d3, d4] }
  | _ => none }
def planTellsRow : OpenClaim := { program := "ytcglchdbddlnjaa", sum := "fe6deb102c4506c5f5e7cd7cde902113506322506dda65cbbfeffdfb342d3227", func := "trolley/trolleylaw10.PlanTells", spec := "planTells", unfollowed := true, recurses := true, apart := false }
def PlanTellsSaid : Prop := planTellsRow.holds Try.pinned (OpenSpec.ofChange planTellsSpec)

/-- ITS FALSE NEIGHBOUR: 'it returns false'. Refute it at one input. -/
def planTellsWrong : ChangeSpec := { name := "planTells", fn := fun _ => fun
  | [d1, d2, d3, d4] => { results := [.lit (.bool false)], args := [d1, d2, d3, d4] }
  | _ => none }
def PlanTellsWrongFalsely : Prop := planTellsRow.holds Try.pinned (OpenSpec.ofChange planTellsWrong)

/-- 'trolleylaw06.RingAll': WHATEVER THE INPUT: true; the input reads as it did. -/
def ringAllSpec : ChangeSpec := { name := "ringAll", fn := fun _ => fun
  | [d1, d2] => { results := [.lit (.bool true)], args := [d1, d2] }
  | _ => none }
def ringAllRow : OpenClaim := { program := "ytcglchdbddlnjaa", sum := "fe6deb102c4506c5f5e7cd7cde902113506322506dda65cbbfeffdfb342d3227", func := "trolley/trolleylaw06.RingAll", spec := "ringAll", unfollowed := true, recurses := true, apart := false }
def RingAllSaid : Prop := ringAllRow.holds Try.pinned (OpenSpec.ofChange ringAllSpec)

/-- ITS FALSE NEIGHBOUR: 'it returns false'. Refute it at one input. -/
def ringAllWrong : ChangeSpec := { name := "ringAll", fn := fun _ => fun
  | [d1, d2] => { results := [.lit (.bool false)], args := [d1, d2] }
  | _ => none }
def RingAllWrongFalsely : Prop := ringAllRow.holds Try.pinned (OpenSpec.ofChange ringAllWrong)

/-- 'trolleylaw06.RingWalks': WHATEVER THE INPUT: true; the input reads as it did. -/
def ringWalksSpec : ChangeSpec := { name := "ringWalks", fn := fun _ => fun
  | [d1, d2, d3, d4] => { results := [.lit (.bool true)], args := [d1, d2, d3, d4] }
  | _ => none }
def ringWalksRow : OpenClaim := { program := "ytcglchdbddlnjaa", sum := "fe6deb102c4506c5f5e7cd7cde902113506322506dda65cbbfeffdfb342d3227", func := "trolley/trolleylaw06.RingWalks", spec := "ringWalks", unfollowed := true, recurses := true, apart := false }
def RingWalksSaid : Prop := ringWalksRow.holds Try.pinned (OpenSpec.ofChange ringWalksSpec)

/-- ITS FALSE NEIGHBOUR: 'it returns false'. Refute it at one input. -/
def ringWalksWrong : ChangeSpec := { name := "ringWalks", fn := fun _ => fun
  | [d1, d2, d3, d4] => { results := [.lit (.bool false)], args := [d1, d2, d3, d4] }
  | _ => none }
def RingWalksWrongFalsely : Prop := ringWalksRow.holds Try.pinned (OpenSpec.ofChange ringWalksWrong)

/-- 'trolleylaw06.RingTurns': WHATEVER THE INPUT: true; the input reads as it did. -/
def ringTurnsSpec : ChangeSpec := { name := "ringTurns", fn := fun _ => fun
  | [d1, d2] => { results := [.lit (.bool true)], args := [d1, d2] }
  | _ => none }
def ringTurnsRow : OpenClaim := { program := "ytcglchdbddlnjaa", sum := "fe6deb102c4506c5f5e7cd7cde902113506322506dda65cbbfeffdfb342d3227", func := "trolley/trolleylaw06.RingTurns", spec := "ringTurns", unfollowed := true, recurses := true, apart := false }
def RingTurnsSaid : Prop := ringTurnsRow.holds Try.pinned (OpenSpec.ofChange ringTurnsSpec)

/-- ITS FALSE NEIGHBOUR: 'it returns false'. Refute it at one input. -/
def ringTurnsWrong : ChangeSpec := { name := "ringTurns", fn := fun _ => fun
  | [d1, d2] => { results := [.lit (.bool false)], args := [d1, d2] }
  | _ => none }
def RingTurnsWrongFalsely : Prop := ringTurnsRow.holds Try.pinned (OpenSpec.ofChange ringTurnsWrong)

/-- 'trolleylaw06.RingTells': WHATEVER THE INPUT: true; the input reads as it did. -/
def ringTellsSpec : ChangeSpec := { name := "ringTells", fn := fun _ => fun
  | [d1, d2, d3] => { results := [.lit (.bool true)], args := [d1, d2, d3] }
  | _ => none }
def ringTellsRow : OpenClaim := { program := "ytcglchdbddlnjaa", sum := "fe6deb102c4506c5f5e7cd7cde902113506322506dda65cbbfeffdfb342d3227", func := "trolley/trolleylaw06.RingTells", spec := "ringTells", unfollowed := true, recurses := true, apart := false }
def RingTellsSaid : Prop := ringTellsRow.holds Try.pinned (OpenSpec.ofChange ringTellsSpec)

/-- ITS FALSE NEIGHBOUR: 'it returns false'. Refute it at one input. -/
def ringTellsWrong : ChangeSpec := { name := "ringTells", fn := fun _ => fun
  | [d1, d2, d3] => { results := [.lit (.bool false)], args := [d1, d2, d3] }
  | _ => none }
def RingTellsWrongFalsely : Prop := ringTellsRow.holds Try.pinned (OpenSpec.ofChange ringTellsWrong)

/-- 'trolleylaw06.RingMerges': WHATEVER THE INPUT: true; the input reads as it did. -/
def ringMergesSpec : ChangeSpec := { name := "ringMerges", fn := fun _ => fun
  | [d1, d2] => { results := [.lit (.bool true)], args := [d1, d2] }
  | _ => none }
def ringMergesRow : OpenClaim := { program := "ytcglchdbddlnjaa", sum := "fe6deb102c4506c5f5e7cd7cde902113506322506dda65cbbfeffdfb342d3227", func := "trolley/trolleylaw06.RingMerges", spec := "ringMerges", unfollowed := true, recurses := true, apart := false }
def RingMergesSaid : Prop := ringMergesRow.holds Try.pinned (OpenSpec.ofChange ringMergesSpec)

/-- ITS FALSE NEIGHBOUR: 'it returns false'. Refute it at one input. -/
def ringMergesWrong : ChangeSpec := { name := "ringMerges", fn := fun _ => fun
  | [d1, d2] => { results := [.lit (.bool false)], args := [d1, d2] }
  | _ => none }
def RingMergesWrongFalsely : Prop := ringMergesRow.holds Try.pinned (OpenSpec.ofChange ringMergesWrong)

/-- 'trolleylaw06.RingLattice': WHATEVER THE INPUT: true; the input reads as it did. -/
def ringLatticeSpec : ChangeSpec := { name := "ringLattice", fn := fun _ => fun
  | [d1, d2, d3] => { results := [.lit (.bool true)], args := [d1, d2, d3] }
  | _ => none }
def ringLatticeRow : OpenClaim := { program := "ytcglchdbddlnjaa", sum := "fe6deb102c4506c5f5e7cd7cde902113506322506dda65cbbfeffdfb342d3227", func := "trolley/trolleylaw06.RingLattice", spec := "ringLattice", unfollowed := true, recurses := true, apart := false }
def RingLatticeSaid : Prop := ringLatticeRow.holds Try.pinned (OpenSpec.ofChange ringLatticeSpec)

/-- ITS FALSE NEIGHBOUR: 'it returns false'. Refute it at one input. -/
def ringLatticeWrong : ChangeSpec := { name := "ringLattice", fn := fun _ => fun
  | [d1, d2, d3] => { results := [.lit (.bool false)], args := [d1, d2, d3] }
  | _ => none }
def RingLatticeWrongFalsely : Prop := ringLatticeRow.holds Try.pinned (OpenSpec.ofChange ringLatticeWrong)

/-- 'trolleylaw06.RingLittle': WHATEVER THE INPUT: true; the input reads as it did. -/
def ringLittleSpec : ChangeSpec := { name := "ringLittle", fn := fun _ => fun
  | [d1, d2] => { results := [.lit (.bool true)], args := [d1, d2] }
  | _ => none }
def ringLittleRow : OpenClaim := { program := "ytcglchdbddlnjaa", sum := "fe6deb102c4506c5f5e7cd7cde902113506322506dda65cbbfeffdfb342d3227", func := "trolley/trolleylaw06.RingLittle", spec := "ringLittle", unfollowed := true, recurses := true, apart := false }
def RingLittleSaid : Prop := ringLittleRow.holds Try.pinned (OpenSpec.ofChange ringLittleSpec)

/-- ITS FALSE NEIGHBOUR: 'it returns false'. Refute it at one input. -/
def ringLittleWrong : ChangeSpec := { name := "ringLittle", fn := fun _ => fun
  | [d1, d2] => { results := [.lit (.bool false)], args := [d1, d2] }
  | _ => none }
def RingLittleWrongFalsely : Prop := ringLittleRow.holds Try.pinned (OpenSpec.ofChange ringLittleWrong)

/-- 'trolleylaw06.RingGrows': WHATEVER THE INPUT: true; the input reads as it did. -/
def ringGrowsSpec : ChangeSpec := { name := "ringGrows", fn := fun _ => fun
  | [d1, d2] => { results := [.lit (.bool true)], args := [d1, d2] }
  | _ => none }
def ringGrowsRow : OpenClaim := { program := "ytcglchdbddlnjaa", sum := "fe6deb102c4506c5f5e7cd7cde902113506322506dda65cbbfeffdfb342d3227", func := "trolley/trolleylaw06.RingGrows", spec := "ringGrows", unfollowed := true, recurses := true, apart := false }
def RingGrowsSaid : Prop := ringGrowsRow.holds Try.pinned (OpenSpec.ofChange ringGrowsSpec)

/-- ITS FALSE NEIGHBOUR: 'it returns false'. Refute it at one input. -/
def ringGrowsWrong : ChangeSpec := { name := "ringGrows", fn := fun _ => fun
  | [d1, d2] => { results := [.lit (.bool false)], args := [d1, d2] }
  | _ => none }
def RingGrowsWrongFalsely : Prop := ringGrowsRow.holds Try.pinned (OpenSpec.ofChange ringGrowsWrong)

/- THE SECOND FORM. 'bulk': how many values and letters a reading holds, each counted each time it is reached (what is shared counts as often as it is met; a slice's spare places count too). A statement '..UptoSaid' is the law's where the arguments, and the package variables that the reading takes, are together of bulk at most 1048576: NARROWER than '..Said'. Prove '..Said' where nothing that the law and all that it calls make is longer than what came in: it says more and counts as full. Else prove '..UptoSaid'. A law counts once. -/
mutual
def uptoBulk {H : Type} : DataW H → Nat
  | .lit (.string bytes) => bytes.length + 1
  | .lit _ => 1
  | .nil => 1
  | .ptr d => uptoBulk d + 1
  | .slice elems spare => uptoBulkAll elems + uptoBulkAll spare + 1
  | .agg parts => uptoBulkAll parts + 1
  | .iface _ d => uptoBulk d + 1
  | .map entries => uptoBulkEntries entries + 1
  | .held _ => 1
def uptoBulkAll {H : Type} : List (DataW H) → Nat
  | [] => 0
  | d :: r => uptoBulk d + uptoBulkAll r
def uptoBulkEntries {H : Type} : List (Lit × DataW H) → Nat
  | [] => 0
  | x :: r => uptoBulkEntry x + uptoBulkEntries r
def uptoBulkEntry {H : Type} : Lit × DataW H → Nat
  | (.string bytes, d) => bytes.length + uptoBulk d + 1
  | (_, d) => uptoBulk d + 1
 end
def uptoSmall : (H : Type) → List (DataW H) → Bool := fun _ ds => decide (uptoBulkAll ds ≤ 1048576)
def OpenSpec.upto (s : _root_.Go.ChangeSpec) : _root_.Go.OpenSpec := { _root_.Go.OpenSpec.ofChange s with cond := some uptoSmall }

/-- 'trolleylaw10.PlanSame', WHERE WHAT IT READS IS OF BULK AT MOST 1048576: true; the input reads as it did. -/
def planSameUptoRow : OpenClaim := { program := "ytcglchdbddlnjaa", sum := "fe6deb102c4506c5f5e7cd7cde902113506322506dda65cbbfeffdfb342d3227", func := "trolley/trolleylaw10.PlanSame", spec := "planSame", unfollowed := true, recurses := true, apart := false, narrowed := true }
def PlanSameUptoSaid : Prop := planSameUptoRow.holds Try.pinned (OpenSpec.upto planSameSpec)

/-- 'trolleylaw10.PlanLittle', WHERE WHAT IT READS IS OF BULK AT MOST 1048576: true; the input reads as it did. -/
def planLittleUptoRow : OpenClaim := { program := "ytcglchdbddlnjaa", sum := "fe6deb102c4506c5f5e7cd7cde902113506322506dda65cbbfeffdfb342d3227", func := "trolley/trolleylaw10.PlanLittle", spec := "planLittle", unfollowed := true, recurses := true, apart := false, narrowed := true }
def PlanLittleUptoSaid : Prop := planLittleUptoRow.holds Try.pinned (OpenSpec.upto planLittleSpec)

/-- 'trolleylaw10.PlanMoves', WHERE WHAT IT READS IS OF BULK AT MOST 1048576: true; the input reads as it did. -/
def planMovesUptoRow : OpenClaim := { program := "ytcglchdbddlnjaa", sum := "fe6deb102c4506c5f5e7cd7cde902113506322506dda65cbbfeffdfb342d3227", func := "trolley/trolleylaw10.PlanMoves", spec := "planMoves", unfollowed := true, recurses := true, apart := false, narrowed := true }
def PlanMovesUptoSaid : Prop := planMovesUptoRow.holds Try.pinned (OpenSpec.upto planMovesSpec)

/-- 'trolleylaw10.PlanGains', WHERE WHAT IT READS IS OF BULK AT MOST 1048576: true; the input reads as it did. -/
def planGainsUptoRow : OpenClaim := { program := "ytcglchdbddlnjaa", sum := "fe6deb102c4506c5f5e7cd7cde902113506322506dda65cbbfeffdfb342d3227", func := "trolley/trolleylaw10.PlanGains", spec := "planGains", unfollowed := true, recurses := true, apart := false, narrowed := true }
def PlanGainsUptoSaid : Prop := planGainsUptoRow.holds Try.pinned (OpenSpec.upto planGainsSpec)

/-- 'trolleylaw10.PlanLoad', WHERE WHAT IT READS IS OF BULK AT MOST 1048576: true; the input reads as it did. -/
def planLoadUptoRow : OpenClaim := { program := "ytcglchdbddlnjaa", sum := "fe6deb102c4506c5f5e7cd7cde902113506322506dda65cbbfeffdfb342d3227", func := "trolley/trolleylaw10.PlanLoad", spec := "planLoad", unfollowed := true, recurses := true, apart := false, narrowed := true }
def PlanLoadUptoSaid : Prop := planLoadUptoRow.holds Try.pinned (OpenSpec.upto planLoadSpec)

/-- 'trolleylaw10.PlanBoth', WHERE WHAT IT READS IS OF BULK AT MOST 1048576: true; the input reads as it did. -/
def planBothUptoRow : OpenClaim := { program := "ytcglchdbddlnjaa", sum := "fe6deb102c4506c5f5e7cd7cde902113506322506dda65cbbfeffdfb342d3227", func := "trolley/trolleylaw10.PlanBoth", spec := "planBoth", unfollowed := true, recurses := true, apart := false, narrowed := true }
def PlanBothUptoSaid : Prop := planBothUptoRow.holds Try.pinned (OpenSpec.upto planBothSpec)

/-- 'trolleylaw10.PlanTells', WHERE WHAT IT READS IS OF BULK AT MOST 1048576: true; the input reads as it did. -/
def planTellsUptoRow : OpenClaim := { program := "ytcglchdbddlnjaa", sum := "fe6deb102c4506c5f5e7cd7cde902113506322506dda65cbbfeffdfb342d3227", func := "trolley/trolleylaw10.PlanTells", spec := "planTells", unfollowed := true, recurses := true, apart := false, narrowed := true }
def PlanTellsUptoSaid : Prop := planTellsUptoRow.holds Try.pinned (OpenSpec.upto planTellsSpec)

/-- 'trolleylaw06.RingAll', WHERE WHAT IT READS IS OF BULK AT MOST 1048576: true; the input reads as it did. -/
def ringAllUptoRow : OpenClaim := { program := "ytcglchdbddlnjaa", sum := "fe6deb102c4506c5f5e7cd7cde902113506322506dda65cbbfeffdfb342d3227", func := "trolley/trolleylaw06.RingAll", spec := "ringAll", unfollowed := true, recurses := true, apart := false, narrowed := true }
def RingAllUptoSaid : Prop := ringAllUptoRow.holds Try.pinned (OpenSpec.upto ringAllSpec)

/-- 'trolleylaw06.RingWalks', WHERE WHAT IT READS IS OF BULK AT MOST 1048576: true; the input reads as it did. -/
def ringWalksUptoRow : OpenClaim := { program := "ytcglchdbddlnjaa", sum := "fe6deb102c4506c5f5e7cd7cde902113506322506dda65cbbfeffdfb342d3227", func := "trolley/trolleylaw06.RingWalks", spec := "ringWalks", unfollowed := true, recurses := true, apart := false, narrowed := true }
def RingWalksUptoSaid : Prop := ringWalksUptoRow.holds Try.pinned (OpenSpec.upto ringWalksSpec)

/-- 'trolleylaw06.RingTurns', WHERE WHAT IT READS IS OF BULK AT MOST 1048576: true; the input reads as it did. -/
def ringTurnsUptoRow : OpenClaim := { program := "ytcglchdbddlnjaa", sum := "fe6deb102c4506c5f5e7cd7cde902113506322506dda65cbbfeffdfb342d3227", func := "trolley/trolleylaw06.RingTurns", spec := "ringTurns", unfollowed := true, recurses := true, apart := false, narrowed := true }
def RingTurnsUptoSaid : Prop := ringTurnsUptoRow.holds Try.pinned (OpenSpec.upto ringTurnsSpec)

/-- 'trolleylaw06.RingTells', WHERE WHAT IT READS IS OF BULK AT MOST 1048576: true; the input reads as it did. -/
def ringTellsUptoRow : OpenClaim := { program := "ytcglchdbddlnjaa", sum := "fe6deb102c4506c5f5e7cd7cde902113506322506dda65cbbfeffdfb342d3227", func := "trolley/trolleylaw06.RingTells", spec := "ringTells", unfollowed := true, recurses := true, apart := false, narrowed := true }
def RingTellsUptoSaid : Prop := ringTellsUptoRow.holds Try.pinned (OpenSpec.upto ringTellsSpec)

/-- 'trolleylaw06.RingMerges', WHERE WHAT IT READS IS OF BULK AT MOST 1048576: true; the input reads as it did. -/
def ringMergesUptoRow : OpenClaim := { program := "ytcglchdbddlnjaa", sum := "fe6deb102c4506c5f5e7cd7cde902113506322506dda65cbbfeffdfb342d3227", func := "trolley/trolleylaw06.RingMerges", spec := "ringMerges", unfollowed := true, recurses := true, apart := false, narrowed := true }
def RingMergesUptoSaid : Prop := ringMergesUptoRow.holds Try.pinned (OpenSpec.upto ringMergesSpec)

/-- 'trolleylaw06.RingLattice', WHERE WHAT IT READS IS OF BULK AT MOST 1048576: true; the input reads as it did. -/
def ringLatticeUptoRow : OpenClaim := { program := "ytcglchdbddlnjaa", sum := "fe6deb102c4506c5f5e7cd7cde902113506322506dda65cbbfeffdfb342d3227", func := "trolley/trolleylaw06.RingLattice", spec := "ringLattice", unfollowed := true, recurses := true, apart := false, narrowed := true }
def RingLatticeUptoSaid : Prop := ringLatticeUptoRow.holds Try.pinned (OpenSpec.upto ringLatticeSpec)

/-- 'trolleylaw06.RingLittle', WHERE WHAT IT READS IS OF BULK AT MOST 1048576: true; the input reads as it did. -/
def ringLittleUptoRow : OpenClaim := { program := "ytcglchdbddlnjaa", sum := "fe6deb102c4506c5f5e7cd7cde902113506322506dda65cbbfeffdfb342d3227", func := "trolley/trolleylaw06.RingLittle", spec := "ringLittle", unfollowed := true, recurses := true, apart := false, narrowed := true }
def RingLittleUptoSaid : Prop := ringLittleUptoRow.holds Try.pinned (OpenSpec.upto ringLittleSpec)

/-- 'trolleylaw06.RingGrows', WHERE WHAT IT READS IS OF BULK AT MOST 1048576: true; the input reads as it did. -/
def ringGrowsUptoRow : OpenClaim := { program := "ytcglchdbddlnjaa", sum := "fe6deb102c4506c5f5e7cd7cde902113506322506dda65cbbfeffdfb342d3227", func := "trolley/trolleylaw06.RingGrows", spec := "ringGrows", unfollowed := true, recurses := true, apart := false, narrowed := true }
def RingGrowsUptoSaid : Prop := ringGrowsUptoRow.holds Try.pinned (OpenSpec.upto ringGrowsSpec)

end Rows
end Go.Proofs.Ytcglchdbddlnjaa
