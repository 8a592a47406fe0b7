/-
  No cell of these rows narrows 'for every input' (looked for: loops, veiled, ifaces, maps, wideKeys, modest, calm, conditions, laid).
  DERIVED. THE GIVEN ROWS OF THIS SEAT. 10 by the template 'for every input the law returns true; each argument reads behind the call as it read before'; 0 by the template 'total and deterministic' (their statements: YtjfeeiljinbmjaaTotals.lean).
  GIVEN WITH THE SEED: the statements are not yours to turn. If you find one false, say at which input.
  Laid BY PROGRAM, IN A SANDBOX (cutbox-rows.mjs): the forced cells as the released guide's own fill.sh prints them over the translation 0be3d796f5f3be07… (all of the seat's roots in one cut). By AI agents, Wed Nov 11 2026. No macro, syntax, notation, axiom, sorry.
-/
import Derived.Test.YtjfeeiljinbmjaaChecked
import GoSem.Claim
import GoSem.ClaimJoined
import GoSem.ClaimMapViews
import Derived.JoinedTies
import Derived.KernelRfl
namespace Go.Proofs.Ytjfeeiljinbmjaa
/- THE CELL 'sum', in the pinned program and in every row, IS THE sha256 OF THE DUMP (.gsa) THAT YtjfeeiljinbmjaaProg.lean LOADS. Nothing in Lean hashes anything: it is a label: what it is worth is what the hold of that sum in a sandbox is worth. -/
noncomputable def Try.pinned : Pinned := { name := "ytjfeeiljinbmjaa", sum := "0be3d796f5f3be075dae1c605e4aaad2b3e831b59e0f7304c1fe01f5e319cbc0", checked := Try.checked }
namespace Rows
def none {H : Type} : Left H := { results := [], args := [] }

/-- 'trolleylaw15.TokenLetters': WHATEVER THE INPUT: true; the input reads as it did. -/
def tokenLettersSpec : ChangeSpec := { name := "tokenLetters", fn := fun _ => fun
  | [d1, d2] => { results := [.lit (.bool true)], args := [d1, d2] }
  | _ => none }
def tokenLettersRow : OpenClaim := { program := "ytjfeeiljinbmjaa", sum := "0be3d796f5f3be075dae1c605e4aaad2b3e831b59e0f7304c1fe01f5e319cbc0", func := "trolley/trolleylaw15.TokenLetters", spec := "tokenLetters", plainKeys := false, apart := false }
def TokenLettersSaid : Prop := tokenLettersRow.holds Try.pinned (OpenSpec.ofChange tokenLettersSpec)

/-- ITS FALSE NEIGHBOUR: 'it returns false'. Refute it at one input. -/
def tokenLettersWrong : ChangeSpec := { name := "tokenLetters", fn := fun _ => fun
  | [d1, d2] => { results := [.lit (.bool false)], args := [d1, d2] }
  | _ => none }
def TokenLettersWrongFalsely : Prop := tokenLettersRow.holds Try.pinned (OpenSpec.ofChange tokenLettersWrong)

/-- 'trolleylaw03.CausalAsks': WHATEVER THE INPUT: true; the input reads as it did. -/
def causalAsksSpec : ChangeSpec := { name := "causalAsks", fn := fun _ => fun
  | [d1, d2, d3, d4] => { results := [.lit (.bool true)], args := [d1, d2, d3, d4] }
  | _ => none }
def causalAsksRow : OpenClaim := { program := "ytjfeeiljinbmjaa", sum := "0be3d796f5f3be075dae1c605e4aaad2b3e831b59e0f7304c1fe01f5e319cbc0", func := "trolley/trolleylaw03.CausalAsks", spec := "causalAsks", plainKeys := false, apart := false }
def CausalAsksSaid : Prop := causalAsksRow.holds Try.pinned (OpenSpec.ofChange causalAsksSpec)

/-- ITS FALSE NEIGHBOUR: 'it returns false'. Refute it at one input. -/
def causalAsksWrong : ChangeSpec := { name := "causalAsks", fn := fun _ => fun
  | [d1, d2, d3, d4] => { results := [.lit (.bool false)], args := [d1, d2, d3, d4] }
  | _ => none }
def CausalAsksWrongFalsely : Prop := causalAsksRow.holds Try.pinned (OpenSpec.ofChange causalAsksWrong)

/-- 'trolleylaw13.GossipTurns': WHATEVER THE INPUT: true; the input reads as it did. -/
def gossipTurnsSpec : ChangeSpec := { name := "gossipTurns", fn := fun _ => fun
  | [d1, d2, d3] => { results := [.lit (.bool true)], args := [d1, d2, d3] }
  | _ => none }
def gossipTurnsRow : OpenClaim := { program := "ytjfeeiljinbmjaa", sum := "0be3d796f5f3be075dae1c605e4aaad2b3e831b59e0f7304c1fe01f5e319cbc0", func := "trolley/trolleylaw13.GossipTurns", spec := "gossipTurns", unfollowed := true, recurses := true, plainKeys := false, apart := false }
def GossipTurnsSaid : Prop := gossipTurnsRow.holds Try.pinned (OpenSpec.ofChange gossipTurnsSpec)

/-- ITS FALSE NEIGHBOUR: 'it returns false'. Refute it at one input. -/
def gossipTurnsWrong : ChangeSpec := { name := "gossipTurns", fn := fun _ => fun
  | [d1, d2, d3] => { results := [.lit (.bool false)], args := [d1, d2, d3] }
  | _ => none }
def GossipTurnsWrongFalsely : Prop := gossipTurnsRow.holds Try.pinned (OpenSpec.ofChange gossipTurnsWrong)

/-- 'trolleylaw03.CausalPruned': WHATEVER THE INPUT: true; the input reads as it did. -/
def causalPrunedSpec : ChangeSpec := { name := "causalPruned", fn := fun _ => fun
  | [d1, d2, d3, d4] => { results := [.lit (.bool true)], args := [d1, d2, d3, d4] }
  | _ => none }
def causalPrunedRow : OpenClaim := { program := "ytjfeeiljinbmjaa", sum := "0be3d796f5f3be075dae1c605e4aaad2b3e831b59e0f7304c1fe01f5e319cbc0", func := "trolley/trolleylaw03.CausalPruned", spec := "causalPruned", plainKeys := false, apart := false }
def CausalPrunedSaid : Prop := causalPrunedRow.holds Try.pinned (OpenSpec.ofChange causalPrunedSpec)

/-- ITS FALSE NEIGHBOUR: 'it returns false'. Refute it at one input. -/
def causalPrunedWrong : ChangeSpec := { name := "causalPruned", fn := fun _ => fun
  | [d1, d2, d3, d4] => { results := [.lit (.bool false)], args := [d1, d2, d3, d4] }
  | _ => none }
def CausalPrunedWrongFalsely : Prop := causalPrunedRow.holds Try.pinned (OpenSpec.ofChange causalPrunedWrong)

/-- 'trolleylaw03.CausalBack': WHATEVER THE INPUT: true; the input reads as it did. -/
def causalBackSpec : ChangeSpec := { name := "causalBack", fn := fun _ => fun
  | [d1, d2, d3, d4] => { results := [.lit (.bool true)], args := [d1, d2, d3, d4] }
  | _ => none }
def causalBackRow : OpenClaim := { program := "ytjfeeiljinbmjaa", sum := "0be3d796f5f3be075dae1c605e4aaad2b3e831b59e0f7304c1fe01f5e319cbc0", func := "trolley/trolleylaw03.CausalBack", spec := "causalBack", unfollowed := true, recurses := true, plainKeys := false, apart := false }
def CausalBackSaid : Prop := causalBackRow.holds Try.pinned (OpenSpec.ofChange causalBackSpec)

/-- ITS FALSE NEIGHBOUR: 'it returns false'. Refute it at one input. -/
def causalBackWrong : ChangeSpec := { name := "causalBack", fn := fun _ => fun
  | [d1, d2, d3, d4] => { results := [.lit (.bool false)], args := [d1, d2, d3, d4] }
  | _ => none }
def CausalBackWrongFalsely : Prop := causalBackRow.holds Try.pinned (OpenSpec.ofChange causalBackWrong)

/-- 'trolleylaw03.CausalCodes': WHATEVER THE INPUT: true; the input reads as it did. -/
def causalCodesSpec : ChangeSpec := { name := "causalCodes", fn := fun _ => fun
  | [d1, d2, d3] => { results := [.lit (.bool true)], args := [d1, d2, d3] }
  | _ => none }
def causalCodesRow : OpenClaim := { program := "ytjfeeiljinbmjaa", sum := "0be3d796f5f3be075dae1c605e4aaad2b3e831b59e0f7304c1fe01f5e319cbc0", func := "trolley/trolleylaw03.CausalCodes", spec := "causalCodes", unfollowed := true, recurses := true, plainKeys := false, apart := false }
def CausalCodesSaid : Prop := causalCodesRow.holds Try.pinned (OpenSpec.ofChange causalCodesSpec)

/-- ITS FALSE NEIGHBOUR: 'it returns false'. Refute it at one input. -/
def causalCodesWrong : ChangeSpec := { name := "causalCodes", fn := fun _ => fun
  | [d1, d2, d3] => { results := [.lit (.bool false)], args := [d1, d2, d3] }
  | _ => none }
def CausalCodesWrongFalsely : Prop := causalCodesRow.holds Try.pinned (OpenSpec.ofChange causalCodesWrong)

/-- 'trolleylaw13.GossipCounts': WHATEVER THE INPUT: true; the input reads as it did. -/
def gossipCountsSpec : ChangeSpec := { name := "gossipCounts", fn := fun _ => fun
  | [d] => { results := [.lit (.bool true)], args := [d] }
  | _ => none }
def gossipCountsRow : OpenClaim := { program := "ytjfeeiljinbmjaa", sum := "0be3d796f5f3be075dae1c605e4aaad2b3e831b59e0f7304c1fe01f5e319cbc0", func := "trolley/trolleylaw13.GossipCounts", spec := "gossipCounts", inPlace := ["slices.overlaps[trolley/gossip.rumour]"], unfollowed := true, recurses := true, plainKeys := false, apart := false }
def GossipCountsSaid : Prop := gossipCountsRow.holds Try.pinned (OpenSpec.ofChange gossipCountsSpec)

/-- ITS FALSE NEIGHBOUR: 'it returns false'. Refute it at one input. -/
def gossipCountsWrong : ChangeSpec := { name := "gossipCounts", fn := fun _ => fun
  | [d] => { results := [.lit (.bool false)], args := [d] }
  | _ => none }
def GossipCountsWrongFalsely : Prop := gossipCountsRow.holds Try.pinned (OpenSpec.ofChange gossipCountsWrong)

/-- 'trolleylaw13.GossipNobody': WHATEVER THE INPUT: true; the input reads as it did. -/
def gossipNobodySpec : ChangeSpec := { name := "gossipNobody", fn := fun _ => fun
  | [d1, d2] => { results := [.lit (.bool true)], args := [d1, d2] }
  | _ => none }
def gossipNobodyRow : OpenClaim := { program := "ytjfeeiljinbmjaa", sum := "0be3d796f5f3be075dae1c605e4aaad2b3e831b59e0f7304c1fe01f5e319cbc0", func := "trolley/trolleylaw13.GossipNobody", spec := "gossipNobody", inPlace := ["slices.overlaps[trolley/gossip.rumour]"], unfollowed := true, recurses := true, plainKeys := false, apart := false }
def GossipNobodySaid : Prop := gossipNobodyRow.holds Try.pinned (OpenSpec.ofChange gossipNobodySpec)

/-- ITS FALSE NEIGHBOUR: 'it returns false'. Refute it at one input. -/
def gossipNobodyWrong : ChangeSpec := { name := "gossipNobody", fn := fun _ => fun
  | [d1, d2] => { results := [.lit (.bool false)], args := [d1, d2] }
  | _ => none }
def GossipNobodyWrongFalsely : Prop := gossipNobodyRow.holds Try.pinned (OpenSpec.ofChange gossipNobodyWrong)

/-- 'trolleylaw03.CausalLattice': WHATEVER THE INPUT: true; the input reads as it did. -/
def causalLatticeSpec : ChangeSpec := { name := "causalLattice", fn := fun _ => fun
  | [d1, d2, d3, d4, d5, d6] => { results := [.lit (.bool true)], args := [d1, d2, d3, d4, d5, d6] }
  | _ => none }
def causalLatticeRow : OpenClaim := { program := "ytjfeeiljinbmjaa", sum := "0be3d796f5f3be075dae1c605e4aaad2b3e831b59e0f7304c1fe01f5e319cbc0", func := "trolley/trolleylaw03.CausalLattice", spec := "causalLattice", inPlace := ["slices.overlaps[trolley/api.Mark]"], unfollowed := true, recurses := true, plainKeys := false, apart := false }
def CausalLatticeSaid : Prop := causalLatticeRow.holds Try.pinned (OpenSpec.ofChange causalLatticeSpec)

/-- ITS FALSE NEIGHBOUR: 'it returns false'. Refute it at one input. -/
def causalLatticeWrong : ChangeSpec := { name := "causalLattice", fn := fun _ => fun
  | [d1, d2, d3, d4, d5, d6] => { results := [.lit (.bool false)], args := [d1, d2, d3, d4, d5, d6] }
  | _ => none }
def CausalLatticeWrongFalsely : Prop := causalLatticeRow.holds Try.pinned (OpenSpec.ofChange causalLatticeWrong)

/-- 'trolleylaw03.CausalJoins': WHATEVER THE INPUT: true; the input reads as it did. -/
def causalJoinsSpec : ChangeSpec := { name := "causalJoins", fn := fun _ => fun
  | [d1, d2, d3] => { results := [.lit (.bool true)], args := [d1, d2, d3] }
  | _ => none }
def causalJoinsRow : OpenClaim := { program := "ytjfeeiljinbmjaa", sum := "0be3d796f5f3be075dae1c605e4aaad2b3e831b59e0f7304c1fe01f5e319cbc0", func := "trolley/trolleylaw03.CausalJoins", spec := "causalJoins", inPlace := ["slices.overlaps[trolley/api.Mark]"], unfollowed := true, recurses := true, plainKeys := false, apart := false }
def CausalJoinsSaid : Prop := causalJoinsRow.holds Try.pinned (OpenSpec.ofChange causalJoinsSpec)

/-- ITS FALSE NEIGHBOUR: 'it returns false'. Refute it at one input. -/
def causalJoinsWrong : ChangeSpec := { name := "causalJoins", fn := fun _ => fun
  | [d1, d2, d3] => { results := [.lit (.bool false)], args := [d1, d2, d3] }
  | _ => none }
def CausalJoinsWrongFalsely : Prop := causalJoinsRow.holds Try.pinned (OpenSpec.ofChange causalJoinsWrong)

/- THE SECOND FORM. 'bulk': how many values and letters a reading holds, each counted each time it is reached (what is shared counts as often as it is met; a slice's spare places count too). A statement '..UptoSaid' is the law's where the arguments, and the package variables that the reading takes, are together of bulk at most 1048576: NARROWER than '..Said'. Prove '..Said' where nothing that the law and all that it calls make is longer than what came in: it says more and counts as full. Else prove '..UptoSaid'. A law counts once. -/
mutual
def uptoBulk {H : Type} : DataW H → Nat
  | .lit (.string bytes) => bytes.length + 1
  | .lit _ => 1
  | .nil => 1
  | .ptr d => uptoBulk d + 1
  | .slice elems spare => uptoBulkAll elems + uptoBulkAll spare + 1
  | .agg parts => uptoBulkAll parts + 1
  | .iface _ d => uptoBulk d + 1
  | .map entries => uptoBulkEntries entries + 1
  | .held _ => 1
def uptoBulkAll {H : Type} : List (DataW H) → Nat
  | [] => 0
  | d :: r => uptoBulk d + uptoBulkAll r
def uptoBulkEntries {H : Type} : List (Lit × DataW H) → Nat
  | [] => 0
  | x :: r => uptoBulkEntry x + uptoBulkEntries r
def uptoBulkEntry {H : Type} : Lit × DataW H → Nat
  | (.string bytes, d) => bytes.length + uptoBulk d + 1
  | (_, d) => uptoBulk d + 1
 end
def uptoSmall : (H : Type) → List (DataW H) → Bool := fun _ ds => decide (uptoBulkAll ds ≤ 1048576)
def OpenSpec.upto (s : _root_.Go.ChangeSpec) : _root_.Go.OpenSpec := { _root_.Go.OpenSpec.ofChange s with cond := some uptoSmall }

/-- 'trolleylaw15.TokenLetters', WHERE WHAT IT READS IS OF BULK AT MOST 1048576: true; the input reads as it did. -/
def tokenLettersUptoRow : OpenClaim := { program := "ytjfeeiljinbmjaa", sum := "0be3d796f5f3be075dae1c605e4aaad2b3e831b59e0f7304c1fe01f5e319cbc0", func := "trolley/trolleylaw15.TokenLetters", spec := "tokenLetters", plainKeys := false, apart := false, narrowed := true }
def TokenLettersUptoSaid : Prop := tokenLettersUptoRow.holds Try.pinned (OpenSpec.upto tokenLettersSpec)

/-- 'trolleylaw03.CausalAsks', WHERE WHAT IT READS IS OF BULK AT MOST 1048576: true; the input reads as it did. -/
def causalAsksUptoRow : OpenClaim := { program := "ytjfeeiljinbmjaa", sum := "0be3d796f5f3be075dae1c605e4aaad2b3e831b59e0f7304c1fe01f5e319cbc0", func := "trolley/trolleylaw03.CausalAsks", spec := "causalAsks", plainKeys := false, apart := false, narrowed := true }
def CausalAsksUptoSaid : Prop := causalAsksUptoRow.holds Try.pinned (OpenSpec.upto causalAsksSpec)

/-- 'trolleylaw13.GossipTurns', WHERE WHAT IT READS IS OF BULK AT MOST 1048576: true; the input reads as it did. -/
def gossipTurnsUptoRow : OpenClaim := { program := "ytjfeeiljinbmjaa", sum := "0be3d796f5f3be075dae1c605e4aaad2b3e831b59e0f7304c1fe01f5e319cbc0", func := "trolley/trolleylaw13.GossipTurns", spec := "gossipTurns", unfollowed := true, recurses := true, plainKeys := false, apart := false, narrowed := true }
def GossipTurnsUptoSaid : Prop := gossipTurnsUptoRow.holds Try.pinned (OpenSpec.upto gossipTurnsSpec)

/-- 'trolleylaw03.CausalPruned', WHERE WHAT IT READS IS OF BULK AT MOST 1048576: true; the input reads as it did. -/
def causalPrunedUptoRow : OpenClaim := { program := "ytjfeeiljinbmjaa", sum := "0be3d796f5f3be075dae1c605e4aaad2b3e831b59e0f7304c1fe01f5e319cbc0", func := "trolley/trolleylaw03.CausalPruned", spec := "causalPruned", plainKeys := false, apart := false, narrowed := true }
def CausalPrunedUptoSaid : Prop := causalPrunedUptoRow.holds Try.pinned (OpenSpec.upto causalPrunedSpec)

/-- 'trolleylaw03.CausalBack', WHERE WHAT IT READS IS OF BULK AT MOST 1048576: true; the input reads as it did. -/
def causalBackUptoRow : OpenClaim := { program := "ytjfeeiljinbmjaa", sum := "0be3d796f5f3be075dae1c605e4aaad2b3e831b59e0f7304c1fe01f5e319cbc0", func := "trolley/trolleylaw03.CausalBack", spec := "causalBack", unfollowed := true, recurses := true, plainKeys := false, apart := false, narrowed := true }
def CausalBackUptoSaid : Prop := causalBackUptoRow.holds Try.pinned (OpenSpec.upto causalBackSpec)

/-- 'trolleylaw03.CausalCodes', WHERE WHAT IT READS IS OF BULK AT MOST 1048576: true; the input reads as it did. -/
def causalCodesUptoRow : OpenClaim := { program := "ytjfeeiljinbmjaa", sum := "0be3d796f5f3be075dae1c605e4aaad2b3e831b59e0f7304c1fe01f5e319cbc0", func := "trolley/trolleylaw03.CausalCodes", spec := "causalCodes", unfollowed := true, recurses := true, plainKeys := false, apart := false, narrowed := true }
def CausalCodesUptoSaid : Prop := causalCodesUptoRow.holds Try.pinned (OpenSpec.upto causalCodesSpec)

/-- 'trolleylaw13.GossipCounts', WHERE WHAT IT READS IS OF BULK AT MOST 1048576: true; the input reads as it did. -/
def gossipCountsUptoRow : OpenClaim := { program := "ytjfeeiljinbmjaa", sum := "0be3d796f5f3be075dae1c605e4aaad2b3e831b59e0f7304c1fe01f5e319cbc0", func := "trolley/trolleylaw13.GossipCounts", spec := "gossipCounts", inPlace := ["slices.overlaps[trolley/gossip.rumour]"], unfollowed := true, recurses := true, plainKeys := false, apart := false, narrowed := true }
def GossipCountsUptoSaid : Prop := gossipCountsUptoRow.holds Try.pinned (OpenSpec.upto gossipCountsSpec)

/-- 'trolleylaw13.GossipNobody', WHERE WHAT IT READS IS OF BULK AT MOST 1048576: true; the input reads as it did. -/
def gossipNobodyUptoRow : OpenClaim := { program := "ytjfeeiljinbmjaa", sum := "0be3d796f5f3be075dae1c605e4aaad2b3e831b59e0f7304c1fe01f5e319cbc0", func := "trolley/trolleylaw13.GossipNobody", spec := "gossipNobody", inPlace := ["slices.overlaps[trolley/gossip.rumour]"], unfollowed := true, recurses := true, plainKeys := false, apart := false, narrowed := true }
def GossipNobodyUptoSaid : Prop := gossipNobodyUptoRow.holds Try.pinned (OpenSpec.upto gossipNobodySpec)

/-- 'trolleylaw03.CausalLattice', WHERE WHAT IT READS IS OF BULK AT MOST 1048576: true; the input reads as it did. -/
def causalLatticeUptoRow : OpenClaim := { program := "ytjfeeiljinbmjaa", sum := "0be3d796f5f3be075dae1c605e4aaad2b3e831b59e0f7304c1fe01f5e319cbc0", func := "trolley/trolleylaw03.CausalLattice", spec := "causalLattice", inPlace := ["slices.overlaps[trolley/api.Mark]"], unfollowed := true, recurses := true, plainKeys := false, apart := false, narrowed := true }
def CausalLatticeUptoSaid : Prop := causalLatticeUptoRow.holds Try.pinned (OpenSpec.upto causalLatticeSpec)

/-- 'trolleylaw03.CausalJoins', WHERE WHAT IT READS IS OF BULK AT MOST 1048576: true; the input reads as it did. -/
def causalJoinsUptoRow : OpenClaim := { program := "ytjfeeiljinbmjaa", sum := "0be3d796f5f3be075dae1c605e4aaad2b3e831b59e0f7304c1fe01f5e319cbc0", func := "trolley/trolleylaw03.CausalJoins", spec := "causalJoins", inPlace := ["slices.overlaps[trolley/api.Mark]"], unfollowed := true, recurses := true, plainKeys := false, apart := false, narrowed := true }
def CausalJoinsUptoSaid : Prop := causalJoinsUptoRow.holds Try.pinned (OpenSpec.upto causalJoinsSpec)

end Rows
end Go.Proofs.Ytjfeeiljinbmjaa
