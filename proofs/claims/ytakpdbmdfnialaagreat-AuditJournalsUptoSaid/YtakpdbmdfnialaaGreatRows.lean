/-
  No cell of these rows narrows 'for every input' (looked for: loops, veiled, ifaces, maps, wideKeys, modest, calm, conditions, laid).
  DERIVED. THE GIVEN ROWS OF THIS SEAT. 10 by the template 'for every input the law returns true; each argument reads behind the call as it read before'; 0 by the template 'total and deterministic' (their statements: YtakpdbmdfnialaaGreatTotals.lean).
  GIVEN WITH THE SEED: the statements are not yours to turn. If you find one false, say at which input.
  Laid BY PROGRAM, IN A SANDBOX (cutbox-rows.mjs): the forced cells as the released guide's own fill.sh prints them over the translation ff40be2888684ebe… (all of the seat's roots in one cut). By AI agents, Wed Nov 11 2026. No macro, syntax, notation, axiom, sorry.
-/
import Derived.Test.YtakpdbmdfnialaaGreatChecked
import GoSem.Claim
import GoSem.ClaimJoined
import GoSem.ClaimMapViews
import Derived.JoinedTies
import Derived.KernelRfl
namespace Go.Proofs.YtakpdbmdfnialaaGreat
/- THE CELL 'sum', in the pinned program and in every row, IS THE sha256 OF THE DUMP (.gsa) THAT YtakpdbmdfnialaaGreatProg.lean LOADS. Nothing in Lean hashes anything: it is a label: what it is worth is what the hold of that sum in a sandbox is worth. -/
noncomputable def Tryz.pinned : Pinned := { name := "ytakpdbmdfnialaagreat", sum := "ff40be2888684ebe6f91d9aaf1f2cb978e07fb8c95f0b81f8d588b0aefda0e8d", checked := Tryz.checked }
namespace Rows
def none {H : Type} : Left H := { results := [], args := [] }

/-- 'trolleylaw20.RetireLives': WHATEVER THE INPUT: true; the input reads as it did. -/
def retireLivesSpec : ChangeSpec := { name := "retireLives", fn := fun _ => fun
  | [d] => { results := [.lit (.bool true)], args := [d] }
  | _ => none }
def retireLivesRow : OpenClaim := { program := "ytakpdbmdfnialaagreat", sum := "ff40be2888684ebe6f91d9aaf1f2cb978e07fb8c95f0b81f8d588b0aefda0e8d", func := "trolley/trolleylaw20.RetireLives", spec := "retireLives", inPlace := ["slices.overlaps[trolley/api.Gone]", "internal/bytealg.IndexByteString", "internal/bytealg.IndexString", "math.Float64frombits", "internal/bytealg.abigen_runtime_cmpstring"], unfollowed := true, recurses := true, named := ["internal/bytealg.MaxLen"], plainKeys := false, apart := false }
def RetireLivesSaid : Prop := retireLivesRow.holds Tryz.pinned (OpenSpec.ofChange retireLivesSpec)

/-- ITS FALSE NEIGHBOUR: 'it returns false'. Refute it at one input. -/
def retireLivesWrong : ChangeSpec := { name := "retireLives", fn := fun _ => fun
  | [d] => { results := [.lit (.bool false)], args := [d] }
  | _ => none }
def RetireLivesWrongFalsely : Prop := retireLivesRow.holds Tryz.pinned (OpenSpec.ofChange retireLivesWrong)

/-- 'trolleylaw20.RetireJoined': WHATEVER THE INPUT: true; the input reads as it did. -/
def retireJoinedSpec : ChangeSpec := { name := "retireJoined", fn := fun _ => fun
  | [d1, d2, d3] => { results := [.lit (.bool true)], args := [d1, d2, d3] }
  | _ => none }
def retireJoinedRow : OpenClaim := { program := "ytakpdbmdfnialaagreat", sum := "ff40be2888684ebe6f91d9aaf1f2cb978e07fb8c95f0b81f8d588b0aefda0e8d", func := "trolley/trolleylaw20.RetireJoined", spec := "retireJoined", inPlace := ["slices.overlaps[trolley/api.Gone]", "internal/bytealg.IndexByteString", "internal/bytealg.IndexString", "math.Float64frombits", "internal/bytealg.abigen_runtime_cmpstring"], unfollowed := true, recurses := true, named := ["internal/bytealg.MaxLen"], plainKeys := false, apart := false }
def RetireJoinedSaid : Prop := retireJoinedRow.holds Tryz.pinned (OpenSpec.ofChange retireJoinedSpec)

/-- ITS FALSE NEIGHBOUR: 'it returns false'. Refute it at one input. -/
def retireJoinedWrong : ChangeSpec := { name := "retireJoined", fn := fun _ => fun
  | [d1, d2, d3] => { results := [.lit (.bool false)], args := [d1, d2, d3] }
  | _ => none }
def RetireJoinedWrongFalsely : Prop := retireJoinedRow.holds Tryz.pinned (OpenSpec.ofChange retireJoinedWrong)

/-- 'trolleylaw20.RetireApart': WHATEVER THE INPUT: true; the input reads as it did. -/
def retireApartSpec : ChangeSpec := { name := "retireApart", fn := fun _ => fun
  | [d1, d2, d3] => { results := [.lit (.bool true)], args := [d1, d2, d3] }
  | _ => none }
def retireApartRow : OpenClaim := { program := "ytakpdbmdfnialaagreat", sum := "ff40be2888684ebe6f91d9aaf1f2cb978e07fb8c95f0b81f8d588b0aefda0e8d", func := "trolley/trolleylaw20.RetireApart", spec := "retireApart", inPlace := ["slices.overlaps[trolley/api.Gone]", "internal/bytealg.IndexByteString", "internal/bytealg.IndexString", "math.Float64frombits", "internal/bytealg.abigen_runtime_cmpstring"], unfollowed := true, recurses := true, named := ["internal/bytealg.MaxLen"], plainKeys := false, apart := false }
def RetireApartSaid : Prop := retireApartRow.holds Tryz.pinned (OpenSpec.ofChange retireApartSpec)

/-- ITS FALSE NEIGHBOUR: 'it returns false'. Refute it at one input. -/
def retireApartWrong : ChangeSpec := { name := "retireApart", fn := fun _ => fun
  | [d1, d2, d3] => { results := [.lit (.bool false)], args := [d1, d2, d3] }
  | _ => none }
def RetireApartWrongFalsely : Prop := retireApartRow.holds Tryz.pinned (OpenSpec.ofChange retireApartWrong)

/-- 'trolleylaw20.RetireReady': WHATEVER THE INPUT: true; the input reads as it did. -/
def retireReadySpec : ChangeSpec := { name := "retireReady", fn := fun _ => fun
  | [d1, d2] => { results := [.lit (.bool true)], args := [d1, d2] }
  | _ => none }
def retireReadyRow : OpenClaim := { program := "ytakpdbmdfnialaagreat", sum := "ff40be2888684ebe6f91d9aaf1f2cb978e07fb8c95f0b81f8d588b0aefda0e8d", func := "trolley/trolleylaw20.RetireReady", spec := "retireReady", inPlace := ["internal/bytealg.IndexByteString", "internal/bytealg.IndexString", "math.Float64frombits", "internal/bytealg.abigen_runtime_cmpstring", "slices.overlaps[trolley/api.Gone]"], unfollowed := true, recurses := true, named := ["internal/bytealg.MaxLen"], plainKeys := false, apart := false }
def RetireReadySaid : Prop := retireReadyRow.holds Tryz.pinned (OpenSpec.ofChange retireReadySpec)

/-- ITS FALSE NEIGHBOUR: 'it returns false'. Refute it at one input. -/
def retireReadyWrong : ChangeSpec := { name := "retireReady", fn := fun _ => fun
  | [d1, d2] => { results := [.lit (.bool false)], args := [d1, d2] }
  | _ => none }
def RetireReadyWrongFalsely : Prop := retireReadyRow.holds Tryz.pinned (OpenSpec.ofChange retireReadyWrong)

/-- 'trolleylaw26.AuditOrder': WHATEVER THE INPUT: true; the input reads as it did. -/
def auditOrderSpec : ChangeSpec := { name := "auditOrder", fn := fun _ => fun
  | [d1, d2] => { results := [.lit (.bool true)], args := [d1, d2] }
  | _ => none }
def auditOrderRow : OpenClaim := { program := "ytakpdbmdfnialaagreat", sum := "ff40be2888684ebe6f91d9aaf1f2cb978e07fb8c95f0b81f8d588b0aefda0e8d", func := "trolley/trolleylaw26.AuditOrder", spec := "auditOrder", inPlace := ["internal/bytealg.IndexByteString", "internal/bytealg.IndexString", "math.Float64frombits", "internal/bytealg.abigen_runtime_cmpstring", "slices.overlaps[trolley/api.Mark]"], unfollowed := true, recurses := true, named := ["internal/bytealg.MaxLen"], plainKeys := false, apart := false }
def AuditOrderSaid : Prop := auditOrderRow.holds Tryz.pinned (OpenSpec.ofChange auditOrderSpec)

/-- ITS FALSE NEIGHBOUR: 'it returns false'. Refute it at one input. -/
def auditOrderWrong : ChangeSpec := { name := "auditOrder", fn := fun _ => fun
  | [d1, d2] => { results := [.lit (.bool false)], args := [d1, d2] }
  | _ => none }
def AuditOrderWrongFalsely : Prop := auditOrderRow.holds Tryz.pinned (OpenSpec.ofChange auditOrderWrong)

/-- 'trolleylaw26.AuditJoins': WHATEVER THE INPUT: true; the input reads as it did. -/
def auditJoinsSpec : ChangeSpec := { name := "auditJoins", fn := fun _ => fun
  | [d] => { results := [.lit (.bool true)], args := [d] }
  | _ => none }
def auditJoinsRow : OpenClaim := { program := "ytakpdbmdfnialaagreat", sum := "ff40be2888684ebe6f91d9aaf1f2cb978e07fb8c95f0b81f8d588b0aefda0e8d", func := "trolley/trolleylaw26.AuditJoins", spec := "auditJoins", inPlace := ["internal/bytealg.IndexByteString", "internal/bytealg.IndexString", "math.Float64frombits", "internal/bytealg.abigen_runtime_cmpstring", "slices.overlaps[trolley/api.Mark]"], unfollowed := true, recurses := true, named := ["internal/bytealg.MaxLen"], plainKeys := false, apart := false }
def AuditJoinsSaid : Prop := auditJoinsRow.holds Tryz.pinned (OpenSpec.ofChange auditJoinsSpec)

/-- ITS FALSE NEIGHBOUR: 'it returns false'. Refute it at one input. -/
def auditJoinsWrong : ChangeSpec := { name := "auditJoins", fn := fun _ => fun
  | [d] => { results := [.lit (.bool false)], args := [d] }
  | _ => none }
def AuditJoinsWrongFalsely : Prop := auditJoinsRow.holds Tryz.pinned (OpenSpec.ofChange auditJoinsWrong)

/-- 'trolleylaw26.AuditLost': WHATEVER THE INPUT: true; the input reads as it did. -/
def auditLostSpec : ChangeSpec := { name := "auditLost", fn := fun _ => fun
  | [d1, d2, d3] => { results := [.lit (.bool true)], args := [d1, d2, d3] }
  | _ => none }
def auditLostRow : OpenClaim := { program := "ytakpdbmdfnialaagreat", sum := "ff40be2888684ebe6f91d9aaf1f2cb978e07fb8c95f0b81f8d588b0aefda0e8d", func := "trolley/trolleylaw26.AuditLost", spec := "auditLost", inPlace := ["internal/bytealg.IndexByteString", "internal/bytealg.IndexString", "math.Float64frombits", "internal/bytealg.abigen_runtime_cmpstring", "slices.overlaps[trolley/api.Mark]"], unfollowed := true, recurses := true, named := ["internal/bytealg.MaxLen"], plainKeys := false, apart := false }
def AuditLostSaid : Prop := auditLostRow.holds Tryz.pinned (OpenSpec.ofChange auditLostSpec)

/-- ITS FALSE NEIGHBOUR: 'it returns false'. Refute it at one input. -/
def auditLostWrong : ChangeSpec := { name := "auditLost", fn := fun _ => fun
  | [d1, d2, d3] => { results := [.lit (.bool false)], args := [d1, d2, d3] }
  | _ => none }
def AuditLostWrongFalsely : Prop := auditLostRow.holds Tryz.pinned (OpenSpec.ofChange auditLostWrong)

/-- 'trolleylaw26.AuditReads': WHATEVER THE INPUT: true; the input reads as it did. -/
def auditReadsSpec : ChangeSpec := { name := "auditReads", fn := fun _ => fun
  | [d1, d2, d3] => { results := [.lit (.bool true)], args := [d1, d2, d3] }
  | _ => none }
def auditReadsRow : OpenClaim := { program := "ytakpdbmdfnialaagreat", sum := "ff40be2888684ebe6f91d9aaf1f2cb978e07fb8c95f0b81f8d588b0aefda0e8d", func := "trolley/trolleylaw26.AuditReads", spec := "auditReads", inPlace := ["internal/bytealg.IndexByteString", "internal/bytealg.IndexString", "math.Float64frombits", "internal/bytealg.abigen_runtime_cmpstring", "slices.overlaps[trolley/api.Mark]"], unfollowed := true, recurses := true, named := ["internal/bytealg.MaxLen"], plainKeys := false, apart := false }
def AuditReadsSaid : Prop := auditReadsRow.holds Tryz.pinned (OpenSpec.ofChange auditReadsSpec)

/-- ITS FALSE NEIGHBOUR: 'it returns false'. Refute it at one input. -/
def auditReadsWrong : ChangeSpec := { name := "auditReads", fn := fun _ => fun
  | [d1, d2, d3] => { results := [.lit (.bool false)], args := [d1, d2, d3] }
  | _ => none }
def AuditReadsWrongFalsely : Prop := auditReadsRow.holds Tryz.pinned (OpenSpec.ofChange auditReadsWrong)

/-- 'trolleylaw26.AuditBegins': WHATEVER THE INPUT: true; the input reads as it did. -/
def auditBeginsSpec : ChangeSpec := { name := "auditBegins", fn := fun _ => fun
  | [d1, d2] => { results := [.lit (.bool true)], args := [d1, d2] }
  | _ => none }
def auditBeginsRow : OpenClaim := { program := "ytakpdbmdfnialaagreat", sum := "ff40be2888684ebe6f91d9aaf1f2cb978e07fb8c95f0b81f8d588b0aefda0e8d", func := "trolley/trolleylaw26.AuditBegins", spec := "auditBegins", inPlace := ["internal/bytealg.IndexByteString", "internal/bytealg.IndexString", "math.Float64frombits", "internal/bytealg.abigen_runtime_cmpstring", "slices.overlaps[trolley/api.Mark]"], unfollowed := true, recurses := true, named := ["internal/bytealg.MaxLen"], plainKeys := false, apart := false }
def AuditBeginsSaid : Prop := auditBeginsRow.holds Tryz.pinned (OpenSpec.ofChange auditBeginsSpec)

/-- ITS FALSE NEIGHBOUR: 'it returns false'. Refute it at one input. -/
def auditBeginsWrong : ChangeSpec := { name := "auditBegins", fn := fun _ => fun
  | [d1, d2] => { results := [.lit (.bool false)], args := [d1, d2] }
  | _ => none }
def AuditBeginsWrongFalsely : Prop := auditBeginsRow.holds Tryz.pinned (OpenSpec.ofChange auditBeginsWrong)

/-- 'trolleylaw26.AuditJournals': WHATEVER THE INPUT: true; the input reads as it did. -/
def auditJournalsSpec : ChangeSpec := { name := "auditJournals", fn := fun _ => fun
  | [d] => { results := [.lit (.bool true)], args := [d] }
  | _ => none }
def auditJournalsRow : OpenClaim := { program := "ytakpdbmdfnialaagreat", sum := "ff40be2888684ebe6f91d9aaf1f2cb978e07fb8c95f0b81f8d588b0aefda0e8d", func := "trolley/trolleylaw26.AuditJournals", spec := "auditJournals", inPlace := ["internal/bytealg.IndexByteString", "internal/bytealg.IndexString", "math.Float64frombits", "internal/bytealg.abigen_runtime_cmpstring", "slices.overlaps[trolley/api.Mark]"], unfollowed := true, recurses := true, named := ["internal/bytealg.MaxLen"], plainKeys := false, apart := false }
def AuditJournalsSaid : Prop := auditJournalsRow.holds Tryz.pinned (OpenSpec.ofChange auditJournalsSpec)

/-- ITS FALSE NEIGHBOUR: 'it returns false'. Refute it at one input. -/
def auditJournalsWrong : ChangeSpec := { name := "auditJournals", fn := fun _ => fun
  | [d] => { results := [.lit (.bool false)], args := [d] }
  | _ => none }
def AuditJournalsWrongFalsely : Prop := auditJournalsRow.holds Tryz.pinned (OpenSpec.ofChange auditJournalsWrong)

/- THE SECOND FORM. 'bulk': how many values and letters a reading holds, each counted each time it is reached (what is shared counts as often as it is met; a slice's spare places count too). A statement '..UptoSaid' is the law's where the arguments, and the package variables that the reading takes, are together of bulk at most 1048576: NARROWER than '..Said'. Prove '..Said' where nothing that the law and all that it calls make is longer than what came in: it says more and counts as full. Else prove '..UptoSaid'. A law counts once. -/
mutual
def uptoBulk {H : Type} : DataW H → Nat
  | .lit (.string bytes) => bytes.length + 1
  | .lit _ => 1
  | .nil => 1
  | .ptr d => uptoBulk d + 1
  | .slice elems spare => uptoBulkAll elems + uptoBulkAll spare + 1
  | .agg parts => uptoBulkAll parts + 1
  | .iface _ d => uptoBulk d + 1
  | .map entries => uptoBulkEntries entries + 1
  | .held _ => 1
def uptoBulkAll {H : Type} : List (DataW H) → Nat
  | [] => 0
  | d :: r => uptoBulk d + uptoBulkAll r
def uptoBulkEntries {H : Type} : List (Lit × DataW H) → Nat
  | [] => 0
  | x :: r => uptoBulkEntry x + uptoBulkEntries r
def uptoBulkEntry {H : Type} : Lit × DataW H → Nat
  | (.string bytes, d) => bytes.length + uptoBulk d + 1
  | (_, d) => uptoBulk d + 1
 end
def uptoSmall : (H : Type) → List (DataW H) → Bool := fun _ ds => decide (uptoBulkAll ds ≤ 1048576)
def OpenSpec.upto (s : _root_.Go.ChangeSpec) : _root_.Go.OpenSpec := { _root_.Go.OpenSpec.ofChange s with cond := some uptoSmall }

/-- 'trolleylaw20.RetireLives', WHERE WHAT IT READS IS OF BULK AT MOST 1048576: true; the input reads as it did. -/
def retireLivesUptoRow : OpenClaim := { program := "ytakpdbmdfnialaagreat", sum := "ff40be2888684ebe6f91d9aaf1f2cb978e07fb8c95f0b81f8d588b0aefda0e8d", func := "trolley/trolleylaw20.RetireLives", spec := "retireLives", inPlace := ["slices.overlaps[trolley/api.Gone]", "internal/bytealg.IndexByteString", "internal/bytealg.IndexString", "math.Float64frombits", "internal/bytealg.abigen_runtime_cmpstring"], unfollowed := true, recurses := true, named := ["internal/bytealg.MaxLen"], plainKeys := false, apart := false, narrowed := true }
def RetireLivesUptoSaid : Prop := retireLivesUptoRow.holds Tryz.pinned (OpenSpec.upto retireLivesSpec)

/-- 'trolleylaw20.RetireJoined', WHERE WHAT IT READS IS OF BULK AT MOST 1048576: true; the input reads as it did. -/
def retireJoinedUptoRow : OpenClaim := { program := "ytakpdbmdfnialaagreat", sum := "ff40be2888684ebe6f91d9aaf1f2cb978e07fb8c95f0b81f8d588b0aefda0e8d", func := "trolley/trolleylaw20.RetireJoined", spec := "retireJoined", inPlace := ["slices.overlaps[trolley/api.Gone]", "internal/bytealg.IndexByteString", "internal/bytealg.IndexString", "math.Float64frombits", "internal/bytealg.abigen_runtime_cmpstring"], unfollowed := true, recurses := true, named := ["internal/bytealg.MaxLen"], plainKeys := false, apart := false, narrowed := true }
def RetireJoinedUptoSaid : Prop := retireJoinedUptoRow.holds Tryz.pinned (OpenSpec.upto retireJoinedSpec)

/-- 'trolleylaw20.RetireApart', WHERE WHAT IT READS IS OF BULK AT MOST 1048576: true; the input reads as it did. -/
def retireApartUptoRow : OpenClaim := { program := "ytakpdbmdfnialaagreat", sum := "ff40be2888684ebe6f91d9aaf1f2cb978e07fb8c95f0b81f8d588b0aefda0e8d", func := "trolley/trolleylaw20.RetireApart", spec := "retireApart", inPlace := ["slices.overlaps[trolley/api.Gone]", "internal/bytealg.IndexByteString", "internal/bytealg.IndexString", "math.Float64frombits", "internal/bytealg.abigen_runtime_cmpstring"], unfollowed := true, recurses := true, named := ["internal/bytealg.MaxLen"], plainKeys := false, apart := false, narrowed := true }
def RetireApartUptoSaid : Prop := retireApartUptoRow.holds Tryz.pinned (OpenSpec.upto retireApartSpec)

/-- 'trolleylaw20.RetireReady', WHERE WHAT IT READS IS OF BULK AT MOST 1048576: true; the input reads as it did. -/
def retireReadyUptoRow : OpenClaim := { program := "ytakpdbmdfnialaagreat", sum := "ff40be2888684ebe6f91d9aaf1f2cb978e07fb8c95f0b81f8d588b0aefda0e8d", func := "trolley/trolleylaw20.RetireReady", spec := "retireReady", inPlace := ["internal/bytealg.IndexByteString", "internal/bytealg.IndexString", "math.Float64frombits", "internal/bytealg.abigen_runtime_cmpstring", "slices.overlaps[trolley/api.Gone]"], unfollowed := true, recurses := true, named := ["internal/bytealg.MaxLen"], plainKeys := false, apart := false, narrowed := true }
def RetireReadyUptoSaid : Prop := retireReadyUptoRow.holds Tryz.pinned (OpenSpec.upto retireReadySpec)

/-- 'trolleylaw26.AuditOrder', WHERE WHAT IT READS IS OF BULK AT MOST 1048576: true; the input reads as it did. -/
def auditOrderUptoRow : OpenClaim := { program := "ytakpdbmdfnialaagreat", sum := "ff40be2888684ebe6f91d9aaf1f2cb978e07fb8c95f0b81f8d588b0aefda0e8d", func := "trolley/trolleylaw26.AuditOrder", spec := "auditOrder", inPlace := ["internal/bytealg.IndexByteString", "internal/bytealg.IndexString", "math.Float64frombits", "internal/bytealg.abigen_runtime_cmpstring", "slices.overlaps[trolley/api.Mark]"], unfollowed := true, recurses := true, named := ["internal/bytealg.MaxLen"], plainKeys := false, apart := false, narrowed := true }
def AuditOrderUptoSaid : Prop := auditOrderUptoRow.holds Tryz.pinned (OpenSpec.upto auditOrderSpec)

/-- 'trolleylaw26.AuditJoins', WHERE WHAT IT READS IS OF BULK AT MOST 1048576: true; the input reads as it did. -/
def auditJoinsUptoRow : OpenClaim := { program := "ytakpdbmdfnialaagreat", sum := "ff40be2888684ebe6f91d9aaf1f2cb978e07fb8c95f0b81f8d588b0aefda0e8d", func := "trolley/trolleylaw26.AuditJoins", spec := "auditJoins", inPlace := ["internal/bytealg.IndexByteString", "internal/bytealg.IndexString", "math.Float64frombits", "internal/bytealg.abigen_runtime_cmpstring", "slices.overlaps[trolley/api.Mark]"], unfollowed := true, recurses := true, named := ["internal/bytealg.MaxLen"], plainKeys := false, apart := false, narrowed := true }
def AuditJoinsUptoSaid : Prop := auditJoinsUptoRow.holds Tryz.pinned (OpenSpec.upto auditJoinsSpec)

/-- 'trolleylaw26.AuditLost', WHERE WHAT IT READS IS OF BULK AT MOST 1048576: true; the input reads as it did. -/
def auditLostUptoRow : OpenClaim := { program := "ytakpdbmdfnialaagreat", sum := "ff40be2888684ebe6f91d9aaf1f2cb978e07fb8c95f0b81f8d588b0aefda0e8d", func := "trolley/trolleylaw26.AuditLost", spec := "auditLost", inPlace := ["internal/bytealg.IndexByteString", "internal/bytealg.IndexString", "math.Float64frombits", "internal/bytealg.abigen_runtime_cmpstring", "slices.overlaps[trolley/api.Mark]"], unfollowed := true, recurses := true, named := ["internal/bytealg.MaxLen"], plainKeys := false, apart := false, narrowed := true }
def AuditLostUptoSaid : Prop := auditLostUptoRow.holds Tryz.pinned (OpenSpec.upto auditLostSpec)

/-- 'trolleylaw26.AuditReads', WHERE WHAT IT READS IS OF BULK AT MOST 1048576: true; the input reads as it did. -/
def auditReadsUptoRow : OpenClaim := { program := "ytakpdbmdfnialaagreat", sum := "ff40be2888684ebe6f91d9aaf1f2cb978e07fb8c95f0b81f8d588b0aefda0e8d", func := "trolley/trolleylaw26.AuditReads", spec := "auditReads", inPlace := ["internal/bytealg.IndexByteString", "internal/bytealg.IndexString", "math.Float64frombits", "internal/bytealg.abigen_runtime_cmpstring", "slices.overlaps[trolley/api.Mark]"], unfollowed := true, recurses := true, named := ["internal/bytealg.MaxLen"], plainKeys := false, apart := false, narrowed := true }
def AuditReadsUptoSaid : Prop := auditReadsUptoRow.holds Tryz.pinned (OpenSpec.upto auditReadsSpec)

/-- 'trolleylaw26.AuditBegins', WHERE WHAT IT READS IS OF BULK AT MOST 1048576: true; the input reads as it did. -/
def auditBeginsUptoRow : OpenClaim := { program := "ytakpdbmdfnialaagreat", sum := "ff40be2888684ebe6f91d9aaf1f2cb978e07fb8c95f0b81f8d588b0aefda0e8d", func := "trolley/trolleylaw26.AuditBegins", spec := "auditBegins", inPlace := ["internal/bytealg.IndexByteString", "internal/bytealg.IndexString", "math.Float64frombits", "internal/bytealg.abigen_runtime_cmpstring", "slices.overlaps[trolley/api.Mark]"], unfollowed := true, recurses := true, named := ["internal/bytealg.MaxLen"], plainKeys := false, apart := false, narrowed := true }
def AuditBeginsUptoSaid : Prop := auditBeginsUptoRow.holds Tryz.pinned (OpenSpec.upto auditBeginsSpec)

/-- 'trolleylaw26.AuditJournals', WHERE WHAT IT READS IS OF BULK AT MOST 1048576: true; the input reads as it did. -/
def auditJournalsUptoRow : OpenClaim := { program := "ytakpdbmdfnialaagreat", sum := "ff40be2888684ebe6f91d9aaf1f2cb978e07fb8c95f0b81f8d588b0aefda0e8d", func := "trolley/trolleylaw26.AuditJournals", spec := "auditJournals", inPlace := ["internal/bytealg.IndexByteString", "internal/bytealg.IndexString", "math.Float64frombits", "internal/bytealg.abigen_runtime_cmpstring", "slices.overlaps[trolley/api.Mark]"], unfollowed := true, recurses := true, named := ["internal/bytealg.MaxLen"], plainKeys := false, apart := false, narrowed := true }
def AuditJournalsUptoSaid : Prop := auditJournalsUptoRow.holds Tryz.pinned (OpenSpec.upto auditJournalsSpec)

end Rows
end Go.Proofs.YtakpdbmdfnialaaGreat
