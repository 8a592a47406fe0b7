/-
  No cell of these rows narrows 'for every input' (looked for: loops, veiled, ifaces, maps, wideKeys, modest, calm, conditions, laid).
  DERIVED. THE GIVEN ROWS OF THIS SEAT. 10 by the template 'for every input the law returns true; each argument reads behind the call as it read before'; 0 by the template 'total and deterministic' (their statements: YtfblmkocmnbdcaaGreatTotals.lean).
  GIVEN WITH THE SEED: the statements are not yours to turn. If you find one false, say at which input.
  Laid BY PROGRAM, IN A SANDBOX (cutbox-rows.mjs): the forced cells as the released guide's own fill.sh prints them over the translation e998292c17d6c52a… (all of the seat's roots in one cut). By AI agents, Wed Nov 11 2026. No macro, syntax, notation, axiom, sorry.
-/
import Derived.Test.YtfblmkocmnbdcaaGreatChecked
import GoSem.Claim
import GoSem.ClaimJoined
import GoSem.ClaimMapViews
import Derived.JoinedTies
import Derived.KernelRfl
namespace Go.Proofs.YtfblmkocmnbdcaaGreat
/- THE CELL 'sum', in the pinned program and in every row, IS THE sha256 OF THE DUMP (.gsa) THAT YtfblmkocmnbdcaaGreatProg.lean LOADS. Nothing in Lean hashes anything: it is a label: what it is worth is what the hold of that sum in a sandbox is worth. -/
noncomputable def Tryz.pinned : Pinned := { name := "ytfblmkocmnbdcaagreat", sum := "e998292c17d6c52ab094ec36909fa2f5cbb7695b5a3bd546c765c5f0b9a42274", checked := Tryz.checked }
namespace Rows
def none {H : Type} : Left H := { results := [], args := [] }

/-- 'trolleylaw05.OrmapBack': WHATEVER THE INPUT: true; the input reads as it did. -/
def ormapBackSpec : ChangeSpec := { name := "ormapBack", fn := fun _ => fun
  | [d1, d2, d3] => { results := [.lit (.bool true)], args := [d1, d2, d3] }
  | _ => none }
def ormapBackRow : OpenClaim := { program := "ytfblmkocmnbdcaagreat", sum := "e998292c17d6c52ab094ec36909fa2f5cbb7695b5a3bd546c765c5f0b9a42274", func := "trolley/trolleylaw05.OrmapBack", spec := "ormapBack", inPlace := ["internal/bytealg.IndexByteString", "internal/bytealg.IndexString", "math.Float64frombits", "internal/bytealg.abigen_runtime_cmpstring"], unfollowed := true, recurses := true, named := ["internal/bytealg.MaxLen"], apart := false }
def OrmapBackSaid : Prop := ormapBackRow.holds Tryz.pinned (OpenSpec.ofChange ormapBackSpec)

/-- ITS FALSE NEIGHBOUR: 'it returns false'. Refute it at one input. -/
def ormapBackWrong : ChangeSpec := { name := "ormapBack", fn := fun _ => fun
  | [d1, d2, d3] => { results := [.lit (.bool false)], args := [d1, d2, d3] }
  | _ => none }
def OrmapBackWrongFalsely : Prop := ormapBackRow.holds Tryz.pinned (OpenSpec.ofChange ormapBackWrong)

/-- 'trolleylaw05.OrmapCodes': WHATEVER THE INPUT: true; the input reads as it did. -/
def ormapCodesSpec : ChangeSpec := { name := "ormapCodes", fn := fun _ => fun
  | [d1, d2] => { results := [.lit (.bool true)], args := [d1, d2] }
  | _ => none }
def ormapCodesRow : OpenClaim := { program := "ytfblmkocmnbdcaagreat", sum := "e998292c17d6c52ab094ec36909fa2f5cbb7695b5a3bd546c765c5f0b9a42274", func := "trolley/trolleylaw05.OrmapCodes", spec := "ormapCodes", inPlace := ["internal/bytealg.IndexByteString", "internal/bytealg.IndexString", "math.Float64frombits", "internal/bytealg.abigen_runtime_cmpstring"], unfollowed := true, recurses := true, named := ["internal/bytealg.MaxLen"], apart := false }
def OrmapCodesSaid : Prop := ormapCodesRow.holds Tryz.pinned (OpenSpec.ofChange ormapCodesSpec)

/-- ITS FALSE NEIGHBOUR: 'it returns false'. Refute it at one input. -/
def ormapCodesWrong : ChangeSpec := { name := "ormapCodes", fn := fun _ => fun
  | [d1, d2] => { results := [.lit (.bool false)], args := [d1, d2] }
  | _ => none }
def OrmapCodesWrongFalsely : Prop := ormapCodesRow.holds Tryz.pinned (OpenSpec.ofChange ormapCodesWrong)

/-- 'trolleylaw15.TokenMakes': WHATEVER THE INPUT: true; the input reads as it did. -/
def tokenMakesSpec : ChangeSpec := { name := "tokenMakes", fn := fun _ => fun
  | [d1, d2] => { results := [.lit (.bool true)], args := [d1, d2] }
  | _ => none }
def tokenMakesRow : OpenClaim := { program := "ytfblmkocmnbdcaagreat", sum := "e998292c17d6c52ab094ec36909fa2f5cbb7695b5a3bd546c765c5f0b9a42274", func := "trolley/trolleylaw15.TokenMakes", spec := "tokenMakes", inPlace := ["internal/bytealg.IndexByteString", "internal/bytealg.IndexString", "math.Float64frombits", "internal/bytealg.abigen_runtime_cmpstring"], unfollowed := true, recurses := true, named := ["internal/bytealg.MaxLen"], apart := false }
def TokenMakesSaid : Prop := tokenMakesRow.holds Tryz.pinned (OpenSpec.ofChange tokenMakesSpec)

/-- ITS FALSE NEIGHBOUR: 'it returns false'. Refute it at one input. -/
def tokenMakesWrong : ChangeSpec := { name := "tokenMakes", fn := fun _ => fun
  | [d1, d2] => { results := [.lit (.bool false)], args := [d1, d2] }
  | _ => none }
def TokenMakesWrongFalsely : Prop := tokenMakesRow.holds Tryz.pinned (OpenSpec.ofChange tokenMakesWrong)

/-- 'trolleylaw15.TokenBack': WHATEVER THE INPUT: true; the input reads as it did. -/
def tokenBackSpec : ChangeSpec := { name := "tokenBack", fn := fun _ => fun
  | [d1, d2] => { results := [.lit (.bool true)], args := [d1, d2] }
  | _ => none }
def tokenBackRow : OpenClaim := { program := "ytfblmkocmnbdcaagreat", sum := "e998292c17d6c52ab094ec36909fa2f5cbb7695b5a3bd546c765c5f0b9a42274", func := "trolley/trolleylaw15.TokenBack", spec := "tokenBack", inPlace := ["internal/bytealg.IndexByteString", "internal/bytealg.IndexString", "math.Float64frombits", "internal/bytealg.abigen_runtime_cmpstring"], unfollowed := true, recurses := true, named := ["internal/bytealg.MaxLen"], apart := false }
def TokenBackSaid : Prop := tokenBackRow.holds Tryz.pinned (OpenSpec.ofChange tokenBackSpec)

/-- ITS FALSE NEIGHBOUR: 'it returns false'. Refute it at one input. -/
def tokenBackWrong : ChangeSpec := { name := "tokenBack", fn := fun _ => fun
  | [d1, d2] => { results := [.lit (.bool false)], args := [d1, d2] }
  | _ => none }
def TokenBackWrongFalsely : Prop := tokenBackRow.holds Tryz.pinned (OpenSpec.ofChange tokenBackWrong)

/-- 'trolleylaw05.OrmapApplies': WHATEVER THE INPUT: true; the input reads as it did. -/
def ormapAppliesSpec : ChangeSpec := { name := "ormapApplies", fn := fun _ => fun
  | [d] => { results := [.lit (.bool true)], args := [d] }
  | _ => none }
def ormapAppliesRow : OpenClaim := { program := "ytfblmkocmnbdcaagreat", sum := "e998292c17d6c52ab094ec36909fa2f5cbb7695b5a3bd546c765c5f0b9a42274", func := "trolley/trolleylaw05.OrmapApplies", spec := "ormapApplies", inPlace := ["internal/bytealg.IndexByteString", "internal/bytealg.IndexString", "math.Float64frombits", "internal/bytealg.abigen_runtime_cmpstring", "slices.overlaps[trolley/api.Mark]"], unfollowed := true, recurses := true, named := ["internal/bytealg.MaxLen"], apart := false }
def OrmapAppliesSaid : Prop := ormapAppliesRow.holds Tryz.pinned (OpenSpec.ofChange ormapAppliesSpec)

/-- ITS FALSE NEIGHBOUR: 'it returns false'. Refute it at one input. -/
def ormapAppliesWrong : ChangeSpec := { name := "ormapApplies", fn := fun _ => fun
  | [d] => { results := [.lit (.bool false)], args := [d] }
  | _ => none }
def OrmapAppliesWrongFalsely : Prop := ormapAppliesRow.holds Tryz.pinned (OpenSpec.ofChange ormapAppliesWrong)

/-- 'trolleylaw05.OrmapMeant': WHATEVER THE INPUT: true; the input reads as it did. -/
def ormapMeantSpec : ChangeSpec := { name := "ormapMeant", fn := fun _ => fun
  | [d] => { results := [.lit (.bool true)], args := [d] }
  | _ => none }
def ormapMeantRow : OpenClaim := { program := "ytfblmkocmnbdcaagreat", sum := "e998292c17d6c52ab094ec36909fa2f5cbb7695b5a3bd546c765c5f0b9a42274", func := "trolley/trolleylaw05.OrmapMeant", spec := "ormapMeant", inPlace := ["internal/bytealg.IndexByteString", "internal/bytealg.IndexString", "math.Float64frombits", "internal/bytealg.abigen_runtime_cmpstring", "slices.overlaps[trolley/api.Mark]"], unfollowed := true, recurses := true, named := ["internal/bytealg.MaxLen"], apart := false }
def OrmapMeantSaid : Prop := ormapMeantRow.holds Tryz.pinned (OpenSpec.ofChange ormapMeantSpec)

/-- ITS FALSE NEIGHBOUR: 'it returns false'. Refute it at one input. -/
def ormapMeantWrong : ChangeSpec := { name := "ormapMeant", fn := fun _ => fun
  | [d] => { results := [.lit (.bool false)], args := [d] }
  | _ => none }
def OrmapMeantWrongFalsely : Prop := ormapMeantRow.holds Tryz.pinned (OpenSpec.ofChange ormapMeantWrong)

/-- 'trolleylaw05.OrmapJoins': WHATEVER THE INPUT: true; the input reads as it did. -/
def ormapJoinsSpec : ChangeSpec := { name := "ormapJoins", fn := fun _ => fun
  | [d1, d2] => { results := [.lit (.bool true)], args := [d1, d2] }
  | _ => none }
def ormapJoinsRow : OpenClaim := { program := "ytfblmkocmnbdcaagreat", sum := "e998292c17d6c52ab094ec36909fa2f5cbb7695b5a3bd546c765c5f0b9a42274", func := "trolley/trolleylaw05.OrmapJoins", spec := "ormapJoins", inPlace := ["internal/bytealg.IndexByteString", "internal/bytealg.IndexString", "math.Float64frombits", "internal/bytealg.abigen_runtime_cmpstring", "slices.overlaps[trolley/api.Mark]"], unfollowed := true, recurses := true, named := ["internal/bytealg.MaxLen"], apart := false }
def OrmapJoinsSaid : Prop := ormapJoinsRow.holds Tryz.pinned (OpenSpec.ofChange ormapJoinsSpec)

/-- ITS FALSE NEIGHBOUR: 'it returns false'. Refute it at one input. -/
def ormapJoinsWrong : ChangeSpec := { name := "ormapJoins", fn := fun _ => fun
  | [d1, d2] => { results := [.lit (.bool false)], args := [d1, d2] }
  | _ => none }
def OrmapJoinsWrongFalsely : Prop := ormapJoinsRow.holds Tryz.pinned (OpenSpec.ofChange ormapJoinsWrong)

/-- 'trolleylaw05.OrmapLattice': WHATEVER THE INPUT: true; the input reads as it did. -/
def ormapLatticeSpec : ChangeSpec := { name := "ormapLattice", fn := fun _ => fun
  | [d1, d2, d3, d4] => { results := [.lit (.bool true)], args := [d1, d2, d3, d4] }
  | _ => none }
def ormapLatticeRow : OpenClaim := { program := "ytfblmkocmnbdcaagreat", sum := "e998292c17d6c52ab094ec36909fa2f5cbb7695b5a3bd546c765c5f0b9a42274", func := "trolley/trolleylaw05.OrmapLattice", spec := "ormapLattice", inPlace := ["internal/bytealg.IndexByteString", "internal/bytealg.IndexString", "math.Float64frombits", "internal/bytealg.abigen_runtime_cmpstring", "slices.overlaps[trolley/api.Mark]"], unfollowed := true, recurses := true, named := ["internal/bytealg.MaxLen"], apart := false }
def OrmapLatticeSaid : Prop := ormapLatticeRow.holds Tryz.pinned (OpenSpec.ofChange ormapLatticeSpec)

/-- ITS FALSE NEIGHBOUR: 'it returns false'. Refute it at one input. -/
def ormapLatticeWrong : ChangeSpec := { name := "ormapLattice", fn := fun _ => fun
  | [d1, d2, d3, d4] => { results := [.lit (.bool false)], args := [d1, d2, d3, d4] }
  | _ => none }
def OrmapLatticeWrongFalsely : Prop := ormapLatticeRow.holds Tryz.pinned (OpenSpec.ofChange ormapLatticeWrong)

/-- 'trolleylaw05.OrmapWins': WHATEVER THE INPUT: true; the input reads as it did. -/
def ormapWinsSpec : ChangeSpec := { name := "ormapWins", fn := fun _ => fun
  | [d1, d2] => { results := [.lit (.bool true)], args := [d1, d2] }
  | _ => none }
def ormapWinsRow : OpenClaim := { program := "ytfblmkocmnbdcaagreat", sum := "e998292c17d6c52ab094ec36909fa2f5cbb7695b5a3bd546c765c5f0b9a42274", func := "trolley/trolleylaw05.OrmapWins", spec := "ormapWins", inPlace := ["internal/bytealg.IndexByteString", "internal/bytealg.IndexString", "math.Float64frombits", "internal/bytealg.abigen_runtime_cmpstring", "slices.overlaps[trolley/api.Mark]"], unfollowed := true, recurses := true, named := ["internal/bytealg.MaxLen"], apart := false }
def OrmapWinsSaid : Prop := ormapWinsRow.holds Tryz.pinned (OpenSpec.ofChange ormapWinsSpec)

/-- ITS FALSE NEIGHBOUR: 'it returns false'. Refute it at one input. -/
def ormapWinsWrong : ChangeSpec := { name := "ormapWins", fn := fun _ => fun
  | [d1, d2] => { results := [.lit (.bool false)], args := [d1, d2] }
  | _ => none }
def OrmapWinsWrongFalsely : Prop := ormapWinsRow.holds Tryz.pinned (OpenSpec.ofChange ormapWinsWrong)

/-- 'trolleylaw05.OrmapReads': WHATEVER THE INPUT: true; the input reads as it did. -/
def ormapReadsSpec : ChangeSpec := { name := "ormapReads", fn := fun _ => fun
  | [d1, d2, d3, d4] => { results := [.lit (.bool true)], args := [d1, d2, d3, d4] }
  | _ => none }
def ormapReadsRow : OpenClaim := { program := "ytfblmkocmnbdcaagreat", sum := "e998292c17d6c52ab094ec36909fa2f5cbb7695b5a3bd546c765c5f0b9a42274", func := "trolley/trolleylaw05.OrmapReads", spec := "ormapReads", inPlace := ["math.Float64frombits", "math.Float64bits", "internal/bytealg.IndexByteString", "internal/bytealg.IndexString", "internal/bytealg.abigen_runtime_cmpstring", "slices.overlaps[trolley/api.Mark]"], unfollowed := true, recurses := true, named := ["internal/bytealg.MaxLen"], apart := false }
def OrmapReadsSaid : Prop := ormapReadsRow.holds Tryz.pinned (OpenSpec.ofChange ormapReadsSpec)

/-- ITS FALSE NEIGHBOUR: 'it returns false'. Refute it at one input. -/
def ormapReadsWrong : ChangeSpec := { name := "ormapReads", fn := fun _ => fun
  | [d1, d2, d3, d4] => { results := [.lit (.bool false)], args := [d1, d2, d3, d4] }
  | _ => none }
def OrmapReadsWrongFalsely : Prop := ormapReadsRow.holds Tryz.pinned (OpenSpec.ofChange ormapReadsWrong)

/- THE SECOND FORM. 'bulk': how many values and letters a reading holds, each counted each time it is reached (what is shared counts as often as it is met; a slice's spare places count too). A statement '..UptoSaid' is the law's where the arguments, and the package variables that the reading takes, are together of bulk at most 1048576: NARROWER than '..Said'. Prove '..Said' where nothing that the law and all that it calls make is longer than what came in: it says more and counts as full. Else prove '..UptoSaid'. A law counts once. -/
mutual
def uptoBulk {H : Type} : DataW H → Nat
  | .lit (.string bytes) => bytes.length + 1
  | .lit _ => 1
  | .nil => 1
  | .ptr d => uptoBulk d + 1
  | .slice elems spare => uptoBulkAll elems + uptoBulkAll spare + 1
  | .agg parts => uptoBulkAll parts + 1
  | .iface _ d => uptoBulk d + 1
  | .map entries => uptoBulkEntries entries + 1
  | .held _ => 1
def uptoBulkAll {H : Type} : List (DataW H) → Nat
  | [] => 0
  | d :: r => uptoBulk d + uptoBulkAll r
def uptoBulkEntries {H : Type} : List (Lit × DataW H) → Nat
  | [] => 0
  | x :: r => uptoBulkEntry x + uptoBulkEntries r
def uptoBulkEntry {H : Type} : Lit × DataW H → Nat
  | (.string bytes, d) => bytes.length + uptoBulk d + 1
  | (_, d) => uptoBulk d + 1
 end
def uptoSmall : (H : Type) → List (DataW H) → Bool := fun _ ds => decide (uptoBulkAll ds ≤ 1048576)
def OpenSpec.upto (s : _root_.Go.ChangeSpec) : _root_.Go.OpenSpec := { _root_.Go.OpenSpec.ofChange s with cond := some uptoSmall }

/-- 'trolleylaw05.OrmapBack', WHERE WHAT IT READS IS OF BULK AT MOST 1048576: true; the input reads as it did. -/
def ormapBackUptoRow : OpenClaim := { program := "ytfblmkocmnbdcaagreat", sum := "e998292c17d6c52ab094ec36909fa2f5cbb7695b5a3bd546c765c5f0b9a42274", func := "trolley/trolleylaw05.OrmapBack", spec := "ormapBack", inPlace := ["internal/bytealg.IndexByteString", "internal/bytealg.IndexString", "math.Float64frombits", "internal/bytealg.abigen_runtime_cmpstring"], unfollowed := true, recurses := true, named := ["internal/bytealg.MaxLen"], apart := false, narrowed := true }
def OrmapBackUptoSaid : Prop := ormapBackUptoRow.holds Tryz.pinned (OpenSpec.upto ormapBackSpec)

/-- 'trolleylaw05.OrmapCodes', WHERE WHAT IT READS IS OF BULK AT MOST 1048576: true; the input reads as it did. -/
def ormapCodesUptoRow : OpenClaim := { program := "ytfblmkocmnbdcaagreat", sum := "e998292c17d6c52ab094ec36909fa2f5cbb7695b5a3bd546c765c5f0b9a42274", func := "trolley/trolleylaw05.OrmapCodes", spec := "ormapCodes", inPlace := ["internal/bytealg.IndexByteString", "internal/bytealg.IndexString", "math.Float64frombits", "internal/bytealg.abigen_runtime_cmpstring"], unfollowed := true, recurses := true, named := ["internal/bytealg.MaxLen"], apart := false, narrowed := true }
def OrmapCodesUptoSaid : Prop := ormapCodesUptoRow.holds Tryz.pinned (OpenSpec.upto ormapCodesSpec)

/-- 'trolleylaw15.TokenMakes', WHERE WHAT IT READS IS OF BULK AT MOST 1048576: true; the input reads as it did. -/
def tokenMakesUptoRow : OpenClaim := { program := "ytfblmkocmnbdcaagreat", sum := "e998292c17d6c52ab094ec36909fa2f5cbb7695b5a3bd546c765c5f0b9a42274", func := "trolley/trolleylaw15.TokenMakes", spec := "tokenMakes", inPlace := ["internal/bytealg.IndexByteString", "internal/bytealg.IndexString", "math.Float64frombits", "internal/bytealg.abigen_runtime_cmpstring"], unfollowed := true, recurses := true, named := ["internal/bytealg.MaxLen"], apart := false, narrowed := true }
def TokenMakesUptoSaid : Prop := tokenMakesUptoRow.holds Tryz.pinned (OpenSpec.upto tokenMakesSpec)

/-- 'trolleylaw15.TokenBack', WHERE WHAT IT READS IS OF BULK AT MOST 1048576: true; the input reads as it did. -/
def tokenBackUptoRow : OpenClaim := { program := "ytfblmkocmnbdcaagreat", sum := "e998292c17d6c52ab094ec36909fa2f5cbb7695b5a3bd546c765c5f0b9a42274", func := "trolley/trolleylaw15.TokenBack", spec := "tokenBack", inPlace := ["internal/bytealg.IndexByteString", "internal/bytealg.IndexString", "math.Float64frombits", "internal/bytealg.abigen_runtime_cmpstring"], unfollowed := true, recurses := true, named := ["internal/bytealg.MaxLen"], apart := false, narrowed := true }
def TokenBackUptoSaid : Prop := tokenBackUptoRow.holds Tryz.pinned (OpenSpec.upto tokenBackSpec)

/-- 'trolleylaw05.OrmapApplies', WHERE WHAT IT READS IS OF BULK AT MOST 1048576: true; the input reads as it did. -/
def ormapAppliesUptoRow : OpenClaim := { program := "ytfblmkocmnbdcaagreat", sum := "e998292c17d6c52ab094ec36909fa2f5cbb7695b5a3bd546c765c5f0b9a42274", func := "trolley/trolleylaw05.OrmapApplies", spec := "ormapApplies", inPlace := ["internal/bytealg.IndexByteString", "internal/bytealg.IndexString", "math.Float64frombits", "internal/bytealg.abigen_runtime_cmpstring", "slices.overlaps[trolley/api.Mark]"], unfollowed := true, recurses := true, named := ["internal/bytealg.MaxLen"], apart := false, narrowed := true }
def OrmapAppliesUptoSaid : Prop := ormapAppliesUptoRow.holds Tryz.pinned (OpenSpec.upto ormapAppliesSpec)

/-- 'trolleylaw05.OrmapMeant', WHERE WHAT IT READS IS OF BULK AT MOST 1048576: true; the input reads as it did. -/
def ormapMeantUptoRow : OpenClaim := { program := "ytfblmkocmnbdcaagreat", sum := "e998292c17d6c52ab094ec36909fa2f5cbb7695b5a3bd546c765c5f0b9a42274", func := "trolley/trolleylaw05.OrmapMeant", spec := "ormapMeant", inPlace := ["internal/bytealg.IndexByteString", "internal/bytealg.IndexString", "math.Float64frombits", "internal/bytealg.abigen_runtime_cmpstring", "slices.overlaps[trolley/api.Mark]"], unfollowed := true, recurses := true, named := ["internal/bytealg.MaxLen"], apart := false, narrowed := true }
def OrmapMeantUptoSaid : Prop := ormapMeantUptoRow.holds Tryz.pinned (OpenSpec.upto ormapMeantSpec)

/-- 'trolleylaw05.OrmapJoins', WHERE WHAT IT READS IS OF BULK AT MOST 1048576: true; the input reads as it did. -/
def ormapJoinsUptoRow : OpenClaim := { program := "ytfblmkocmnbdcaagreat", sum := "e998292c17d6c52ab094ec36909fa2f5cbb7695b5a3bd546c765c5f0b9a42274", func := "trolley/trolleylaw05.OrmapJoins", spec := "ormapJoins", inPlace := ["internal/bytealg.IndexByteString", "internal/bytealg.IndexString", "math.Float64frombits", "internal/bytealg.abigen_runtime_cmpstring", "slices.overlaps[trolley/api.Mark]"], unfollowed := true, recurses := true, named := ["internal/bytealg.MaxLen"], apart := false, narrowed := true }
def OrmapJoinsUptoSaid : Prop := ormapJoinsUptoRow.holds Tryz.pinned (OpenSpec.upto ormapJoinsSpec)

/-- 'trolleylaw05.OrmapLattice', WHERE WHAT IT READS IS OF BULK AT MOST 1048576: true; the input reads as it did. -/
def ormapLatticeUptoRow : OpenClaim := { program := "ytfblmkocmnbdcaagreat", sum := "e998292c17d6c52ab094ec36909fa2f5cbb7695b5a3bd546c765c5f0b9a42274", func := "trolley/trolleylaw05.OrmapLattice", spec := "ormapLattice", inPlace := ["internal/bytealg.IndexByteString", "internal/bytealg.IndexString", "math.Float64frombits", "internal/bytealg.abigen_runtime_cmpstring", "slices.overlaps[trolley/api.Mark]"], unfollowed := true, recurses := true, named := ["internal/bytealg.MaxLen"], apart := false, narrowed := true }
def OrmapLatticeUptoSaid : Prop := ormapLatticeUptoRow.holds Tryz.pinned (OpenSpec.upto ormapLatticeSpec)

/-- 'trolleylaw05.OrmapWins', WHERE WHAT IT READS IS OF BULK AT MOST 1048576: true; the input reads as it did. -/
def ormapWinsUptoRow : OpenClaim := { program := "ytfblmkocmnbdcaagreat", sum := "e998292c17d6c52ab094ec36909fa2f5cbb7695b5a3bd546c765c5f0b9a42274", func := "trolley/trolleylaw05.OrmapWins", spec := "ormapWins", inPlace := ["internal/bytealg.IndexByteString", "internal/bytealg.IndexString", "math.Float64frombits", "internal/bytealg.abigen_runtime_cmpstring", "slices.overlaps[trolley/api.Mark]"], unfollowed := true, recurses := true, named := ["internal/bytealg.MaxLen"], apart := false, narrowed := true }
def OrmapWinsUptoSaid : Prop := ormapWinsUptoRow.holds Tryz.pinned (OpenSpec.upto ormapWinsSpec)

/-- 'trolleylaw05.OrmapReads', WHERE WHAT IT READS IS OF BULK AT MOST 1048576: true; the input reads as it did. -/
def ormapReadsUptoRow : OpenClaim := { program := "ytfblmkocmnbdcaagreat", sum := "e998292c17d6c52ab094ec36909fa2f5cbb7695b5a3bd546c765c5f0b9a42274", func := "trolley/trolleylaw05.OrmapReads", spec := "ormapReads", inPlace := ["math.Float64frombits", "math.Float64bits", "internal/bytealg.IndexByteString", "internal/bytealg.IndexString", "internal/bytealg.abigen_runtime_cmpstring", "slices.overlaps[trolley/api.Mark]"], unfollowed := true, recurses := true, named := ["internal/bytealg.MaxLen"], apart := false, narrowed := true }
def OrmapReadsUptoSaid : Prop := ormapReadsUptoRow.holds Tryz.pinned (OpenSpec.upto ormapReadsSpec)

end Rows
end Go.Proofs.YtfblmkocmnbdcaaGreat
