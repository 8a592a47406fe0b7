/- Of each struct type of this translation: how it is put together, its row of the table of types, what '==' says of it. By program. -/
import Derived.Test.YtjfeeiljinbmjaaMore
import Derived.Test.YtjfeeiljinbmjaaProg
namespace Go.Proofs.Ytjfeeiljinbmjaa
open Go.Fw Go.Proofs Go.RowKit
set_option linter.unusedVariables false
set_option linter.unusedSimpArgs false
set_option maxRecDepth 100000
theorem inf2 : InfoT Try.prog 2 (Value.int .i64 0) 1 8 := by unfold InfoT; kernel_rfl
theorem inf3 : InfoT Try.prog 3 (Value.int .i64 0) 1 8 := by unfold InfoT; kernel_rfl
theorem inf4 : InfoT Try.prog 4 (Value.bool false) 1 1 := by unfold InfoT; kernel_rfl
theorem inf5 : InfoT Try.prog 5 (Value.int .u8 0) 1 1 := by unfold InfoT; kernel_rfl
theorem inf6 : InfoT Try.prog 6 (Value.int .u8 0) 1 1 := by unfold InfoT; kernel_rfl
theorem inf9 : InfoT Try.prog 9 (Value.string ⟨#[]⟩) 1 16 := by unfold InfoT; kernel_rfl
theorem inf12 : InfoT Try.prog 12 (Value.int .u64 0) 1 8 := by unfold InfoT; kernel_rfl
theorem inf21 : InfoT Try.prog 21 (Value.int .i32 0) 1 4 := by unfold InfoT; kernel_rfl
theorem inf22 : InfoT Try.prog 22 (Value.slice none 0 0) 1 24 := by unfold InfoT; kernel_rfl
theorem inf29 : InfoT Try.prog 29 (Value.slice none 0 0) 1 24 := by unfold InfoT; kernel_rfl
theorem inf30 : InfoT Try.prog 30 (Value.slice none 0 0) 1 24 := by unfold InfoT; kernel_rfl
theorem bld32 : BuildT Try.prog 32 [Value.int .i64 0, Value.int .i64 0, Value.int .i64 0] [(0, 1), (1, 1), (2, 1)] := ⟨⟨_, Try.zeroValue32, rfl⟩, _, Try.underlying32, fun w => by simp [Try.sizeOf3]⟩
theorem inf32 : InfoT Try.prog 32 (.agg #[Value.int .i64 0, Value.int .i64 0, Value.int .i64 0]) 3 24 := by unfold InfoT; kernel_rfl
theorem eq32 {x0 y0 : Int} {x1 y1 : Int} {x2 y2 : Int} : EqT Try.prog 32 [.int .i64 x0, .int .i64 x1, .int .i64 x2] [.int .i64 y0, .int .i64 y1, .int .i64 y2] (decide (x0 = y0 ∧ x1 = y1 ∧ x2 = y2)) := EqT.mk (k := 1) (d := 9998) Try.underlying32 Try.stoodInHeld32 Try.eqGuardType32 rfl (FEq.int (nm := "Node") (by decide) Try.underlying3 Try.isAgg3 rfl rfl (FEq.int (nm := "Life") (by decide) Try.underlying3 Try.isAgg3 rfl rfl (FEq.int (nm := "Count") (by decide) Try.underlying3 Try.isAgg3 rfl rfl FEq.nil))) (by rw [Bool.eq_iff_iff]; simp [Bool.and_eq_true, decide_eq_true_eq, and_assoc])
theorem bld34 : BuildT Try.prog 34 [Value.int .i64 0, Value.int .i64 0] [(0, 1), (1, 1)] := ⟨⟨_, Try.zeroValue34, rfl⟩, _, Try.underlying34, fun w => by simp [Try.sizeOf3]⟩
theorem inf34 : InfoT Try.prog 34 (.agg #[Value.int .i64 0, Value.int .i64 0]) 2 16 := by unfold InfoT; kernel_rfl
theorem eq34 {x0 y0 : Int} {x1 y1 : Int} : EqT Try.prog 34 [.int .i64 x0, .int .i64 x1] [.int .i64 y0, .int .i64 y1] (decide (x0 = y0 ∧ x1 = y1)) := EqT.mk (k := 1) (d := 9998) Try.underlying34 Try.stoodInHeld34 Try.eqGuardType34 rfl (FEq.int (nm := "Node") (by decide) Try.underlying3 Try.isAgg3 rfl rfl (FEq.int (nm := "Life") (by decide) Try.underlying3 Try.isAgg3 rfl rfl FEq.nil)) (by rw [Bool.eq_iff_iff]; simp [Bool.and_eq_true, decide_eq_true_eq, and_assoc])
theorem bld36 : BuildT Try.prog 36 [Value.slice none 0 0, Value.slice none 0 0] [(0, 1), (1, 1)] := ⟨⟨_, Try.zeroValue36, rfl⟩, _, Try.underlying36, fun w => by simp [Try.sizeOf29, Try.sizeOf30]⟩
theorem inf36 : InfoT Try.prog 36 (.agg #[Value.slice none 0 0, Value.slice none 0 0]) 2 48 := by unfold InfoT; kernel_rfl
theorem bld43 : BuildT Try.prog 43 [Value.int .i64 0, Value.int .i64 0, Value.int .i64 0] [(0, 1), (1, 1), (2, 1)] := ⟨⟨_, Try.zeroValue43, rfl⟩, _, Try.underlying43, fun w => by simp [Try.sizeOf3]⟩
theorem inf43 : InfoT Try.prog 43 (.agg #[Value.int .i64 0, Value.int .i64 0, Value.int .i64 0]) 3 24 := by unfold InfoT; kernel_rfl
theorem eq43 {x0 y0 : Int} {x1 y1 : Int} {x2 y2 : Int} : EqT Try.prog 43 [.int .i64 x0, .int .i64 x1, .int .i64 x2] [.int .i64 y0, .int .i64 y1, .int .i64 y2] (decide (x0 = y0 ∧ x1 = y1 ∧ x2 = y2)) := EqT.mk (k := 1) (d := 9998) Try.underlying43 Try.stoodInHeld43 Try.eqGuardType43 rfl (FEq.int (nm := "Node") (by decide) Try.underlying3 Try.isAgg3 rfl rfl (FEq.int (nm := "Life") (by decide) Try.underlying3 Try.isAgg3 rfl rfl (FEq.int (nm := "Count") (by decide) Try.underlying3 Try.isAgg3 rfl rfl FEq.nil))) (by rw [Bool.eq_iff_iff]; simp [Bool.and_eq_true, decide_eq_true_eq, and_assoc])
theorem inf45 : InfoT Try.prog 45 (Value.slice none 0 0) 1 24 := by unfold InfoT; kernel_rfl
theorem inf46 : InfoT Try.prog 46 (Value.int .u64 0) 1 8 := by unfold InfoT; kernel_rfl
theorem inf52 : InfoT Try.prog 52 (Value.slice none 0 0) 1 24 := by unfold InfoT; kernel_rfl
theorem inf54 : InfoT Try.prog 54 (Value.slice none 0 0) 1 24 := by unfold InfoT; kernel_rfl
theorem bld56 : BuildT Try.prog 56 [Value.int .i64 0, Value.int .i64 0, Value.int .i64 0, Value.slice none 0 0] [(0, 1), (1, 1), (2, 1), (3, 1)] := ⟨⟨_, Try.zeroValue56, rfl⟩, _, Try.underlying56, fun w => by simp [Try.sizeOf3, Try.sizeOf54]⟩
theorem inf56 : InfoT Try.prog 56 (.agg #[Value.int .i64 0, Value.int .i64 0, Value.int .i64 0, Value.slice none 0 0]) 4 48 := by unfold InfoT; kernel_rfl
theorem inf58 : InfoT Try.prog 58 (Value.slice none 0 0) 1 24 := by unfold InfoT; kernel_rfl
theorem bld60 : BuildT Try.prog 60 [Value.slice none 0 0, Value.slice none 0 0, Value.slice none 0 0] [(0, 1), (1, 2)] := ⟨⟨_, Try.zeroValue60, rfl⟩, _, Try.underlying60, fun w => by simp [Try.sizeOf36, Try.sizeOf58]⟩
theorem inf60 : InfoT Try.prog 60 (.agg #[Value.slice none 0 0, Value.slice none 0 0, Value.slice none 0 0]) 3 72 := by unfold InfoT; kernel_rfl
theorem inf61 : InfoT Try.prog 61 (Value.slice none 0 0) 1 24 := by unfold InfoT; kernel_rfl
theorem inf62 : InfoT Try.prog 62 (Value.slice none 0 0) 1 24 := by unfold InfoT; kernel_rfl
theorem bld64 : BuildT Try.prog 64 [Value.int .i64 0, Value.int .i64 0, Value.int .i64 0, Value.int .i64 0, Value.string ⟨#[]⟩, Value.slice none 0 0, Value.slice none 0 0, Value.slice none 0 0, Value.int .i64 0, Value.int .i64 0, Value.int .i64 0, Value.int .i64 0, Value.int .i64 0, Value.int .i64 0, Value.slice none 0 0, Value.slice none 0 0, Value.slice none 0 0] [(0, 1), (1, 1), (2, 1), (3, 1), (4, 1), (5, 3), (8, 1), (9, 1), (10, 1), (11, 4), (15, 1), (16, 1)] := ⟨⟨_, Try.zeroValue64, rfl⟩, _, Try.underlying64, fun w => by simp [Try.sizeOf3, Try.sizeOf56, Try.sizeOf60, Try.sizeOf61, Try.sizeOf62, Try.sizeOf9]⟩
theorem inf64 : InfoT Try.prog 64 (.agg #[Value.int .i64 0, Value.int .i64 0, Value.int .i64 0, Value.int .i64 0, Value.string ⟨#[]⟩, Value.slice none 0 0, Value.slice none 0 0, Value.slice none 0 0, Value.int .i64 0, Value.int .i64 0, Value.int .i64 0, Value.int .i64 0, Value.int .i64 0, Value.int .i64 0, Value.slice none 0 0, Value.slice none 0 0, Value.slice none 0 0]) 17 240 := by unfold InfoT; kernel_rfl
theorem bld79 : BuildT Try.prog 79 [Value.slice none 0 0, Value.int .i64 0] [(0, 1), (1, 1)] := ⟨⟨_, Try.zeroValue79, rfl⟩, _, Try.underlying79, fun w => by simp [Try.sizeOf22, Try.sizeOf3]⟩
theorem inf79 : InfoT Try.prog 79 (.agg #[Value.slice none 0 0, Value.int .i64 0]) 2 32 := by unfold InfoT; kernel_rfl
theorem inf85 : InfoT Try.prog 85 (Value.slice none 0 0) 1 24 := by unfold InfoT; kernel_rfl
theorem bld89 : BuildT Try.prog 89 [Value.int .i64 0, Value.int .i64 0, Value.slice none 0 0, Value.slice none 0 0, Value.int .i64 0, Value.int .i64 0, Value.int .i64 0, Value.slice none 0 0] [(0, 1), (1, 1), (2, 1), (3, 1), (4, 4)] := ⟨⟨_, Try.zeroValue89, rfl⟩, _, Try.underlying89, fun w => by simp [Try.sizeOf3, Try.sizeOf45, Try.sizeOf56, Try.sizeOf61]⟩
theorem inf89 : InfoT Try.prog 89 (.agg #[Value.int .i64 0, Value.int .i64 0, Value.slice none 0 0, Value.slice none 0 0, Value.int .i64 0, Value.int .i64 0, Value.int .i64 0, Value.slice none 0 0]) 8 112 := by unfold InfoT; kernel_rfl
theorem bld93 : BuildT Try.prog 93 [Value.int .i64 0, Value.int .i64 0, Value.int .i64 0] [(0, 1), (1, 1), (2, 1)] := ⟨⟨_, Try.zeroValue93, rfl⟩, _, Try.underlying93, fun w => by simp [Try.sizeOf3]⟩
theorem inf93 : InfoT Try.prog 93 (.agg #[Value.int .i64 0, Value.int .i64 0, Value.int .i64 0]) 3 24 := by unfold InfoT; kernel_rfl
theorem eq93 {x0 y0 : Int} {x1 y1 : Int} {x2 y2 : Int} : EqT Try.prog 93 [.int .i64 x0, .int .i64 x1, .int .i64 x2] [.int .i64 y0, .int .i64 y1, .int .i64 y2] (decide (x0 = y0 ∧ x1 = y1 ∧ x2 = y2)) := EqT.mk (k := 1) (d := 9998) Try.underlying93 Try.stoodInHeld93 Try.eqGuardType93 rfl (FEq.int (nm := "Node") (by decide) Try.underlying3 Try.isAgg3 rfl rfl (FEq.int (nm := "Inc") (by decide) Try.underlying3 Try.isAgg3 rfl rfl (FEq.int (nm := "Status") (by decide) Try.underlying3 Try.isAgg3 rfl rfl FEq.nil))) (by rw [Bool.eq_iff_iff]; simp [Bool.and_eq_true, decide_eq_true_eq, and_assoc])
theorem inf98 : InfoT Try.prog 98 (Value.slice none 0 0) 1 24 := by unfold InfoT; kernel_rfl
theorem bld101 : BuildT Try.prog 101 [Value.int .i64 0, Value.slice none 0 0, Value.bool false, Value.int .i64 0, Value.int .i64 0, Value.bool false, Value.nilFunc] [(0, 1), (1, 1), (2, 1), (3, 1), (4, 1), (5, 1), (6, 1)] := ⟨⟨_, Try.zeroValue101, rfl⟩, _, Try.underlying101, fun w => by simp [Try.sizeOf3, Try.sizeOf4, Try.sizeOf98, Try.sizeOf99]⟩
theorem inf101 : InfoT Try.prog 101 (.agg #[Value.int .i64 0, Value.slice none 0 0, Value.bool false, Value.int .i64 0, Value.int .i64 0, Value.bool false, Value.nilFunc]) 7 72 := by unfold InfoT; kernel_rfl
theorem inf102 : InfoT Try.prog 102 (Value.slice none 0 0) 1 24 := by unfold InfoT; kernel_rfl
theorem bld125 : BuildT Try.prog 125 [Value.int .i64 0, Value.int .i64 0, Value.int .i64 0, Value.int .i64 0] [(0, 3), (3, 1)] := ⟨⟨_, Try.zeroValue125, rfl⟩, _, Try.underlying125, fun w => by simp [Try.sizeOf3, Try.sizeOf93]⟩
theorem inf125 : InfoT Try.prog 125 (.agg #[Value.int .i64 0, Value.int .i64 0, Value.int .i64 0, Value.int .i64 0]) 4 32 := by unfold InfoT; kernel_rfl
theorem eq125 {x0 y0 : Int} {x1 y1 : Int} {x2 y2 : Int} {x3 y3 : Int} : EqT Try.prog 125 [.int .i64 x0, .int .i64 x1, .int .i64 x2, .int .i64 x3] [.int .i64 y0, .int .i64 y1, .int .i64 y2, .int .i64 y3] (decide (x0 = y0 ∧ x1 = y1 ∧ x2 = y2 ∧ x3 = y3)) := EqT.mk (k := 2) (d := 9997) Try.underlying125 Try.stoodInHeld125 Try.eqGuardType125 rfl (FEq.agg (nm := "p") (by decide) Try.underlying93 Try.stoodInHeld93 Try.isAgg93 Try.sizeOf93 rfl rfl (FEq.int (nm := "Node") (by decide) Try.underlying3 Try.isAgg3 rfl rfl (FEq.int (nm := "Inc") (by decide) Try.underlying3 Try.isAgg3 rfl rfl (FEq.int (nm := "Status") (by decide) Try.underlying3 Try.isAgg3 rfl rfl FEq.nil))) (FEq.int (nm := "sent") (by decide) Try.underlying3 Try.isAgg3 rfl rfl FEq.nil)) (by rw [Bool.eq_iff_iff]; simp [Bool.and_eq_true, decide_eq_true_eq, and_assoc])
theorem bld128 : BuildT Try.prog 128 [Value.int .i64 0, Value.int .i64 0, Value.int .i64 0, Value.int .i64 0] [(0, 1), (1, 1), (2, 1), (3, 1)] := ⟨⟨_, Try.zeroValue128, rfl⟩, _, Try.underlying128, fun w => by simp [Try.sizeOf3]⟩
theorem inf128 : InfoT Try.prog 128 (.agg #[Value.int .i64 0, Value.int .i64 0, Value.int .i64 0, Value.int .i64 0]) 4 32 := by unfold InfoT; kernel_rfl
theorem eq128 {x0 y0 : Int} {x1 y1 : Int} {x2 y2 : Int} {x3 y3 : Int} : EqT Try.prog 128 [.int .i64 x0, .int .i64 x1, .int .i64 x2, .int .i64 x3] [.int .i64 y0, .int .i64 y1, .int .i64 y2, .int .i64 y3] (decide (x0 = y0 ∧ x1 = y1 ∧ x2 = y2 ∧ x3 = y3)) := EqT.mk (k := 1) (d := 9998) Try.underlying128 Try.stoodInHeld128 Try.eqGuardType128 rfl (FEq.int (nm := "Node") (by decide) Try.underlying3 Try.isAgg3 rfl rfl (FEq.int (nm := "Epoch") (by decide) Try.underlying3 Try.isAgg3 rfl rfl (FEq.int (nm := "Stamp") (by decide) Try.underlying3 Try.isAgg3 rfl rfl (FEq.int (nm := "Status") (by decide) Try.underlying3 Try.isAgg3 rfl rfl FEq.nil)))) (by rw [Bool.eq_iff_iff]; simp [Bool.and_eq_true, decide_eq_true_eq, and_assoc])
theorem bld134 : BuildT Try.prog 134 [Value.slice none 0 0, Value.int .i64 0, Value.bool false] [(0, 1), (1, 1), (2, 1)] := ⟨⟨_, Try.zeroValue134, rfl⟩, _, Try.underlying134, fun w => by simp [Try.sizeOf22, Try.sizeOf3, Try.sizeOf4]⟩
theorem inf134 : InfoT Try.prog 134 (.agg #[Value.slice none 0 0, Value.int .i64 0, Value.bool false]) 3 40 := by unfold InfoT; kernel_rfl
theorem inf152 : InfoT Try.prog 152 (Value.int .u64 0) 1 8 := by unfold InfoT; kernel_rfl
theorem inf160 : InfoT Try.prog 160 (Value.slice none 0 0) 1 24 := by unfold InfoT; kernel_rfl
theorem inf162 : InfoT Try.prog 162 (Value.slice none 0 0) 1 24 := by unfold InfoT; kernel_rfl
theorem inf165 : InfoT Try.prog 165 (Value.slice none 0 0) 1 24 := by unfold InfoT; kernel_rfl
theorem inf177 : InfoT Try.prog 177 (Value.int .i64 0) 1 8 := by unfold InfoT; kernel_rfl
theorem inf184 : InfoT Try.prog 184 (Value.int .u32 0) 1 4 := by unfold InfoT; kernel_rfl
theorem inf187 : InfoT Try.prog 187 (Value.int .u64 0) 1 8 := by unfold InfoT; kernel_rfl
theorem inf202 : InfoT Try.prog 202 (Value.int .u8 0) 1 1 := by unfold InfoT; kernel_rfl
theorem inf206 : InfoT Try.prog 206 (Value.int .i32 0) 1 4 := by unfold InfoT; kernel_rfl
theorem inf207 : InfoT Try.prog 207 (Value.int .i32 0) 1 4 := by unfold InfoT; kernel_rfl
theorem bld211 : BuildT Try.prog 211 [Value.string ⟨#[]⟩, Value.int .i64 0, Value.int .i64 0, Value.int .i64 0, Value.int .i64 0, Value.int .u64 0] [(0, 1), (1, 3), (4, 1), (5, 1)] := ⟨⟨_, Try.zeroValue211, rfl⟩, _, Try.underlying211, fun w => by simp [Try.sizeOf152, Try.sizeOf3, Try.sizeOf32, Try.sizeOf9]⟩
theorem inf211 : InfoT Try.prog 211 (.agg #[Value.string ⟨#[]⟩, Value.int .i64 0, Value.int .i64 0, Value.int .i64 0, Value.int .i64 0, Value.int .u64 0]) 6 56 := by unfold InfoT; kernel_rfl
theorem eq211 {x0 y0 : ByteArray} {x1 y1 : Int} {x2 y2 : Int} {x3 y3 : Int} {x4 y4 : Int} {x5 y5 : Int} : EqT Try.prog 211 [.string x0, .int .i64 x1, .int .i64 x2, .int .i64 x3, .int .i64 x4, .int .u64 x5] [.string y0, .int .i64 y1, .int .i64 y2, .int .i64 y3, .int .i64 y4, .int .u64 y5] (decide (x0 = y0 ∧ x1 = y1 ∧ x2 = y2 ∧ x3 = y3 ∧ x4 = y4 ∧ x5 = y5)) := EqT.mk (k := 2) (d := 9997) Try.underlying211 Try.stoodInHeld211 Try.eqGuardType211 rfl (FEq.str (nm := "Item") (by decide) Try.underlying9 Try.isAgg9 rfl rfl (FEq.agg (nm := "Dot") (by decide) Try.underlying32 Try.stoodInHeld32 Try.isAgg32 Try.sizeOf32 rfl rfl (FEq.int (nm := "Node") (by decide) Try.underlying3 Try.isAgg3 rfl rfl (FEq.int (nm := "Life") (by decide) Try.underlying3 Try.isAgg3 rfl rfl (FEq.int (nm := "Count") (by decide) Try.underlying3 Try.isAgg3 rfl rfl FEq.nil))) (FEq.int (nm := "Qty") (by decide) Try.underlying3 Try.isAgg3 rfl rfl (FEq.int (nm := "Price") (by decide) Try.underlying152 Try.isAgg152 rfl rfl FEq.nil)))) (by rw [Bool.eq_iff_iff]; simp [Bool.and_eq_true, decide_eq_true_eq, and_assoc])
theorem bld213 : BuildT Try.prog 213 [Value.int .i64 0, Value.string ⟨#[]⟩, Value.int .u64 0] [(0, 1), (1, 1), (2, 1)] := ⟨⟨_, Try.zeroValue213, rfl⟩, _, Try.underlying213, fun w => by simp [Try.sizeOf152, Try.sizeOf3, Try.sizeOf9]⟩
theorem inf213 : InfoT Try.prog 213 (.agg #[Value.int .i64 0, Value.string ⟨#[]⟩, Value.int .u64 0]) 3 32 := by unfold InfoT; kernel_rfl
theorem eq213 {x0 y0 : Int} {x1 y1 : ByteArray} {x2 y2 : Int} : EqT Try.prog 213 [.int .i64 x0, .string x1, .int .u64 x2] [.int .i64 y0, .string y1, .int .u64 y2] (decide (x0 = y0 ∧ x1 = y1 ∧ x2 = y2)) := EqT.mk (k := 1) (d := 9998) Try.underlying213 Try.stoodInHeld213 Try.eqGuardType213 rfl (FEq.int (nm := "Place") (by decide) Try.underlying3 Try.isAgg3 rfl rfl (FEq.str (nm := "Key") (by decide) Try.underlying9 Try.isAgg9 rfl rfl (FEq.int (nm := "Hash") (by decide) Try.underlying152 Try.isAgg152 rfl rfl FEq.nil))) (by rw [Bool.eq_iff_iff]; simp [Bool.and_eq_true, decide_eq_true_eq, and_assoc])
end Go.Proofs.Ytjfeeiljinbmjaa
