/- What is proved in the end: SolverHits returns true whatever the input, and its input reads as it did; no condition.
This text: H2. -/
import Derived.Test.YtldnfpgemlgbmaaGreatM14

section
/- The reference's Hit: its runs at known indexes, part 2. -/
set_option linter.unusedVariables false
namespace Go.Flat
open Go
theorem rhit_312 : RHitP 3 1 2 := by intro l c; kernel_rfl
theorem rhit_320 : RHitP 3 2 0 := by intro l c; kernel_rfl
theorem rhit_321 : RHitP 3 2 1 := by intro l c; kernel_rfl
theorem rhit_401 : RHitP 4 0 1 := by intro l c; kernel_rfl
theorem rhit_402 : RHitP 4 0 2 := by intro l c; kernel_rfl
end Go.Flat
end
