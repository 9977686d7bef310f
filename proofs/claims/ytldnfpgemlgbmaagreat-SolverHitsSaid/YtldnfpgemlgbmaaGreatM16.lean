/- What is proved in the end: SolverHits returns true whatever the input, and its input reads as it did; no condition.
This text: H3. -/
import Derived.Test.YtldnfpgemlgbmaaGreatM15

section
/- The reference's Hit: its runs at known indexes, part 3. -/
set_option linter.unusedVariables false
namespace Go.Flat
open Go
theorem rhit_403 : RHitP 4 0 3 := by intro l c; kernel_rfl
theorem rhit_410 : RHitP 4 1 0 := by intro l c; kernel_rfl
theorem rhit_412 : RHitP 4 1 2 := by intro l c; kernel_rfl
theorem rhit_413 : RHitP 4 1 3 := by intro l c; kernel_rfl
theorem rhit_420 : RHitP 4 2 0 := by intro l c; kernel_rfl
end Go.Flat
end
