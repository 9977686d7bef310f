/- What is proved in the end: SolverHits returns true whatever the input, and its input reads as it did; no condition.
This text: H4. -/
import Derived.Test.YtldnfpgemlgbmaaGreatM16

section
/- The reference's Hit: its runs at known indexes, part 4. -/
set_option linter.unusedVariables false
namespace Go.Flat
open Go
theorem rhit_421 : RHitP 4 2 1 := by intro l c; kernel_rfl
theorem rhit_423 : RHitP 4 2 3 := by intro l c; kernel_rfl
theorem rhit_430 : RHitP 4 3 0 := by intro l c; kernel_rfl
theorem rhit_431 : RHitP 4 3 1 := by intro l c; kernel_rfl
theorem rhit_432 : RHitP 4 3 2 := by intro l c; kernel_rfl
end Go.Flat
end
