/- What is proved in the end: SolverHits returns true whatever the input, and its input reads as it did; no condition.
This text: H6. -/
import Derived.Test.YtldnfpgemlgbmaaGreatM18

section
/- The reference's Hit: its runs at known indexes, part 6. -/
set_option linter.unusedVariables false
namespace Go.Flat
open Go
theorem rhit_512 : RHitP 5 1 2 := by intro l c; kernel_rfl
theorem rhit_513 : RHitP 5 1 3 := by intro l c; kernel_rfl
theorem rhit_514 : RHitP 5 1 4 := by intro l c; kernel_rfl
theorem rhit_520 : RHitP 5 2 0 := by intro l c; kernel_rfl
theorem rhit_521 : RHitP 5 2 1 := by intro l c; kernel_rfl
end Go.Flat
end
