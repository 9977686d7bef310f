/- What is proved in the end: SolverHits returns true whatever the input, and its input reads as it did; no condition.
This text: H7. -/
import Derived.Test.YtldnfpgemlgbmaaGreatM19

section
/- The reference's Hit: its runs at known indexes, part 7. -/
set_option linter.unusedVariables false
namespace Go.Flat
open Go
theorem rhit_523 : RHitP 5 2 3 := by intro l c; kernel_rfl
theorem rhit_524 : RHitP 5 2 4 := by intro l c; kernel_rfl
theorem rhit_530 : RHitP 5 3 0 := by intro l c; kernel_rfl
theorem rhit_531 : RHitP 5 3 1 := by intro l c; kernel_rfl
theorem rhit_532 : RHitP 5 3 2 := by intro l c; kernel_rfl
end Go.Flat
end
