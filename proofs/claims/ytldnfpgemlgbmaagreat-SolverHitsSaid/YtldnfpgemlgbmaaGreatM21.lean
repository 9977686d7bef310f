/- What is proved in the end: SolverHits returns true whatever the input, and its input reads as it did; no condition.
This text: H8. -/
import Derived.Test.YtldnfpgemlgbmaaGreatM20

section
/- The reference's Hit: its runs at known indexes, part 8. -/
set_option linter.unusedVariables false
namespace Go.Flat
open Go
theorem rhit_534 : RHitP 5 3 4 := by intro l c; kernel_rfl
theorem rhit_540 : RHitP 5 4 0 := by intro l c; kernel_rfl
theorem rhit_541 : RHitP 5 4 1 := by intro l c; kernel_rfl
theorem rhit_542 : RHitP 5 4 2 := by intro l c; kernel_rfl
theorem rhit_543 : RHitP 5 4 3 := by intro l c; kernel_rfl
end Go.Flat
end
