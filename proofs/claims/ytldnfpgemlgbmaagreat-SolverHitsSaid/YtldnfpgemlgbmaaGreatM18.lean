/- What is proved in the end: SolverHits returns true whatever the input, and its input reads as it did; no condition.
This text: H5. -/
import Derived.Test.YtldnfpgemlgbmaaGreatM17

section
/- The reference's Hit: its runs at known indexes, part 5. -/
set_option linter.unusedVariables false
namespace Go.Flat
open Go
theorem rhit_501 : RHitP 5 0 1 := by intro l c; kernel_rfl
theorem rhit_502 : RHitP 5 0 2 := by intro l c; kernel_rfl
theorem rhit_503 : RHitP 5 0 3 := by intro l c; kernel_rfl
theorem rhit_504 : RHitP 5 0 4 := by intro l c; kernel_rfl
theorem rhit_510 : RHitP 5 1 0 := by intro l c; kernel_rfl
end Go.Flat
end
