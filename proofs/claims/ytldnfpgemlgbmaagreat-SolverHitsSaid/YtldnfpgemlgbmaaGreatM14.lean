/- What is proved in the end: SolverHits returns true whatever the input, and its input reads as it did; no condition.
This text: H1. -/
import Derived.Test.YtldnfpgemlgbmaaGreatM13

section
/- The reference's Hit: its runs at known indexes, part 1. -/
set_option linter.unusedVariables false
namespace Go.Flat
open Go
theorem rhit_201 : RHitP 2 0 1 := by intro l c; kernel_rfl
theorem rhit_210 : RHitP 2 1 0 := by intro l c; kernel_rfl
theorem rhit_301 : RHitP 3 0 1 := by intro l c; kernel_rfl
theorem rhit_302 : RHitP 3 0 2 := by intro l c; kernel_rfl
theorem rhit_310 : RHitP 3 1 0 := by intro l c; kernel_rfl
end Go.Flat
end
