/- What is proved in the end: SolverBinds returns true whatever the input, and its input reads as it did; no condition.
This text: C81. -/
import Derived.Test.YtldnfpgemlgbmaaGreatM12

section
/- The reference's Bind: its runs with a pin, at known indexes. -/
namespace Go.Flat
open Go
theorem rpin_2_0_1 : RPinP 2 0 1 := by intro l j dt; kernel_rfl
theorem rpin_2_1_0 : RPinP 2 1 0 := by intro l j dt; kernel_rfl
theorem rpin_3_0_1 : RPinP 3 0 1 := by intro l j dt; kernel_rfl
theorem rpin_3_0_2 : RPinP 3 0 2 := by intro l j dt; kernel_rfl
theorem rpin_3_1_0 : RPinP 3 1 0 := by intro l j dt; kernel_rfl
theorem rpin_3_1_2 : RPinP 3 1 2 := by intro l j dt; kernel_rfl
theorem rpin_3_2_0 : RPinP 3 2 0 := by intro l j dt; kernel_rfl
theorem rpin_3_2_1 : RPinP 3 2 1 := by intro l j dt; kernel_rfl
theorem rpin_4_0_1 : RPinP 4 0 1 := by intro l j dt; kernel_rfl
theorem rpin_4_0_2 : RPinP 4 0 2 := by intro l j dt; kernel_rfl
theorem rpin_4_0_3 : RPinP 4 0 3 := by intro l j dt; kernel_rfl
theorem rpin_4_1_0 : RPinP 4 1 0 := by intro l j dt; kernel_rfl
theorem rpin_4_1_2 : RPinP 4 1 2 := by intro l j dt; kernel_rfl
theorem rpin_4_1_3 : RPinP 4 1 3 := by intro l j dt; kernel_rfl
theorem rpin_4_2_0 : RPinP 4 2 0 := by intro l j dt; kernel_rfl
theorem rpin_4_2_1 : RPinP 4 2 1 := by intro l j dt; kernel_rfl
theorem rpin_4_2_3 : RPinP 4 2 3 := by intro l j dt; kernel_rfl
theorem rpin_4_3_0 : RPinP 4 3 0 := by intro l j dt; kernel_rfl
theorem rpin_4_3_1 : RPinP 4 3 1 := by intro l j dt; kernel_rfl
theorem rpin_4_3_2 : RPinP 4 3 2 := by intro l j dt; kernel_rfl
theorem rpin_5_0_1 : RPinP 5 0 1 := by intro l j dt; kernel_rfl
theorem rpin_5_0_2 : RPinP 5 0 2 := by intro l j dt; kernel_rfl
theorem rpin_5_0_3 : RPinP 5 0 3 := by intro l j dt; kernel_rfl
theorem rpin_5_0_4 : RPinP 5 0 4 := by intro l j dt; kernel_rfl
theorem rpin_5_1_0 : RPinP 5 1 0 := by intro l j dt; kernel_rfl
theorem rpin_5_1_2 : RPinP 5 1 2 := by intro l j dt; kernel_rfl
theorem rpin_5_1_3 : RPinP 5 1 3 := by intro l j dt; kernel_rfl
theorem rpin_5_1_4 : RPinP 5 1 4 := by intro l j dt; kernel_rfl
theorem rpin_5_2_0 : RPinP 5 2 0 := by intro l j dt; kernel_rfl
theorem rpin_5_2_1 : RPinP 5 2 1 := by intro l j dt; kernel_rfl
theorem rpin_5_2_3 : RPinP 5 2 3 := by intro l j dt; kernel_rfl
theorem rpin_5_2_4 : RPinP 5 2 4 := by intro l j dt; kernel_rfl
theorem rpin_5_3_0 : RPinP 5 3 0 := by intro l j dt; kernel_rfl
theorem rpin_5_3_1 : RPinP 5 3 1 := by intro l j dt; kernel_rfl
theorem rpin_5_3_2 : RPinP 5 3 2 := by intro l j dt; kernel_rfl
theorem rpin_5_3_4 : RPinP 5 3 4 := by intro l j dt; kernel_rfl
theorem rpin_5_4_0 : RPinP 5 4 0 := by intro l j dt; kernel_rfl
theorem rpin_5_4_1 : RPinP 5 4 1 := by intro l j dt; kernel_rfl
theorem rpin_5_4_2 : RPinP 5 4 2 := by intro l j dt; kernel_rfl
theorem rpin_5_4_3 : RPinP 5 4 3 := by intro l j dt; kernel_rfl
end Go.Flat
end
