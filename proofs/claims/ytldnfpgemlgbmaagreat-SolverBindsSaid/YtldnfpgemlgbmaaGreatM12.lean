/- What is proved in the end: SolverBinds returns true whatever the input, and its input reads as it did; no condition.
This text: C79, C80. -/
import Derived.Test.YtldnfpgemlgbmaaGreatM11

section
/- The reference's Bind: its runs that grab, at known indexes. -/
namespace Go.Flat
open Go
theorem rgrab_1_0 : RGrabP 1 0 := by intro l j dt; kernel_rfl
theorem rgrab_2_0 : RGrabP 2 0 := by intro l j dt; kernel_rfl
theorem rgrab_2_1 : RGrabP 2 1 := by intro l j dt; kernel_rfl
theorem rgrab_3_0 : RGrabP 3 0 := by intro l j dt; kernel_rfl
theorem rgrab_3_1 : RGrabP 3 1 := by intro l j dt; kernel_rfl
theorem rgrab_3_2 : RGrabP 3 2 := by intro l j dt; kernel_rfl
theorem rgrab_4_0 : RGrabP 4 0 := by intro l j dt; kernel_rfl
theorem rgrab_4_1 : RGrabP 4 1 := by intro l j dt; kernel_rfl
theorem rgrab_4_2 : RGrabP 4 2 := by intro l j dt; kernel_rfl
theorem rgrab_4_3 : RGrabP 4 3 := by intro l j dt; kernel_rfl
theorem rgrab_5_0 : RGrabP 5 0 := by intro l j dt; kernel_rfl
theorem rgrab_5_1 : RGrabP 5 1 := by intro l j dt; kernel_rfl
theorem rgrab_5_2 : RGrabP 5 2 := by intro l j dt; kernel_rfl
theorem rgrab_5_3 : RGrabP 5 3 := by intro l j dt; kernel_rfl
theorem rgrab_5_4 : RGrabP 5 4 := by intro l j dt; kernel_rfl
end Go.Flat
end

section
/- The reference's Bind: its runs with a rod, at known indexes. -/
namespace Go.Flat
open Go
theorem rrod_2_0_1 : RRodP 2 0 1 := by intro l j dt; kernel_rfl
theorem rrod_2_1_0 : RRodP 2 1 0 := by intro l j dt; kernel_rfl
theorem rrod_3_0_1 : RRodP 3 0 1 := by intro l j dt; kernel_rfl
theorem rrod_3_0_2 : RRodP 3 0 2 := by intro l j dt; kernel_rfl
theorem rrod_3_1_0 : RRodP 3 1 0 := by intro l j dt; kernel_rfl
theorem rrod_3_1_2 : RRodP 3 1 2 := by intro l j dt; kernel_rfl
theorem rrod_3_2_0 : RRodP 3 2 0 := by intro l j dt; kernel_rfl
theorem rrod_3_2_1 : RRodP 3 2 1 := by intro l j dt; kernel_rfl
theorem rrod_4_0_1 : RRodP 4 0 1 := by intro l j dt; kernel_rfl
theorem rrod_4_0_2 : RRodP 4 0 2 := by intro l j dt; kernel_rfl
theorem rrod_4_0_3 : RRodP 4 0 3 := by intro l j dt; kernel_rfl
theorem rrod_4_1_0 : RRodP 4 1 0 := by intro l j dt; kernel_rfl
theorem rrod_4_1_2 : RRodP 4 1 2 := by intro l j dt; kernel_rfl
theorem rrod_4_1_3 : RRodP 4 1 3 := by intro l j dt; kernel_rfl
theorem rrod_4_2_0 : RRodP 4 2 0 := by intro l j dt; kernel_rfl
theorem rrod_4_2_1 : RRodP 4 2 1 := by intro l j dt; kernel_rfl
theorem rrod_4_2_3 : RRodP 4 2 3 := by intro l j dt; kernel_rfl
theorem rrod_4_3_0 : RRodP 4 3 0 := by intro l j dt; kernel_rfl
theorem rrod_4_3_1 : RRodP 4 3 1 := by intro l j dt; kernel_rfl
theorem rrod_4_3_2 : RRodP 4 3 2 := by intro l j dt; kernel_rfl
theorem rrod_5_0_1 : RRodP 5 0 1 := by intro l j dt; kernel_rfl
theorem rrod_5_0_2 : RRodP 5 0 2 := by intro l j dt; kernel_rfl
theorem rrod_5_0_3 : RRodP 5 0 3 := by intro l j dt; kernel_rfl
theorem rrod_5_0_4 : RRodP 5 0 4 := by intro l j dt; kernel_rfl
theorem rrod_5_1_0 : RRodP 5 1 0 := by intro l j dt; kernel_rfl
theorem rrod_5_1_2 : RRodP 5 1 2 := by intro l j dt; kernel_rfl
theorem rrod_5_1_3 : RRodP 5 1 3 := by intro l j dt; kernel_rfl
theorem rrod_5_1_4 : RRodP 5 1 4 := by intro l j dt; kernel_rfl
theorem rrod_5_2_0 : RRodP 5 2 0 := by intro l j dt; kernel_rfl
theorem rrod_5_2_1 : RRodP 5 2 1 := by intro l j dt; kernel_rfl
theorem rrod_5_2_3 : RRodP 5 2 3 := by intro l j dt; kernel_rfl
theorem rrod_5_2_4 : RRodP 5 2 4 := by intro l j dt; kernel_rfl
theorem rrod_5_3_0 : RRodP 5 3 0 := by intro l j dt; kernel_rfl
theorem rrod_5_3_1 : RRodP 5 3 1 := by intro l j dt; kernel_rfl
theorem rrod_5_3_2 : RRodP 5 3 2 := by intro l j dt; kernel_rfl
theorem rrod_5_3_4 : RRodP 5 3 4 := by intro l j dt; kernel_rfl
theorem rrod_5_4_0 : RRodP 5 4 0 := by intro l j dt; kernel_rfl
theorem rrod_5_4_1 : RRodP 5 4 1 := by intro l j dt; kernel_rfl
theorem rrod_5_4_2 : RRodP 5 4 2 := by intro l j dt; kernel_rfl
theorem rrod_5_4_3 : RRodP 5 4 3 := by intro l j dt; kernel_rfl
end Go.Flat
end
