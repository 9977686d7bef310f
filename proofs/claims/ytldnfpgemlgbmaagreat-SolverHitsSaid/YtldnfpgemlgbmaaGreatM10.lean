/- What is proved in the end: SolverHits returns true whatever the input, and its input reads as it did; no condition.
This text: C46. -/
import Derived.Test.YtldnfpgemlgbmaaGreatM9

section
/- The reference's Part: its runs at five bodies. -/
set_option linter.unusedSimpArgs false
set_option linter.unusedVariables false
namespace Go.Flat
open Go

theorem rpart_5 : ∀ i, i < 5 → ∀ j, j < 5 → i ≠ j → RPartP 5 i j :=
  all5 (all5 (fun h => absurd rfl h)
    (fun _ => by intro l c; kernel_rfl)
    (fun _ => by intro l c; kernel_rfl)
    (fun _ => by intro l c; kernel_rfl)
    (fun _ => by intro l c; kernel_rfl))
   (all5 (fun _ => by intro l c; kernel_rfl)
    (fun h => absurd rfl h)
    (fun _ => by intro l c; kernel_rfl)
    (fun _ => by intro l c; kernel_rfl)
    (fun _ => by intro l c; kernel_rfl))
   (all5 (fun _ => by intro l c; kernel_rfl)
    (fun _ => by intro l c; kernel_rfl)
    (fun h => absurd rfl h)
    (fun _ => by intro l c; kernel_rfl)
    (fun _ => by intro l c; kernel_rfl))
   (all5 (fun _ => by intro l c; kernel_rfl)
    (fun _ => by intro l c; kernel_rfl)
    (fun _ => by intro l c; kernel_rfl)
    (fun h => absurd rfl h)
    (fun _ => by intro l c; kernel_rfl))
   (all5 (fun _ => by intro l c; kernel_rfl)
    (fun _ => by intro l c; kernel_rfl)
    (fun _ => by intro l c; kernel_rfl)
    (fun _ => by intro l c; kernel_rfl)
    (fun h => absurd rfl h))
/-- indexes that are not there: the tree's other side is never looked at -/
def rNoT (n : Nat) (l : Nat → Body) (A B : Int) (rest : Tree AV) : Tree AV := guards (condsR n l) (.node (!apartB n A B) (leafR n (lstN n l)) rest)
end Go.Flat
end
