/- What is proved in the end: SolverHits returns true whatever the input, and its input reads as it did; no condition.
This text: C53. -/
import Derived.Test.YtldnfpgemlgbmaaGreatM11

section
/- One iteration of a contact over two bodies of a table: two touches and more. -/
set_option linter.unusedSimpArgs false
set_option linter.unusedVariables false
namespace Go.Flat
open Go
theorem hit_run2 (n : Nat) (rows : List (List AV)) (a b : Body) (c : Contact) : runC Chit 60 N.solver_table_hit [tblA n, .ptr 1 15 0 0] (memH rows (conL c 2) a b) = hitRes n rows a b c 2 := by kernel_rfl
theorem hit_run3 (n : Nat) (rows : List (List AV)) (a b : Body) (c : Contact) : runC Chit 60 N.solver_table_hit [tblA n, .ptr 1 15 0 0] (memH rows (conL c 3) a b) = hitRes n rows a b c 3 := by kernel_rfl
theorem hit_run4 (n : Nat) (rows : List (List AV)) (a b : Body) (c : Contact) : runC Chit 60 N.solver_table_hit [tblA n, .ptr 1 15 0 0] (memH rows (conL c 4) a b) = hitRes n rows a b c 4 := by kernel_rfl
theorem hit_run5 (n : Nat) (rows : List (List AV)) (a b : Body) (c : Contact) : runC Chit 60 N.solver_table_hit [tblA n, .ptr 1 15 0 0] (memH rows (conL c 5) a b) = hitRes n rows a b c 5 := by kernel_rfl
theorem hit_run6 (n : Nat) (rows : List (List AV)) (a b : Body) (c : Contact) : runC Chit 60 N.solver_table_hit [tblA n, .ptr 1 15 0 0] (memH rows (conL c 6) a b) = hitRes n rows a b c 6 := by kernel_rfl
end Go.Flat
end
