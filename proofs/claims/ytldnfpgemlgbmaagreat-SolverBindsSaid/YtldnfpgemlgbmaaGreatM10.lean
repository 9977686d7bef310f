/- What is proved in the end: SolverBinds returns true whatever the input, and its input reads as it did; no condition.
This text: C74. -/
import Derived.Test.YtldnfpgemlgbmaaGreatM9

section
/- Runs: a pin of two bodies of a table, at known indexes. -/
set_option linter.unusedSimpArgs false
set_option linter.unusedVariables false
namespace Go.Flat
open Go
theorem pin_2_0_1 (a b : Body) (j : Joint) (r : Num) : runC Cbind 60 N.solver_table_pin [tblA 2, .agg (jAB 0 1 j), r.av] (memT [a, b]) = pinT a b j r fun x y => leafT [x, y] := by kernel_rfl
theorem pin_2_1_0 (a b : Body) (j : Joint) (r : Num) : runC Cbind 60 N.solver_table_pin [tblA 2, .agg (jAB 1 0 j), r.av] (memT [a, b]) = pinT b a j r fun x y => leafT [y, x] := by kernel_rfl
theorem pin_3_0_1 (a b c : Body) (j : Joint) (r : Num) : runC Cbind 60 N.solver_table_pin [tblA 3, .agg (jAB 0 1 j), r.av] (memT [a, b, c]) = pinT a b j r fun x y => leafT [x, y, c] := by kernel_rfl
theorem pin_3_0_2 (a b c : Body) (j : Joint) (r : Num) : runC Cbind 60 N.solver_table_pin [tblA 3, .agg (jAB 0 2 j), r.av] (memT [a, b, c]) = pinT a c j r fun x y => leafT [x, b, y] := by kernel_rfl
theorem pin_3_1_0 (a b c : Body) (j : Joint) (r : Num) : runC Cbind 60 N.solver_table_pin [tblA 3, .agg (jAB 1 0 j), r.av] (memT [a, b, c]) = pinT b a j r fun x y => leafT [y, x, c] := by kernel_rfl
theorem pin_3_1_2 (a b c : Body) (j : Joint) (r : Num) : runC Cbind 60 N.solver_table_pin [tblA 3, .agg (jAB 1 2 j), r.av] (memT [a, b, c]) = pinT b c j r fun x y => leafT [a, x, y] := by kernel_rfl
theorem pin_3_2_0 (a b c : Body) (j : Joint) (r : Num) : runC Cbind 60 N.solver_table_pin [tblA 3, .agg (jAB 2 0 j), r.av] (memT [a, b, c]) = pinT c a j r fun x y => leafT [y, b, x] := by kernel_rfl
theorem pin_3_2_1 (a b c : Body) (j : Joint) (r : Num) : runC Cbind 60 N.solver_table_pin [tblA 3, .agg (jAB 2 1 j), r.av] (memT [a, b, c]) = pinT c b j r fun x y => leafT [a, y, x] := by kernel_rfl
theorem pin_4_0_1 (a b c d : Body) (j : Joint) (r : Num) : runC Cbind 60 N.solver_table_pin [tblA 4, .agg (jAB 0 1 j), r.av] (memT [a, b, c, d]) = pinT a b j r fun x y => leafT [x, y, c, d] := by kernel_rfl
theorem pin_4_0_2 (a b c d : Body) (j : Joint) (r : Num) : runC Cbind 60 N.solver_table_pin [tblA 4, .agg (jAB 0 2 j), r.av] (memT [a, b, c, d]) = pinT a c j r fun x y => leafT [x, b, y, d] := by kernel_rfl
theorem pin_4_0_3 (a b c d : Body) (j : Joint) (r : Num) : runC Cbind 60 N.solver_table_pin [tblA 4, .agg (jAB 0 3 j), r.av] (memT [a, b, c, d]) = pinT a d j r fun x y => leafT [x, b, c, y] := by kernel_rfl
theorem pin_4_1_0 (a b c d : Body) (j : Joint) (r : Num) : runC Cbind 60 N.solver_table_pin [tblA 4, .agg (jAB 1 0 j), r.av] (memT [a, b, c, d]) = pinT b a j r fun x y => leafT [y, x, c, d] := by kernel_rfl
theorem pin_4_1_2 (a b c d : Body) (j : Joint) (r : Num) : runC Cbind 60 N.solver_table_pin [tblA 4, .agg (jAB 1 2 j), r.av] (memT [a, b, c, d]) = pinT b c j r fun x y => leafT [a, x, y, d] := by kernel_rfl
theorem pin_4_1_3 (a b c d : Body) (j : Joint) (r : Num) : runC Cbind 60 N.solver_table_pin [tblA 4, .agg (jAB 1 3 j), r.av] (memT [a, b, c, d]) = pinT b d j r fun x y => leafT [a, x, c, y] := by kernel_rfl
theorem pin_4_2_0 (a b c d : Body) (j : Joint) (r : Num) : runC Cbind 60 N.solver_table_pin [tblA 4, .agg (jAB 2 0 j), r.av] (memT [a, b, c, d]) = pinT c a j r fun x y => leafT [y, b, x, d] := by kernel_rfl
theorem pin_4_2_1 (a b c d : Body) (j : Joint) (r : Num) : runC Cbind 60 N.solver_table_pin [tblA 4, .agg (jAB 2 1 j), r.av] (memT [a, b, c, d]) = pinT c b j r fun x y => leafT [a, y, x, d] := by kernel_rfl
theorem pin_4_2_3 (a b c d : Body) (j : Joint) (r : Num) : runC Cbind 60 N.solver_table_pin [tblA 4, .agg (jAB 2 3 j), r.av] (memT [a, b, c, d]) = pinT c d j r fun x y => leafT [a, b, x, y] := by kernel_rfl
theorem pin_4_3_0 (a b c d : Body) (j : Joint) (r : Num) : runC Cbind 60 N.solver_table_pin [tblA 4, .agg (jAB 3 0 j), r.av] (memT [a, b, c, d]) = pinT d a j r fun x y => leafT [y, b, c, x] := by kernel_rfl
theorem pin_4_3_1 (a b c d : Body) (j : Joint) (r : Num) : runC Cbind 60 N.solver_table_pin [tblA 4, .agg (jAB 3 1 j), r.av] (memT [a, b, c, d]) = pinT d b j r fun x y => leafT [a, y, c, x] := by kernel_rfl
theorem pin_4_3_2 (a b c d : Body) (j : Joint) (r : Num) : runC Cbind 60 N.solver_table_pin [tblA 4, .agg (jAB 3 2 j), r.av] (memT [a, b, c, d]) = pinT d c j r fun x y => leafT [a, b, y, x] := by kernel_rfl
theorem pin_5_0_1 (a b c d e : Body) (j : Joint) (r : Num) : runC Cbind 60 N.solver_table_pin [tblA 5, .agg (jAB 0 1 j), r.av] (memT [a, b, c, d, e]) = pinT a b j r fun x y => leafT [x, y, c, d, e] := by kernel_rfl
theorem pin_5_0_2 (a b c d e : Body) (j : Joint) (r : Num) : runC Cbind 60 N.solver_table_pin [tblA 5, .agg (jAB 0 2 j), r.av] (memT [a, b, c, d, e]) = pinT a c j r fun x y => leafT [x, b, y, d, e] := by kernel_rfl
theorem pin_5_0_3 (a b c d e : Body) (j : Joint) (r : Num) : runC Cbind 60 N.solver_table_pin [tblA 5, .agg (jAB 0 3 j), r.av] (memT [a, b, c, d, e]) = pinT a d j r fun x y => leafT [x, b, c, y, e] := by kernel_rfl
theorem pin_5_0_4 (a b c d e : Body) (j : Joint) (r : Num) : runC Cbind 60 N.solver_table_pin [tblA 5, .agg (jAB 0 4 j), r.av] (memT [a, b, c, d, e]) = pinT a e j r fun x y => leafT [x, b, c, d, y] := by kernel_rfl
theorem pin_5_1_0 (a b c d e : Body) (j : Joint) (r : Num) : runC Cbind 60 N.solver_table_pin [tblA 5, .agg (jAB 1 0 j), r.av] (memT [a, b, c, d, e]) = pinT b a j r fun x y => leafT [y, x, c, d, e] := by kernel_rfl
theorem pin_5_1_2 (a b c d e : Body) (j : Joint) (r : Num) : runC Cbind 60 N.solver_table_pin [tblA 5, .agg (jAB 1 2 j), r.av] (memT [a, b, c, d, e]) = pinT b c j r fun x y => leafT [a, x, y, d, e] := by kernel_rfl
theorem pin_5_1_3 (a b c d e : Body) (j : Joint) (r : Num) : runC Cbind 60 N.solver_table_pin [tblA 5, .agg (jAB 1 3 j), r.av] (memT [a, b, c, d, e]) = pinT b d j r fun x y => leafT [a, x, c, y, e] := by kernel_rfl
theorem pin_5_1_4 (a b c d e : Body) (j : Joint) (r : Num) : runC Cbind 60 N.solver_table_pin [tblA 5, .agg (jAB 1 4 j), r.av] (memT [a, b, c, d, e]) = pinT b e j r fun x y => leafT [a, x, c, d, y] := by kernel_rfl
theorem pin_5_2_0 (a b c d e : Body) (j : Joint) (r : Num) : runC Cbind 60 N.solver_table_pin [tblA 5, .agg (jAB 2 0 j), r.av] (memT [a, b, c, d, e]) = pinT c a j r fun x y => leafT [y, b, x, d, e] := by kernel_rfl
theorem pin_5_2_1 (a b c d e : Body) (j : Joint) (r : Num) : runC Cbind 60 N.solver_table_pin [tblA 5, .agg (jAB 2 1 j), r.av] (memT [a, b, c, d, e]) = pinT c b j r fun x y => leafT [a, y, x, d, e] := by kernel_rfl
theorem pin_5_2_3 (a b c d e : Body) (j : Joint) (r : Num) : runC Cbind 60 N.solver_table_pin [tblA 5, .agg (jAB 2 3 j), r.av] (memT [a, b, c, d, e]) = pinT c d j r fun x y => leafT [a, b, x, y, e] := by kernel_rfl
theorem pin_5_2_4 (a b c d e : Body) (j : Joint) (r : Num) : runC Cbind 60 N.solver_table_pin [tblA 5, .agg (jAB 2 4 j), r.av] (memT [a, b, c, d, e]) = pinT c e j r fun x y => leafT [a, b, x, d, y] := by kernel_rfl
theorem pin_5_3_0 (a b c d e : Body) (j : Joint) (r : Num) : runC Cbind 60 N.solver_table_pin [tblA 5, .agg (jAB 3 0 j), r.av] (memT [a, b, c, d, e]) = pinT d a j r fun x y => leafT [y, b, c, x, e] := by kernel_rfl
theorem pin_5_3_1 (a b c d e : Body) (j : Joint) (r : Num) : runC Cbind 60 N.solver_table_pin [tblA 5, .agg (jAB 3 1 j), r.av] (memT [a, b, c, d, e]) = pinT d b j r fun x y => leafT [a, y, c, x, e] := by kernel_rfl
theorem pin_5_3_2 (a b c d e : Body) (j : Joint) (r : Num) : runC Cbind 60 N.solver_table_pin [tblA 5, .agg (jAB 3 2 j), r.av] (memT [a, b, c, d, e]) = pinT d c j r fun x y => leafT [a, b, y, x, e] := by kernel_rfl
theorem pin_5_3_4 (a b c d e : Body) (j : Joint) (r : Num) : runC Cbind 60 N.solver_table_pin [tblA 5, .agg (jAB 3 4 j), r.av] (memT [a, b, c, d, e]) = pinT d e j r fun x y => leafT [a, b, c, x, y] := by kernel_rfl
theorem pin_5_4_0 (a b c d e : Body) (j : Joint) (r : Num) : runC Cbind 60 N.solver_table_pin [tblA 5, .agg (jAB 4 0 j), r.av] (memT [a, b, c, d, e]) = pinT e a j r fun x y => leafT [y, b, c, d, x] := by kernel_rfl
theorem pin_5_4_1 (a b c d e : Body) (j : Joint) (r : Num) : runC Cbind 60 N.solver_table_pin [tblA 5, .agg (jAB 4 1 j), r.av] (memT [a, b, c, d, e]) = pinT e b j r fun x y => leafT [a, y, c, d, x] := by kernel_rfl
theorem pin_5_4_2 (a b c d e : Body) (j : Joint) (r : Num) : runC Cbind 60 N.solver_table_pin [tblA 5, .agg (jAB 4 2 j), r.av] (memT [a, b, c, d, e]) = pinT e c j r fun x y => leafT [a, b, y, d, x] := by kernel_rfl
theorem pin_5_4_3 (a b c d e : Body) (j : Joint) (r : Num) : runC Cbind 60 N.solver_table_pin [tblA 5, .agg (jAB 4 3 j), r.av] (memT [a, b, c, d, e]) = pinT e d j r fun x y => leafT [a, b, c, y, x] := by kernel_rfl
end Go.Flat
end
