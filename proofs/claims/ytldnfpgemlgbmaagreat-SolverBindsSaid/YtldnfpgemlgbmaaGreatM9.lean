/- What is proved in the end: SolverBinds returns true whatever the input, and its input reads as it did; no condition.
This text: C72, C73. -/
import Derived.Test.YtldnfpgemlgbmaaGreatM8

section
/- Runs: grabbing a body of a table, at known indexes. -/
set_option linter.unusedSimpArgs false
set_option linter.unusedVariables false
namespace Go.Flat
open Go
theorem grab_1_0 (a : Body) (j : Joint) (r : Num) : runC Cbind 60 N.solver_table_grab [tblA 1, .agg (jA 0 j), r.av] (memT [a]) = grabT a j r fun x => leafT [x] := by kernel_rfl
theorem grab_2_0 (a b : Body) (j : Joint) (r : Num) : runC Cbind 60 N.solver_table_grab [tblA 2, .agg (jA 0 j), r.av] (memT [a, b]) = grabT a j r fun x => leafT [x, b] := by kernel_rfl
theorem grab_2_1 (a b : Body) (j : Joint) (r : Num) : runC Cbind 60 N.solver_table_grab [tblA 2, .agg (jA 1 j), r.av] (memT [a, b]) = grabT b j r fun x => leafT [a, x] := by kernel_rfl
theorem grab_3_0 (a b c : Body) (j : Joint) (r : Num) : runC Cbind 60 N.solver_table_grab [tblA 3, .agg (jA 0 j), r.av] (memT [a, b, c]) = grabT a j r fun x => leafT [x, b, c] := by kernel_rfl
theorem grab_3_1 (a b c : Body) (j : Joint) (r : Num) : runC Cbind 60 N.solver_table_grab [tblA 3, .agg (jA 1 j), r.av] (memT [a, b, c]) = grabT b j r fun x => leafT [a, x, c] := by kernel_rfl
theorem grab_3_2 (a b c : Body) (j : Joint) (r : Num) : runC Cbind 60 N.solver_table_grab [tblA 3, .agg (jA 2 j), r.av] (memT [a, b, c]) = grabT c j r fun x => leafT [a, b, x] := by kernel_rfl
theorem grab_4_0 (a b c d : Body) (j : Joint) (r : Num) : runC Cbind 60 N.solver_table_grab [tblA 4, .agg (jA 0 j), r.av] (memT [a, b, c, d]) = grabT a j r fun x => leafT [x, b, c, d] := by kernel_rfl
theorem grab_4_1 (a b c d : Body) (j : Joint) (r : Num) : runC Cbind 60 N.solver_table_grab [tblA 4, .agg (jA 1 j), r.av] (memT [a, b, c, d]) = grabT b j r fun x => leafT [a, x, c, d] := by kernel_rfl
theorem grab_4_2 (a b c d : Body) (j : Joint) (r : Num) : runC Cbind 60 N.solver_table_grab [tblA 4, .agg (jA 2 j), r.av] (memT [a, b, c, d]) = grabT c j r fun x => leafT [a, b, x, d] := by kernel_rfl
theorem grab_4_3 (a b c d : Body) (j : Joint) (r : Num) : runC Cbind 60 N.solver_table_grab [tblA 4, .agg (jA 3 j), r.av] (memT [a, b, c, d]) = grabT d j r fun x => leafT [a, b, c, x] := by kernel_rfl
theorem grab_5_0 (a b c d e : Body) (j : Joint) (r : Num) : runC Cbind 60 N.solver_table_grab [tblA 5, .agg (jA 0 j), r.av] (memT [a, b, c, d, e]) = grabT a j r fun x => leafT [x, b, c, d, e] := by kernel_rfl
theorem grab_5_1 (a b c d e : Body) (j : Joint) (r : Num) : runC Cbind 60 N.solver_table_grab [tblA 5, .agg (jA 1 j), r.av] (memT [a, b, c, d, e]) = grabT b j r fun x => leafT [a, x, c, d, e] := by kernel_rfl
theorem grab_5_2 (a b c d e : Body) (j : Joint) (r : Num) : runC Cbind 60 N.solver_table_grab [tblA 5, .agg (jA 2 j), r.av] (memT [a, b, c, d, e]) = grabT c j r fun x => leafT [a, b, x, d, e] := by kernel_rfl
theorem grab_5_3 (a b c d e : Body) (j : Joint) (r : Num) : runC Cbind 60 N.solver_table_grab [tblA 5, .agg (jA 3 j), r.av] (memT [a, b, c, d, e]) = grabT d j r fun x => leafT [a, b, c, x, e] := by kernel_rfl
theorem grab_5_4 (a b c d e : Body) (j : Joint) (r : Num) : runC Cbind 60 N.solver_table_grab [tblA 5, .agg (jA 4 j), r.av] (memT [a, b, c, d, e]) = grabT e j r fun x => leafT [a, b, c, d, x] := by kernel_rfl
end Go.Flat
end

section
/- Runs: a rod between two bodies of a table, at known indexes. -/
set_option linter.unusedSimpArgs false
set_option linter.unusedVariables false
namespace Go.Flat
open Go
theorem rod_2_0_1 (a b : Body) (j : Joint) (r : Num) : runC Cbind 60 N.solver_table_rod [tblA 2, .agg (jAB 0 1 j), r.av] (memT [a, b]) = rodT a b j r fun x y => leafT [x, y] := by kernel_rfl
theorem rod_2_1_0 (a b : Body) (j : Joint) (r : Num) : runC Cbind 60 N.solver_table_rod [tblA 2, .agg (jAB 1 0 j), r.av] (memT [a, b]) = rodT b a j r fun x y => leafT [y, x] := by kernel_rfl
theorem rod_3_0_1 (a b c : Body) (j : Joint) (r : Num) : runC Cbind 60 N.solver_table_rod [tblA 3, .agg (jAB 0 1 j), r.av] (memT [a, b, c]) = rodT a b j r fun x y => leafT [x, y, c] := by kernel_rfl
theorem rod_3_0_2 (a b c : Body) (j : Joint) (r : Num) : runC Cbind 60 N.solver_table_rod [tblA 3, .agg (jAB 0 2 j), r.av] (memT [a, b, c]) = rodT a c j r fun x y => leafT [x, b, y] := by kernel_rfl
theorem rod_3_1_0 (a b c : Body) (j : Joint) (r : Num) : runC Cbind 60 N.solver_table_rod [tblA 3, .agg (jAB 1 0 j), r.av] (memT [a, b, c]) = rodT b a j r fun x y => leafT [y, x, c] := by kernel_rfl
theorem rod_3_1_2 (a b c : Body) (j : Joint) (r : Num) : runC Cbind 60 N.solver_table_rod [tblA 3, .agg (jAB 1 2 j), r.av] (memT [a, b, c]) = rodT b c j r fun x y => leafT [a, x, y] := by kernel_rfl
theorem rod_3_2_0 (a b c : Body) (j : Joint) (r : Num) : runC Cbind 60 N.solver_table_rod [tblA 3, .agg (jAB 2 0 j), r.av] (memT [a, b, c]) = rodT c a j r fun x y => leafT [y, b, x] := by kernel_rfl
theorem rod_3_2_1 (a b c : Body) (j : Joint) (r : Num) : runC Cbind 60 N.solver_table_rod [tblA 3, .agg (jAB 2 1 j), r.av] (memT [a, b, c]) = rodT c b j r fun x y => leafT [a, y, x] := by kernel_rfl
theorem rod_4_0_1 (a b c d : Body) (j : Joint) (r : Num) : runC Cbind 60 N.solver_table_rod [tblA 4, .agg (jAB 0 1 j), r.av] (memT [a, b, c, d]) = rodT a b j r fun x y => leafT [x, y, c, d] := by kernel_rfl
theorem rod_4_0_2 (a b c d : Body) (j : Joint) (r : Num) : runC Cbind 60 N.solver_table_rod [tblA 4, .agg (jAB 0 2 j), r.av] (memT [a, b, c, d]) = rodT a c j r fun x y => leafT [x, b, y, d] := by kernel_rfl
theorem rod_4_0_3 (a b c d : Body) (j : Joint) (r : Num) : runC Cbind 60 N.solver_table_rod [tblA 4, .agg (jAB 0 3 j), r.av] (memT [a, b, c, d]) = rodT a d j r fun x y => leafT [x, b, c, y] := by kernel_rfl
theorem rod_4_1_0 (a b c d : Body) (j : Joint) (r : Num) : runC Cbind 60 N.solver_table_rod [tblA 4, .agg (jAB 1 0 j), r.av] (memT [a, b, c, d]) = rodT b a j r fun x y => leafT [y, x, c, d] := by kernel_rfl
theorem rod_4_1_2 (a b c d : Body) (j : Joint) (r : Num) : runC Cbind 60 N.solver_table_rod [tblA 4, .agg (jAB 1 2 j), r.av] (memT [a, b, c, d]) = rodT b c j r fun x y => leafT [a, x, y, d] := by kernel_rfl
theorem rod_4_1_3 (a b c d : Body) (j : Joint) (r : Num) : runC Cbind 60 N.solver_table_rod [tblA 4, .agg (jAB 1 3 j), r.av] (memT [a, b, c, d]) = rodT b d j r fun x y => leafT [a, x, c, y] := by kernel_rfl
theorem rod_4_2_0 (a b c d : Body) (j : Joint) (r : Num) : runC Cbind 60 N.solver_table_rod [tblA 4, .agg (jAB 2 0 j), r.av] (memT [a, b, c, d]) = rodT c a j r fun x y => leafT [y, b, x, d] := by kernel_rfl
theorem rod_4_2_1 (a b c d : Body) (j : Joint) (r : Num) : runC Cbind 60 N.solver_table_rod [tblA 4, .agg (jAB 2 1 j), r.av] (memT [a, b, c, d]) = rodT c b j r fun x y => leafT [a, y, x, d] := by kernel_rfl
theorem rod_4_2_3 (a b c d : Body) (j : Joint) (r : Num) : runC Cbind 60 N.solver_table_rod [tblA 4, .agg (jAB 2 3 j), r.av] (memT [a, b, c, d]) = rodT c d j r fun x y => leafT [a, b, x, y] := by kernel_rfl
theorem rod_4_3_0 (a b c d : Body) (j : Joint) (r : Num) : runC Cbind 60 N.solver_table_rod [tblA 4, .agg (jAB 3 0 j), r.av] (memT [a, b, c, d]) = rodT d a j r fun x y => leafT [y, b, c, x] := by kernel_rfl
theorem rod_4_3_1 (a b c d : Body) (j : Joint) (r : Num) : runC Cbind 60 N.solver_table_rod [tblA 4, .agg (jAB 3 1 j), r.av] (memT [a, b, c, d]) = rodT d b j r fun x y => leafT [a, y, c, x] := by kernel_rfl
theorem rod_4_3_2 (a b c d : Body) (j : Joint) (r : Num) : runC Cbind 60 N.solver_table_rod [tblA 4, .agg (jAB 3 2 j), r.av] (memT [a, b, c, d]) = rodT d c j r fun x y => leafT [a, b, y, x] := by kernel_rfl
theorem rod_5_0_1 (a b c d e : Body) (j : Joint) (r : Num) : runC Cbind 60 N.solver_table_rod [tblA 5, .agg (jAB 0 1 j), r.av] (memT [a, b, c, d, e]) = rodT a b j r fun x y => leafT [x, y, c, d, e] := by kernel_rfl
theorem rod_5_0_2 (a b c d e : Body) (j : Joint) (r : Num) : runC Cbind 60 N.solver_table_rod [tblA 5, .agg (jAB 0 2 j), r.av] (memT [a, b, c, d, e]) = rodT a c j r fun x y => leafT [x, b, y, d, e] := by kernel_rfl
theorem rod_5_0_3 (a b c d e : Body) (j : Joint) (r : Num) : runC Cbind 60 N.solver_table_rod [tblA 5, .agg (jAB 0 3 j), r.av] (memT [a, b, c, d, e]) = rodT a d j r fun x y => leafT [x, b, c, y, e] := by kernel_rfl
theorem rod_5_0_4 (a b c d e : Body) (j : Joint) (r : Num) : runC Cbind 60 N.solver_table_rod [tblA 5, .agg (jAB 0 4 j), r.av] (memT [a, b, c, d, e]) = rodT a e j r fun x y => leafT [x, b, c, d, y] := by kernel_rfl
theorem rod_5_1_0 (a b c d e : Body) (j : Joint) (r : Num) : runC Cbind 60 N.solver_table_rod [tblA 5, .agg (jAB 1 0 j), r.av] (memT [a, b, c, d, e]) = rodT b a j r fun x y => leafT [y, x, c, d, e] := by kernel_rfl
theorem rod_5_1_2 (a b c d e : Body) (j : Joint) (r : Num) : runC Cbind 60 N.solver_table_rod [tblA 5, .agg (jAB 1 2 j), r.av] (memT [a, b, c, d, e]) = rodT b c j r fun x y => leafT [a, x, y, d, e] := by kernel_rfl
theorem rod_5_1_3 (a b c d e : Body) (j : Joint) (r : Num) : runC Cbind 60 N.solver_table_rod [tblA 5, .agg (jAB 1 3 j), r.av] (memT [a, b, c, d, e]) = rodT b d j r fun x y => leafT [a, x, c, y, e] := by kernel_rfl
theorem rod_5_1_4 (a b c d e : Body) (j : Joint) (r : Num) : runC Cbind 60 N.solver_table_rod [tblA 5, .agg (jAB 1 4 j), r.av] (memT [a, b, c, d, e]) = rodT b e j r fun x y => leafT [a, x, c, d, y] := by kernel_rfl
theorem rod_5_2_0 (a b c d e : Body) (j : Joint) (r : Num) : runC Cbind 60 N.solver_table_rod [tblA 5, .agg (jAB 2 0 j), r.av] (memT [a, b, c, d, e]) = rodT c a j r fun x y => leafT [y, b, x, d, e] := by kernel_rfl
theorem rod_5_2_1 (a b c d e : Body) (j : Joint) (r : Num) : runC Cbind 60 N.solver_table_rod [tblA 5, .agg (jAB 2 1 j), r.av] (memT [a, b, c, d, e]) = rodT c b j r fun x y => leafT [a, y, x, d, e] := by kernel_rfl
theorem rod_5_2_3 (a b c d e : Body) (j : Joint) (r : Num) : runC Cbind 60 N.solver_table_rod [tblA 5, .agg (jAB 2 3 j), r.av] (memT [a, b, c, d, e]) = rodT c d j r fun x y => leafT [a, b, x, y, e] := by kernel_rfl
theorem rod_5_2_4 (a b c d e : Body) (j : Joint) (r : Num) : runC Cbind 60 N.solver_table_rod [tblA 5, .agg (jAB 2 4 j), r.av] (memT [a, b, c, d, e]) = rodT c e j r fun x y => leafT [a, b, x, d, y] := by kernel_rfl
theorem rod_5_3_0 (a b c d e : Body) (j : Joint) (r : Num) : runC Cbind 60 N.solver_table_rod [tblA 5, .agg (jAB 3 0 j), r.av] (memT [a, b, c, d, e]) = rodT d a j r fun x y => leafT [y, b, c, x, e] := by kernel_rfl
theorem rod_5_3_1 (a b c d e : Body) (j : Joint) (r : Num) : runC Cbind 60 N.solver_table_rod [tblA 5, .agg (jAB 3 1 j), r.av] (memT [a, b, c, d, e]) = rodT d b j r fun x y => leafT [a, y, c, x, e] := by kernel_rfl
theorem rod_5_3_2 (a b c d e : Body) (j : Joint) (r : Num) : runC Cbind 60 N.solver_table_rod [tblA 5, .agg (jAB 3 2 j), r.av] (memT [a, b, c, d, e]) = rodT d c j r fun x y => leafT [a, b, y, x, e] := by kernel_rfl
theorem rod_5_3_4 (a b c d e : Body) (j : Joint) (r : Num) : runC Cbind 60 N.solver_table_rod [tblA 5, .agg (jAB 3 4 j), r.av] (memT [a, b, c, d, e]) = rodT d e j r fun x y => leafT [a, b, c, x, y] := by kernel_rfl
theorem rod_5_4_0 (a b c d e : Body) (j : Joint) (r : Num) : runC Cbind 60 N.solver_table_rod [tblA 5, .agg (jAB 4 0 j), r.av] (memT [a, b, c, d, e]) = rodT e a j r fun x y => leafT [y, b, c, d, x] := by kernel_rfl
theorem rod_5_4_1 (a b c d e : Body) (j : Joint) (r : Num) : runC Cbind 60 N.solver_table_rod [tblA 5, .agg (jAB 4 1 j), r.av] (memT [a, b, c, d, e]) = rodT e b j r fun x y => leafT [a, y, c, d, x] := by kernel_rfl
theorem rod_5_4_2 (a b c d e : Body) (j : Joint) (r : Num) : runC Cbind 60 N.solver_table_rod [tblA 5, .agg (jAB 4 2 j), r.av] (memT [a, b, c, d, e]) = rodT e c j r fun x y => leafT [a, b, y, d, x] := by kernel_rfl
theorem rod_5_4_3 (a b c d e : Body) (j : Joint) (r : Num) : runC Cbind 60 N.solver_table_rod [tblA 5, .agg (jAB 4 3 j), r.av] (memT [a, b, c, d, e]) = rodT e d j r fun x y => leafT [a, b, c, y, x] := by kernel_rfl
end Go.Flat
end
