/- What is proved in the end: SolverHits returns true whatever the input, and its input reads as it did; no condition.
This text: C45. -/
import Derived.Test.YtldnfpgemlgbmaaGreatM8

section
/- The reference's Part: its runs at known lengths and indexes. -/
set_option linter.unusedSimpArgs false
set_option linter.unusedVariables false
namespace Go.Flat
open Go

def t_rPart : List Ent := [e_rCopy, e_rApart, e_rMax, e_rAddN, e_rDiv, e_rMul, e_rSub, e_slop, e_beta, e_rMoved, e_rVSub, e_rScale, e_rAdd]
noncomputable abbrev CrP : Ctx := ctxL N.P t_rPart [] [] [] h0 nn
def condsR (n : Nat) (l : Nat → Body) : List Bool := (List.range n).flatMap fun i => (l i).small :: okS (l i).Shp.Pts :: (match i with | 0 => [true] | _ => [true, true])
def leafR (n : Nat) (L : List Body) : Tree AV := gd true (.leaf (.vsl true 27 n (fun r => (rowsOf n L).getD r [])))
def tailR (n i j : Nat) (L : List Body) (c : Contact) (d : Num) : Tree AV := .node ((nAdd (bAt L i).Wt.M (bAt L j).Wt.M).V == 0) (leafR n L) (gd (okS (bAt L i).Shp.Pts) (gd true (gd (okS (bAt L j).Shp.Pts) (gd true
  (leafR n ((L.set i (apA (bAt L i) (bAt L j) c.M.N d)).set j (apB (bAt L i) (bAt L j) c.M.N d)))))))
def rPartT (n i j : Nat) (l : Nat → Body) (c : Contact) : Tree AV := guards (condsR n l) (.node (!apartB n i j) (leafR n (lstN n l)) (.node ((c.M.L.len : Int) == 0) (leafR n (lstN n l))
  (gd (decide ((0 : Int) ≤ 0) && decide ((0 : Int) < (c.M.L.len : Int))) (.node (decide ((c.M.L.len : Int) > 1)) (gd (decide ((0 : Int) ≤ 1) && decide ((1 : Int) < (c.M.L.len : Int))) (tailR n i j (lstN n l) c (nMax [(c.M.L.at' 0).Depth, (c.M.L.at' 1).Depth])))
    (tailR n i j (lstN n l) c (c.M.L.at' 0).Depth)))))
def conAB (c : Contact) (i j : Int) : List AV := .ki .i64 i :: .ki .i64 j :: (rContact.cells c).drop 2
abbrev RPartP (n i j : Nat) : Prop := ∀ (l : Nat → Body) (c : Contact), runF CrP 60 N.ref05_Part [.vsl true 27 n (fun i => rBody.cells (l i)), .agg (conAB c i j)] = rPartT n i j l c
theorem rpart_2 : ∀ i, i < 2 → ∀ j, j < 2 → i ≠ j → RPartP 2 i j :=
  all2 (all2 (fun h => absurd rfl h)
    (fun _ => by intro l c; kernel_rfl))
   (all2 (fun _ => by intro l c; kernel_rfl)
    (fun h => absurd rfl h))
theorem rpart_3 : ∀ i, i < 3 → ∀ j, j < 3 → i ≠ j → RPartP 3 i j :=
  all3 (all3 (fun h => absurd rfl h)
    (fun _ => by intro l c; kernel_rfl)
    (fun _ => by intro l c; kernel_rfl))
   (all3 (fun _ => by intro l c; kernel_rfl)
    (fun h => absurd rfl h)
    (fun _ => by intro l c; kernel_rfl))
   (all3 (fun _ => by intro l c; kernel_rfl)
    (fun _ => by intro l c; kernel_rfl)
    (fun h => absurd rfl h))
theorem rpart_4 : ∀ i, i < 4 → ∀ j, j < 4 → i ≠ j → RPartP 4 i j :=
  all4 (all4 (fun h => absurd rfl h)
    (fun _ => by intro l c; kernel_rfl)
    (fun _ => by intro l c; kernel_rfl)
    (fun _ => by intro l c; kernel_rfl))
   (all4 (fun _ => by intro l c; kernel_rfl)
    (fun h => absurd rfl h)
    (fun _ => by intro l c; kernel_rfl)
    (fun _ => by intro l c; kernel_rfl))
   (all4 (fun _ => by intro l c; kernel_rfl)
    (fun _ => by intro l c; kernel_rfl)
    (fun h => absurd rfl h)
    (fun _ => by intro l c; kernel_rfl))
   (all4 (fun _ => by intro l c; kernel_rfl)
    (fun _ => by intro l c; kernel_rfl)
    (fun _ => by intro l c; kernel_rfl)
    (fun h => absurd rfl h))
end Go.Flat
end
