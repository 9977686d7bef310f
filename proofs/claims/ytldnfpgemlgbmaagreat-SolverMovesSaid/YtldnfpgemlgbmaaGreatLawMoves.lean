/- What is proved in the end: SolverMoves returns true whatever the input, and its input reads as it did; no condition.
This text: LawMoves. -/
import Derived.Test.YtldnfpgemlgbmaaGreatRows
import Derived.WalkKit
import Derived.ProofKit
import Derived.OpenShut
import Derived.ShutString
import Derived.ChangeOld
import Derived.Below
import Derived.SizedLaws
import Derived.Carry
import Derived.Test.YtldnfpgemlgbmaaGreatM9

section
/- The row of SolverMoves: its walk is the law's contract, its arguments are read as rows. -/
namespace Go.Proofs.YtldnfpgemlgbmaaGreat.solverMoves
open Go.ChangeShapes Go.WideShapes Go.ChangeAt Go.RowKit Go.Flat Go.Proofs.YtldnfpgemlgbmaaGreat.Rds
set_option linter.unusedVariables false
set_option maxRecDepth 100000 in
theorem lifted (os : Os) (started : os.Started) (H : Type) (enc : TypeId × Value → H) :
    ReturnsInHanded {} Tryz.checked os 7 .any (Rows.solverMovesSpec.pre6 enc Tryz.prog Tryz.f7 Rows.solverMovesRow.domain false) (Rows.solverMovesSpec.post enc Tryz.prog Tryz.f7 false true false false) := by
  refine returnsInHanded_of_change_sized (C := Tryz.checked) own started (by kernel_rfl) Tryz.func7
    (ChangeSpec.witness6 (enc := enc) (C := Tryz.checked) false ⟨#[], #[zeroBody, zeroVec, zeroVec, zeroNum], []⟩ 8 (by kernel_rfl) (by kernel_rfl) (by kernel_rfl) (by kernel_rfl)) ?_
  intro W base args ds gs before hval0 hW hcnd hsz0 _
  have hval : ∀ (j : Nat) t v, Tryz.f7.params[j]? = some t → args[j]? = some v → Value.okWide Tryz.prog W .any base t v := hval0
  have hW' := hW
  obtain ⟨p, q, hA0, hV, rfl, hfz, hnd⟩ := hW
  have hA : DataW.TrodAll enc Tryz.prog W 0 (fun _ => true) true Tryz.f7.params.toList args.toList ds p := hA0
  rw [Tryz.params7] at hA hval
  obtain ⟨v0, vs0, d0, ds0, p0, q0, hargs, rfl, rfl, h0, r0⟩ := trodAll_cons hA
  obtain ⟨v1, vs1, d1, ds1, p1, q1, rfl, rfl, rfl, h1, r1⟩ := trodAll_cons r0
  obtain ⟨v2, vs2, d2, ds2, p2, q2, rfl, rfl, rfl, h2, r2⟩ := trodAll_cons r1
  obtain ⟨v3, vs3, d3, ds3, p3, q3, rfl, rfl, rfl, h3, r3⟩ := trodAll_cons r2
  obtain ⟨rfl, rfl, rfl⟩ := trodAll_nil r3
  obtain rfl : args = #[v0, v1, v2, v3] := by cases args; simp_all
  obtain ⟨rfl, rfl⟩ := trodVars_none hV
  obtain ⟨c0, rfl, _⟩ := okWide_struct Tryz.underlying57 (hval 0 57 v0 rfl rfl)
  obtain ⟨c1, rfl, _⟩ := okWide_struct Tryz.underlying26 (hval 1 26 v1 rfl rfl)
  obtain ⟨c2, rfl, _⟩ := okWide_struct Tryz.underlying26 (hval 2 26 v2 rfl rfl)
  obtain ⟨c3, rfl, _⟩ := okWide_struct Tryz.underlying24 (hval 3 24 v3 rfl rfl)
  obtain ⟨x0, k0⟩ := agg_of_trod rd57 fl57 h0
  obtain ⟨x1, k1⟩ := agg_of_trod rd26 fl26 h1
  obtain ⟨x2, k2⟩ := agg_of_trod rd26 fl26 h2
  obtain ⟨x3, k3⟩ := agg_of_trod rd24 fl24 h3
  clear hA0 hval0 hsz0
  refine (walk_of (by kernel_rfl) (law_Moves x0 x1 x2 x3) W #[.agg c0, .agg c1, .agg c2, .agg c3] rfl (fun i x hx => ?_)).mono fun e W' h => ?_
  · rcases i with _ | _ | _ | _ | i
    · injection hx with hx; subst hx; exact k0
    · injection hx with hx; subst hx; exact k1
    · injection hx with hx; subst hx; exact k2
    · injection hx with hx; subst hx; exact k3
    · cases hx
  · obtain ⟨v, rfl, hk, hs, R, hv⟩ := h
    cases hv
    exact ⟨_, rfl, _, _, _, [], _, [], hW', trodAll_mk1 (shut_bool Tryz.underlying4 _),
      (trodAll_cons_mk (trod_kept laidOut (by kernel_rfl) (of_decide_eq_true (by kernel_rfl)) h0 hk)
      (trodAll_cons_mk (trod_kept laidOut (by kernel_rfl) (of_decide_eq_true (by kernel_rfl)) h1 hk)
      (trodAll_cons_mk (trod_kept laidOut (by kernel_rfl) (of_decide_eq_true (by kernel_rfl)) h2 hk)
      (trodAll_cons_mk (trod_kept laidOut (by kernel_rfl) (of_decide_eq_true (by kernel_rfl)) h3 hk)
      trodAll_mk0)))), rfl, kept_frame hk hs _, fun h => by cases h⟩
theorem q1 : (Rows.solverMovesRow.inPlace == Tryz.prog.inPlace 7) = true := by kernel_rfl
theorem q2 : (Rows.solverMovesRow.unfollowed == Tryz.prog.unfollowed 7) = true := by kernel_rfl
theorem q3 : (Rows.solverMovesRow.recurses == Tryz.prog.recurses 7) = true := by kernel_rfl
theorem q4 : (Rows.solverMovesRow.named == Tryz.prog.varsNamed 7) = true := by kernel_rfl
theorem calls : callFacts Tryz.prog 7 Rows.solverMovesRow = true := by unfold callFacts; rw [q1, q2, q3, q4]; rfl
theorem ownF : ownFacts Tryz.prog Tryz.f7 Rows.solverMovesSpec Rows.solverMovesRow = true := by kernel_rfl
theorem closed : joinedFacts Tryz.prog 7 Tryz.f7 Rows.solverMovesSpec Rows.solverMovesRow = true := joined_of Facts.laid Facts.rowed Facts.stops Facts.knobs Facts.plain Facts.heard Facts.may Facts.final Facts.make calls ownF
theorem over : Rows.solverMovesRow.holds Tryz.pinned (OpenSpec.ofChange Rows.solverMovesSpec) :=
  OpenClaim.holds_of_wide 7 Tryz.f7 rfl rfl rfl rfl rfl rfl rfl ⟨rfl, rfl, rfl, rfl, rfl⟩ rfl rfl rfl rfl rfl (by kernel_rfl) Tryz.func7 closed
    (of_decide_eq_true (by kernel_rfl)) (by unfold Func.isWrapper; first | (rw [if_pos (by decide +kernel)]; kernel_rfl) | (rw [if_neg (by decide +kernel)]; exact ⟨rfl, rfl⟩))
    (fun os started H enc _ => lifted os started H enc)
theorem proved : Rows.SolverMovesSaid := over
#print axioms proved
end Go.Proofs.YtldnfpgemlgbmaaGreat.solverMoves
namespace Go.Proofs.YtldnfpgemlgbmaaGreat
/-- The row, under a short name, for the claim. -/
theorem solverMoves_holds : Rows.SolverMovesSaid := solverMoves.proved
end Go.Proofs.YtldnfpgemlgbmaaGreat
end
