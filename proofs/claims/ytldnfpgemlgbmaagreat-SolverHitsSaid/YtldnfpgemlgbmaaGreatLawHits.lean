/- What is proved in the end: SolverHits returns true whatever the input, and its input reads as it did; no condition.
This text: LawHits. -/
import Derived.Test.YtldnfpgemlgbmaaGreatRows
import Derived.WalkKit
import Derived.ProofKit
import Derived.OpenShut
import Derived.ShutString
import Derived.ChangeOld
import Derived.Below
import Derived.SizedLaws
import Derived.Carry
import Derived.Test.YtldnfpgemlgbmaaGreatM23

section
/- The row of SolverHits: its walk is the law's contract, its arguments are read as rows. -/
namespace Go.Proofs.YtldnfpgemlgbmaaGreat.solverHits
open Go.ChangeShapes Go.WideShapes Go.ChangeAt Go.RowKit Go.Flat Go.Proofs.YtldnfpgemlgbmaaGreat.Rds
set_option linter.unusedVariables false
set_option maxRecDepth 100000 in
theorem lifted (os : Os) (started : os.Started) (H : Type) (enc : TypeId × Value → H) :
    ReturnsInHanded {} Tryz.checked os 4 .any (Rows.solverHitsSpec.pre6 enc Tryz.prog Tryz.f4 Rows.solverHitsRow.domain false) (Rows.solverHitsSpec.post enc Tryz.prog Tryz.f4 false true false false) := by
  refine returnsInHanded_of_change_sized (C := Tryz.checked) own started (by kernel_rfl) Tryz.func4
    (ChangeSpec.witness6 (enc := enc) (C := Tryz.checked) false ⟨#[], #[.slice none 0 0, zeroContact], []⟩ 8 (by kernel_rfl) (by kernel_rfl) (by kernel_rfl) (by kernel_rfl)) ?_
  intro W base args ds gs before hval0 hW hcnd hsz0 _
  have hval : ∀ (j : Nat) t v, Tryz.f4.params[j]? = some t → args[j]? = some v → Value.okWide Tryz.prog W .any base t v := hval0
  have hW' := hW
  obtain ⟨p, q, hA0, hV, rfl, hfz, hnd⟩ := hW
  have hA : DataW.TrodAll enc Tryz.prog W 0 (fun _ => true) true Tryz.f4.params.toList args.toList ds p := hA0
  rw [Tryz.params4] at hA hval
  obtain ⟨v0, vs0, d0, ds0, p0, q0, hargs, rfl, rfl, h0, r0⟩ := trodAll_cons hA
  obtain ⟨v1, vs1, d1, ds1, p1, q1, rfl, rfl, rfl, h1, r1⟩ := trodAll_cons r0
  obtain ⟨rfl, rfl, rfl⟩ := trodAll_nil r1
  obtain rfl : args = #[v0, v1] := by cases args; simp_all
  obtain ⟨rfl, rfl⟩ := trodVars_none hV
  obtain ⟨a0, n0, m0, rfl⟩ := okWide_slice Tryz.underlying22 (hval 0 22 v0 rfl rfl)
  obtain ⟨c1, rfl, _⟩ := okWide_struct Tryz.underlying32 (hval 1 32 v1 rfl rfl)
  obtain ⟨x0, k0⟩ := slice_of_trod Tryz.underlying22 rd57 fl57 (by decide) h0
  obtain ⟨x1, k1⟩ := agg_of_trod rd32 fl32 h1
  clear hA0 hval0 hsz0
  refine (walk_of (by kernel_rfl) (law_Hits x0 x1) W #[.slice a0 n0 m0, .agg c1] rfl (fun i x hx => ?_)).mono fun e W' h => ?_
  · rcases i with _ | _ | i
    · injection hx with hx; subst hx; exact k0
    · injection hx with hx; subst hx; exact k1
    · cases hx
  · obtain ⟨v, rfl, hk, hs, R, hv⟩ := h
    cases hv
    exact ⟨_, rfl, _, _, _, [], _, [], hW', trodAll_mk1 (shut_bool Tryz.underlying4 _),
      (trodAll_cons_mk (trod_kept laidOut (by kernel_rfl) (of_decide_eq_true (by kernel_rfl)) h0 hk)
      (trodAll_cons_mk (trod_kept laidOut (by kernel_rfl) (of_decide_eq_true (by kernel_rfl)) h1 hk)
      trodAll_mk0)), rfl, kept_frame hk hs _, fun h => by cases h⟩
theorem q1 : (Rows.solverHitsRow.inPlace == Tryz.prog.inPlace 4) = true := by kernel_rfl
theorem q2 : (Rows.solverHitsRow.unfollowed == Tryz.prog.unfollowed 4) = true := by kernel_rfl
theorem q3 : (Rows.solverHitsRow.recurses == Tryz.prog.recurses 4) = true := by kernel_rfl
theorem q4 : (Rows.solverHitsRow.named == Tryz.prog.varsNamed 4) = true := by kernel_rfl
theorem calls : callFacts Tryz.prog 4 Rows.solverHitsRow = true := by unfold callFacts; rw [q1, q2, q3, q4]; rfl
theorem ownF : ownFacts Tryz.prog Tryz.f4 Rows.solverHitsSpec Rows.solverHitsRow = true := by kernel_rfl
theorem closed : joinedFacts Tryz.prog 4 Tryz.f4 Rows.solverHitsSpec Rows.solverHitsRow = true := joined_of Facts.laid Facts.rowed Facts.stops Facts.knobs Facts.plain Facts.heard Facts.may Facts.final Facts.make calls ownF
theorem over : Rows.solverHitsRow.holds Tryz.pinned (OpenSpec.ofChange Rows.solverHitsSpec) :=
  OpenClaim.holds_of_wide 4 Tryz.f4 rfl rfl rfl rfl rfl rfl rfl ⟨rfl, rfl, rfl, rfl, rfl⟩ rfl rfl rfl rfl rfl (by kernel_rfl) Tryz.func4 closed
    (of_decide_eq_true (by kernel_rfl)) (by unfold Func.isWrapper; first | (rw [if_pos (by decide +kernel)]; kernel_rfl) | (rw [if_neg (by decide +kernel)]; exact ⟨rfl, rfl⟩))
    (fun os started H enc _ => lifted os started H enc)
theorem proved : Rows.SolverHitsSaid := over
#print axioms proved
end Go.Proofs.YtldnfpgemlgbmaaGreat.solverHits
namespace Go.Proofs.YtldnfpgemlgbmaaGreat
/-- The row, under a short name, for the claim. -/
theorem solverHits_holds : Rows.SolverHitsSaid := solverHits.proved
end Go.Proofs.YtldnfpgemlgbmaaGreat
end
