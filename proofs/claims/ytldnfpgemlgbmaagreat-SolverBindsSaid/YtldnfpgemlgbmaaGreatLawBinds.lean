/- What is proved in the end: SolverBinds returns true whatever the input, and its input reads as it did; no condition.
This text: LawBinds. -/
import Derived.Test.YtldnfpgemlgbmaaGreatRows
import Derived.WalkKit
import Derived.ProofKit
import Derived.OpenShut
import Derived.ShutString
import Derived.ChangeOld
import Derived.Below
import Derived.SizedLaws
import Derived.Carry
import Derived.Test.YtldnfpgemlgbmaaGreatM15

section
/- The row of SolverBinds: its walk is the law's contract, its arguments are read as rows. -/
namespace Go.Proofs.YtldnfpgemlgbmaaGreat.solverBinds
open Go.ChangeShapes Go.WideShapes Go.ChangeAt Go.RowKit Go.Flat Go.Proofs.YtldnfpgemlgbmaaGreat.Rds
set_option linter.unusedVariables false
set_option maxRecDepth 100000 in
theorem lifted (os : Os) (started : os.Started) (H : Type) (enc : TypeId × Value → H) :
    ReturnsInHanded {} Tryz.checked os 9 .any (Rows.solverBindsSpec.pre6 enc Tryz.prog Tryz.f9 Rows.solverBindsRow.domain false) (Rows.solverBindsSpec.post enc Tryz.prog Tryz.f9 false true false false) := by
  refine returnsInHanded_of_change_sized (C := Tryz.checked) own started (by kernel_rfl) Tryz.func9
    (ChangeSpec.witness6 (enc := enc) (C := Tryz.checked) false ⟨#[], #[.slice none 0 0, zeroJoint, .int .i64 0, zeroNum], []⟩ 8 (by kernel_rfl) (by kernel_rfl) (by kernel_rfl) (by kernel_rfl)) ?_
  intro W base args ds gs before hval0 hW hcnd hsz0 _
  have hval : ∀ (j : Nat) t v, Tryz.f9.params[j]? = some t → args[j]? = some v → Value.okWide Tryz.prog W .any base t v := hval0
  have hW' := hW
  obtain ⟨p, q, hA0, hV, rfl, hfz, hnd⟩ := hW
  have hA : DataW.TrodAll enc Tryz.prog W 0 (fun _ => true) true Tryz.f9.params.toList args.toList ds p := hA0
  rw [Tryz.params9] at hA hval
  obtain ⟨v0, vs0, d0, ds0, p0, q0, hargs, rfl, rfl, h0, r0⟩ := trodAll_cons hA
  obtain ⟨v1, vs1, d1, ds1, p1, q1, rfl, rfl, rfl, h1, r1⟩ := trodAll_cons r0
  obtain ⟨v2, vs2, d2, ds2, p2, q2, rfl, rfl, rfl, h2, r2⟩ := trodAll_cons r1
  obtain ⟨v3, vs3, d3, ds3, p3, q3, rfl, rfl, rfl, h3, r3⟩ := trodAll_cons r2
  obtain ⟨rfl, rfl, rfl⟩ := trodAll_nil r3
  obtain rfl : args = #[v0, v1, v2, v3] := by cases args; simp_all
  obtain ⟨rfl, rfl⟩ := trodVars_none hV
  obtain ⟨a0, n0, m0, rfl⟩ := okWide_slice Tryz.underlying22 (hval 0 22 v0 rfl rfl)
  obtain ⟨c1, rfl, _⟩ := okWide_struct Tryz.underlying83 (hval 1 83 v1 rfl rfl)
  obtain ⟨z2, rfl⟩ := okWide_int Tryz.underlying3 (hval 2 3 v2 rfl rfl)
  obtain ⟨c3, rfl, _⟩ := okWide_struct Tryz.underlying24 (hval 3 24 v3 rfl rfl)
  obtain ⟨x0, k0⟩ := slice_of_trod Tryz.underlying22 rd57 fl57 (by decide) h0
  obtain ⟨x1, k1⟩ := agg_of_trod rd83 fl83 h1
  obtain ⟨x2, hx2, k2⟩ := int_of_trod Tryz.underlying3 h2 ⟨z2, rfl⟩
  obtain ⟨x3, k3⟩ := agg_of_trod rd24 fl24 h3
  clear hA0 hval0 hsz0
  refine (walk_of (by kernel_rfl) (law_Binds x0 x1 x2 x3) W #[.slice a0 n0 m0, .agg c1, .int .i64 z2, .agg c3] rfl (fun i x hx => ?_)).mono fun e W' h => ?_
  · rcases i with _ | _ | _ | _ | i
    · injection hx with hx; subst hx; exact k0
    · injection hx with hx; subst hx; exact k1
    · injection hx with hx; subst hx; exact k2
    · injection hx with hx; subst hx; exact k3
    · cases hx
  · obtain ⟨v, rfl, hk, hs, R, hv⟩ := h
    cases hv
    exact ⟨_, rfl, _, _, _, [], _, [], hW', trodAll_mk1 (shut_bool Tryz.underlying4 _),
      (trodAll_cons_mk (trod_kept laidOut (by kernel_rfl) (of_decide_eq_true (by kernel_rfl)) h0 hk)
      (trodAll_cons_mk (trod_kept laidOut (by kernel_rfl) (of_decide_eq_true (by kernel_rfl)) h1 hk)
      (trodAll_cons_mk (trod_kept laidOut (by kernel_rfl) (of_decide_eq_true (by kernel_rfl)) h2 hk)
      (trodAll_cons_mk (trod_kept laidOut (by kernel_rfl) (of_decide_eq_true (by kernel_rfl)) h3 hk)
      trodAll_mk0)))), rfl, kept_frame hk hs _, fun h => by cases h⟩
theorem q1 : (Rows.solverBindsRow.inPlace == Tryz.prog.inPlace 9) = true := by kernel_rfl
theorem q2 : (Rows.solverBindsRow.unfollowed == Tryz.prog.unfollowed 9) = true := by kernel_rfl
theorem q3 : (Rows.solverBindsRow.recurses == Tryz.prog.recurses 9) = true := by kernel_rfl
theorem q4 : (Rows.solverBindsRow.named == Tryz.prog.varsNamed 9) = true := by kernel_rfl
theorem calls : callFacts Tryz.prog 9 Rows.solverBindsRow = true := by unfold callFacts; rw [q1, q2, q3, q4]; rfl
theorem ownF : ownFacts Tryz.prog Tryz.f9 Rows.solverBindsSpec Rows.solverBindsRow = true := by kernel_rfl
theorem closed : joinedFacts Tryz.prog 9 Tryz.f9 Rows.solverBindsSpec Rows.solverBindsRow = true := joined_of Facts.laid Facts.rowed Facts.stops Facts.knobs Facts.plain Facts.heard Facts.may Facts.final Facts.make calls ownF
theorem over : Rows.solverBindsRow.holds Tryz.pinned (OpenSpec.ofChange Rows.solverBindsSpec) :=
  OpenClaim.holds_of_wide 9 Tryz.f9 rfl rfl rfl rfl rfl rfl rfl ⟨rfl, rfl, rfl, rfl, rfl⟩ rfl rfl rfl rfl rfl (by kernel_rfl) Tryz.func9 closed
    (of_decide_eq_true (by kernel_rfl)) (by unfold Func.isWrapper; first | (rw [if_pos (by decide +kernel)]; kernel_rfl) | (rw [if_neg (by decide +kernel)]; exact ⟨rfl, rfl⟩))
    (fun os started H enc _ => lifted os started H enc)
theorem proved : Rows.SolverBindsSaid := over
#print axioms proved
end Go.Proofs.YtldnfpgemlgbmaaGreat.solverBinds
namespace Go.Proofs.YtldnfpgemlgbmaaGreat
/-- The row, under a short name, for the claim. -/
theorem solverBinds_holds : Rows.SolverBindsSaid := solverBinds.proved
end Go.Proofs.YtldnfpgemlgbmaaGreat
end
