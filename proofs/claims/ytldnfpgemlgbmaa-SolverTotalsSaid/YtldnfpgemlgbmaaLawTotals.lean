/- What is proved in the end: SolverTotals returns true whatever the input, and its input reads as it did; no condition.
This text: LawTotals. -/
import Derived.Test.YtldnfpgemlgbmaaRows
import Derived.WalkKit
import Derived.ProofKit
import Derived.OpenShut
import Derived.ShutString
import Derived.ChangeOld
import Derived.Below
import Derived.SizedLaws
import Derived.Carry
import Derived.Test.YtldnfpgemlgbmaaM6

section
/- The row of SolverTotals: its walk is the contract of C30, its arguments are read as rows. -/
namespace Go.Proofs.Ytldnfpgemlgbmaa.solverTotals
open Go.ChangeShapes Go.WideShapes Go.ChangeAt Go.RowKit Go.Flat
set_option linter.unusedVariables false
theorem own : ownKnob Try.prog.godebug = none := by kernel_rfl
theorem laidOut : laidOutB Try.prog = true := by kernel_rfl

theorem Rd.map {α β : Type} {P : Program} {t : TypeId} {r : Row α} {s : Row β} (hn : s.n = r.n) (f : α → β) (hf : ∀ x, s.cells (f x) = r.cells x) (h : Rd P t r) : Rd P t s :=
  ⟨h.1.trans hn.symm, fun H enc W spare held fuel cs d ps hx => by
    obtain ⟨x, hx⟩ := h.2 H enc W spare held fuel cs d ps hx
    exact ⟨f x, by rw [hf]; exact hx⟩⟩

theorem rd_i (h : Try.prog.cellsOf 2 = 1) : Rd Try.prog 2 (rInt .i64) := rd_int Try.underlying2 h
theorem rd2 : Rd Try.prog 2 (rInt .i64) := rd_i (by kernel_rfl)
theorem rd3 : Rd Try.prog 3 (rInt .i64) := rd_int Try.underlying3 (by kernel_rfl)
theorem rd4 : Rd Try.prog 4 rBool := rd_bool Try.underlying4 (by kernel_rfl)
theorem rd46 : Rd Try.prog 46 rSpot := rd_struct Try.underlying46 (by kernel_rfl) (.cons rfl rd2 (.one rfl rd2))
theorem rd27 : Rd Try.prog 27 rNum := Rd.map rfl (fun n : Num => n) (fun _ => rfl) (rd_struct (r := (rInt .i64).prod rBool) (f := fun p => (⟨p.1, p.2⟩ : Num)) (g := fun n => (n.V, n.F)) (hg := fun _ => rfl) Try.underlying27 (by kernel_rfl) (.cons rfl rd2 (.one rfl rd4)))
theorem rd29 : Rd Try.prog 29 rVec := Rd.map rfl (fun n : Vec => n) (fun _ => rfl) (rd_struct (r := rNum.prod rNum) (f := fun p => (⟨p.1, p.2⟩ : Vec)) (g := fun n => (n.X, n.Y)) (hg := fun _ => rfl) Try.underlying29 (by kernel_rfl) (.cons rfl rd27 (.one rfl rd27)))
theorem rd31 : Rd Try.prog 31 rRot := rd_struct Try.underlying31 (by kernel_rfl) (.cons rfl rd27 (.one rfl rd27))
theorem rd33 : Rd Try.prog 33 rPose := rd_struct Try.underlying33 (by kernel_rfl) (.cons rfl rd29 (.one rfl rd31))
theorem rd35 : Rd Try.prog 35 rWeight := rd_struct Try.underlying35 (by kernel_rfl) (.cons rfl rd27 (.one rfl rd27))
theorem fl46 : RFlat rSpot := fun _ => ⟨rfl, rfl⟩
theorem rd23 : Rd Try.prog 23 (rSl rSpot) := rd_slice Try.underlying23 (by kernel_rfl) rd46 fl46 (by decide)
theorem rd25 : Rd Try.prog 25 rShape := rd_struct Try.underlying25 (by kernel_rfl) (.cons rfl rd3 (.cons rfl rd2 (.cons rfl rd2 (.cons rfl rd2 (.one rfl rd23)))))
theorem rd37 : Rd Try.prog 37 rBody := rd_struct Try.underlying37 (by kernel_rfl) (.cons rfl rd25 (.cons rfl rd33 (.cons rfl rd29 (.cons rfl rd27 (.cons rfl rd35 (.cons rfl rd3 (.cons rfl rd4 (.cons rfl rd4 (.one rfl rd2)))))))))
theorem fl37 : RFlat rBody := fun _ => ⟨rfl, rfl⟩

def zeroBody : Value := .agg #[.int .i64 0, .int .i64 0, .int .i64 0, .int .i64 0, .slice none 0 0,
  .int .i64 0, .bool false, .int .i64 0, .bool false, .int .i64 0, .bool false, .int .i64 0, .bool false,
  .int .i64 0, .bool false, .int .i64 0, .bool false, .int .i64 0, .bool false,
  .int .i64 0, .bool false, .int .i64 0, .bool false, .int .i64 0, .bool false, .bool false, .int .i64 0]

set_option maxRecDepth 100000 in
theorem lifted (os : Os) (started : os.Started) (H : Type) (enc : TypeId × Value → H) :
    ReturnsInHanded {} Try.checked os 3 .any (Rows.solverTotalsSpec.pre6 enc Try.prog Try.f3 Rows.solverTotalsRow.domain false) (Rows.solverTotalsSpec.post enc Try.prog Try.f3 false true false false) := by
  refine returnsInHanded_of_change_sized (C := Try.checked) own started (by kernel_rfl) Try.func3
    (ChangeSpec.witness6 (enc := enc) (C := Try.checked) false ⟨#[], #[.slice none 0 0, zeroBody, zeroBody], []⟩ 8 (by kernel_rfl) (by kernel_rfl) (by kernel_rfl) (by kernel_rfl)) ?_
  intro W base args ds gs before hval0 hW hcnd hsz0 _
  have hval : ∀ (j : Nat) t v, Try.f3.params[j]? = some t → args[j]? = some v → Value.okWide Try.prog W .any base t v := hval0
  have hW' := hW
  obtain ⟨p, q, hA0, hV, rfl, hfz, hnd⟩ := hW
  have hA : DataW.TrodAll enc Try.prog W 0 (fun _ => true) true Try.f3.params.toList args.toList ds p := hA0
  rw [Try.params3] at hA hval
  obtain ⟨v0, vs0, d0, ds0, p0, q0, hargs, rfl, rfl, h0, r0⟩ := trodAll_cons hA
  obtain ⟨v1, vs1, d1, ds1, p1, q1, rfl, rfl, rfl, h1, r1⟩ := trodAll_cons r0
  obtain ⟨v2, vs2, d2, ds2, p2, q2, rfl, rfl, rfl, h2, r2⟩ := trodAll_cons r1
  obtain ⟨rfl, rfl, rfl⟩ := trodAll_nil r2
  obtain rfl : args = #[v0, v1, v2] := by cases args; simp_all
  obtain ⟨rfl, rfl⟩ := trodVars_none hV
  obtain ⟨a0, n0, m0, rfl⟩ := okWide_slice Try.underlying22 (hval 0 22 v0 rfl rfl)
  obtain ⟨c1, rfl, _⟩ := okWide_struct Try.underlying37 (hval 1 37 v1 rfl rfl)
  obtain ⟨c2, rfl, _⟩ := okWide_struct Try.underlying37 (hval 2 37 v2 rfl rfl)
  obtain ⟨l, k0⟩ : ∃ l : Sl Body, VR (Rall W) ρ0 W (rBody.encS l) (.slice a0 n0 m0) := by
    obtain ⟨fuel, hf⟩ := h0
    obtain ⟨s, v, hv, hs⟩ := sl_of_trod Try.underlying22 rd37 fl37 (by decide) hf
    have hv : [Value.slice a0 n0 m0] = [v] := hv
    injection hv with hv
    subst hv
    exact ⟨s, hs⟩
  obtain ⟨a, k1⟩ := agg_of_trod rd37 fl37 h1
  obtain ⟨b, k2⟩ := agg_of_trod rd37 fl37 h2
  clear hA0 hval0 hsz0
  refine (walk_of (by kernel_rfl) (c_law l a b) W #[.slice a0 n0 m0, .agg c1, .agg c2] rfl (fun i x hx => ?_)).mono fun e W' h => ?_
  · rcases i with _ | _ | _ | i
    · injection hx with hx; subst hx; exact k0
    · injection hx with hx; subst hx; exact k1
    · injection hx with hx; subst hx; exact k2
    · cases hx
  · obtain ⟨v, rfl, hk, hs, R, hv⟩ := h
    cases hv
    exact ⟨_, rfl, _, _, _, [], _, [], hW', trodAll_mk1 (shut_bool Try.underlying4 _),
      (trodAll_cons_mk (trod_kept laidOut (by kernel_rfl) (of_decide_eq_true (by kernel_rfl)) h0 hk)
      (trodAll_cons_mk (trod_kept laidOut (by kernel_rfl) (of_decide_eq_true (by kernel_rfl)) h1 hk)
      (trodAll_cons_mk (trod_kept laidOut (by kernel_rfl) (of_decide_eq_true (by kernel_rfl)) h2 hk) trodAll_mk0))), rfl, kept_frame hk hs _, fun h => by cases h⟩
theorem over : Rows.solverTotalsRow.holds Try.pinned (OpenSpec.ofChange Rows.solverTotalsSpec) :=
  OpenClaim.holds_of_wide 3 Try.f3 rfl rfl rfl rfl rfl rfl rfl ⟨rfl, rfl, rfl, rfl, rfl⟩ rfl rfl rfl rfl rfl (by kernel_rfl) Try.func3 (by kernel_rfl)
    (of_decide_eq_true (by kernel_rfl)) (by unfold Func.isWrapper; first | (rw [if_pos (by decide +kernel)]; kernel_rfl) | (rw [if_neg (by decide +kernel)]; exact ⟨rfl, rfl⟩))
    (fun os started H enc _ => lifted os started H enc)
theorem proved : Rows.SolverTotalsSaid := over
#print axioms proved
end Go.Proofs.Ytldnfpgemlgbmaa.solverTotals
namespace Go.Proofs.Ytldnfpgemlgbmaa
/-- The row, under a short name, for the claim. -/
theorem solverTotals_holds : Rows.SolverTotalsSaid := solverTotals.proved
end Go.Proofs.Ytldnfpgemlgbmaa
end
