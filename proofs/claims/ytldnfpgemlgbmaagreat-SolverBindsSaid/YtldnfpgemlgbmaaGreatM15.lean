/- What is proved in the end: SolverBinds returns true whatever the input, and its input reads as it did; no condition.
This text: Facts, Join. -/
import Derived.Test.YtldnfpgemlgbmaaGreatRows
import Derived.JoinedOf
import Derived.KernelRfl
import Derived.Test.YtldnfpgemlgbmaaGreatM14

section
/- Closed facts on the whole program, cut into declarations: the head's words; what a row's builder asks. -/
set_option linter.unusedVariables false
set_option linter.unusedSimpArgs false
namespace Go.Proofs.YtldnfpgemlgbmaaGreat.Facts
open Go
theorem words_app : ∀ (a r : List Char), (∀ c ∈ a, c ≠ Char.ofNat 32) → wordsSigns (a ++ Char.ofNat 32 :: r) = a :: wordsSigns r
  | [], r, _ => rfl
  | c :: a, r, h => by
    have hc : c ≠ Char.ofNat 32 := h c List.mem_cons_self
    have ih := words_app a r (fun d hd => h d (List.mem_cons_of_mem _ hd))
    rw [List.cons_append, wordsSigns.eq_3 _ _ (fun e => hc e), ih]
def w1 : List Char := [Char.ofNat 104, Char.ofNat 97, Char.ofNat 114, Char.ofNat 110, Char.ofNat 101, Char.ofNat 115, Char.ofNat 115]
def w2 : List Char := [Char.ofNat 99, Char.ofNat 97, Char.ofNat 101, Char.ofNat 97, Char.ofNat 56, Char.ofNat 52, Char.ofNat 99, Char.ofNat 51, Char.ofNat 98, Char.ofNat 50, Char.ofNat 53, Char.ofNat 100, Char.ofNat 56, Char.ofNat 55, Char.ofNat 97, Char.ofNat 100, Char.ofNat 52, Char.ofNat 52, Char.ofNat 52, Char.ofNat 56, Char.ofNat 52, Char.ofNat 48, Char.ofNat 52, Char.ofNat 99, Char.ofNat 53, Char.ofNat 48, Char.ofNat 97, Char.ofNat 55, Char.ofNat 54, Char.ofNat 99, Char.ofNat 54, Char.ofNat 101, Char.ofNat 57, Char.ofNat 57, Char.ofNat 57, Char.ofNat 51, Char.ofNat 48, Char.ofNat 54, Char.ofNat 57, Char.ofNat 54, Char.ofNat 51, Char.ofNat 55, Char.ofNat 54, Char.ofNat 100, Char.ofNat 54, Char.ofNat 102, Char.ofNat 53, Char.ofNat 49, Char.ofNat 53, Char.ofNat 48, Char.ofNat 50, Char.ofNat 56, Char.ofNat 49, Char.ofNat 51, Char.ofNat 99, Char.ofNat 50, Char.ofNat 99, Char.ofNat 50, Char.ofNat 99, Char.ofNat 52, Char.ofNat 98, Char.ofNat 100, Char.ofNat 56, Char.ofNat 53]
def w3 : List Char := [Char.ofNat 99, Char.ofNat 117, Char.ofNat 116]
def rest : List Char := [Char.ofNat 97, Char.ofNat 116, Char.ofNat 32, Char.ofNat 98, Char.ofNat 97, Char.ofNat 103, Char.ofNat 97, Char.ofNat 116, Char.ofNat 101, Char.ofNat 108, Char.ofNat 108, Char.ofNat 101, Char.ofNat 47, Char.ofNat 98, Char.ofNat 97, Char.ofNat 103, Char.ofNat 97, Char.ofNat 116, Char.ofNat 101, Char.ofNat 108, Char.ofNat 108, Char.ofNat 101, Char.ofNat 108, Char.ofNat 97, Char.ofNat 119, Char.ofNat 48, Char.ofNat 53, Char.ofNat 46, Char.ofNat 83, Char.ofNat 111, Char.ofNat 108, Char.ofNat 118, Char.ofNat 101, Char.ofNat 114, Char.ofNat 80, Char.ofNat 97, Char.ofNat 114, Char.ofNat 116, Char.ofNat 115, Char.ofNat 32, Char.ofNat 98, Char.ofNat 97, Char.ofNat 103, Char.ofNat 97, Char.ofNat 116, Char.ofNat 101, Char.ofNat 108, Char.ofNat 108, Char.ofNat 101, Char.ofNat 47, Char.ofNat 98, Char.ofNat 97, Char.ofNat 103, Char.ofNat 97, Char.ofNat 116, Char.ofNat 101, Char.ofNat 108, Char.ofNat 108, Char.ofNat 101, Char.ofNat 108, Char.ofNat 97, Char.ofNat 119, Char.ofNat 48, Char.ofNat 53, Char.ofNat 46, Char.ofNat 83, Char.ofNat 111, Char.ofNat 108, Char.ofNat 118, Char.ofNat 101, Char.ofNat 114, Char.ofNat 72, Char.ofNat 105, Char.ofNat 116, Char.ofNat 115, Char.ofNat 32, Char.ofNat 98, Char.ofNat 97, Char.ofNat 103, Char.ofNat 97, Char.ofNat 116, Char.ofNat 101, Char.ofNat 108, Char.ofNat 108, Char.ofNat 101, Char.ofNat 47, Char.ofNat 98, Char.ofNat 97, Char.ofNat 103, Char.ofNat 97, Char.ofNat 116, Char.ofNat 101, Char.ofNat 108, Char.ofNat 108, Char.ofNat 101, Char.ofNat 108, Char.ofNat 97, Char.ofNat 119, Char.ofNat 48, Char.ofNat 53, Char.ofNat 46, Char.ofNat 83, Char.ofNat 111, Char.ofNat 108, Char.ofNat 118, Char.ofNat 101, Char.ofNat 114, Char.ofNat 67, Char.ofNat 111, Char.ofNat 110, Char.ofNat 101, Char.ofNat 32, Char.ofNat 98, Char.ofNat 97, Char.ofNat 103, Char.ofNat 97, Char.ofNat 116, Char.ofNat 101, Char.ofNat 108, Char.ofNat 108, Char.ofNat 101, Char.ofNat 47, Char.ofNat 98, Char.ofNat 97, Char.ofNat 103, Char.ofNat 97, Char.ofNat 116, Char.ofNat 101, Char.ofNat 108, Char.ofNat 108, Char.ofNat 101, Char.ofNat 108, Char.ofNat 97, Char.ofNat 119, Char.ofNat 48, Char.ofNat 53, Char.ofNat 46, Char.ofNat 83, Char.ofNat 111, Char.ofNat 108, Char.ofNat 118, Char.ofNat 101, Char.ofNat 114, Char.ofNat 76, Char.ofNat 101, Char.ofNat 97, Char.ofNat 118, Char.ofNat 101, Char.ofNat 115, Char.ofNat 32, Char.ofNat 98, Char.ofNat 97, Char.ofNat 103, Char.ofNat 97, Char.ofNat 116, Char.ofNat 101, Char.ofNat 108, Char.ofNat 108, Char.ofNat 101, Char.ofNat 47, Char.ofNat 98, Char.ofNat 97, Char.ofNat 103, Char.ofNat 97, Char.ofNat 116, Char.ofNat 101, Char.ofNat 108, Char.ofNat 108, Char.ofNat 101, Char.ofNat 108, Char.ofNat 97, Char.ofNat 119, Char.ofNat 48, Char.ofNat 53, Char.ofNat 46, Char.ofNat 83, Char.ofNat 111, Char.ofNat 108, Char.ofNat 118, Char.ofNat 101, Char.ofNat 114, Char.ofNat 77, Char.ofNat 111, Char.ofNat 118, Char.ofNat 101, Char.ofNat 115, Char.ofNat 32, Char.ofNat 98, Char.ofNat 97, Char.ofNat 103, Char.ofNat 97, Char.ofNat 116, Char.ofNat 101, Char.ofNat 108, Char.ofNat 108, Char.ofNat 101, Char.ofNat 47, Char.ofNat 98, Char.ofNat 97, Char.ofNat 103, Char.ofNat 97, Char.ofNat 116, Char.ofNat 101, Char.ofNat 108, Char.ofNat 108, Char.ofNat 101, Char.ofNat 108, Char.ofNat 97, Char.ofNat 119, Char.ofNat 48, Char.ofNat 53, Char.ofNat 46, Char.ofNat 83, Char.ofNat 111, Char.ofNat 108, Char.ofNat 118, Char.ofNat 101, Char.ofNat 114, Char.ofNat 83, Char.ofNat 108, Char.ofNat 101, Char.ofNat 101, Char.ofNat 112, Char.ofNat 115, Char.ofNat 32, Char.ofNat 98, Char.ofNat 97, Char.ofNat 103, Char.ofNat 97, Char.ofNat 116, Char.ofNat 101, Char.ofNat 108, Char.ofNat 108, Char.ofNat 101, Char.ofNat 47, Char.ofNat 98, Char.ofNat 97, Char.ofNat 103, Char.ofNat 97, Char.ofNat 116, Char.ofNat 101, Char.ofNat 108, Char.ofNat 108, Char.ofNat 101, Char.ofNat 108, Char.ofNat 97, Char.ofNat 119, Char.ofNat 48, Char.ofNat 53, Char.ofNat 46, Char.ofNat 83, Char.ofNat 111, Char.ofNat 108, Char.ofNat 118, Char.ofNat 101, Char.ofNat 114, Char.ofNat 66, Char.ofNat 105, Char.ofNat 110, Char.ofNat 100, Char.ofNat 115, Char.ofNat 32, Char.ofNat 98, Char.ofNat 97, Char.ofNat 103, Char.ofNat 97, Char.ofNat 116, Char.ofNat 101, Char.ofNat 108, Char.ofNat 108, Char.ofNat 101, Char.ofNat 47, Char.ofNat 98, Char.ofNat 97, Char.ofNat 103, Char.ofNat 97, Char.ofNat 116, Char.ofNat 101, Char.ofNat 108, Char.ofNat 108, Char.ofNat 101, Char.ofNat 108, Char.ofNat 97, Char.ofNat 119, Char.ofNat 48, Char.ofNat 53, Char.ofNat 46, Char.ofNat 83, Char.ofNat 111, Char.ofNat 108, Char.ofNat 118, Char.ofNat 101, Char.ofNat 114, Char.ofNat 66, Char.ofNat 97, Char.ofNat 108, Char.ofNat 97, Char.ofNat 110, Char.ofNat 99, Char.ofNat 101, Char.ofNat 32, Char.ofNat 98, Char.ofNat 97, Char.ofNat 103, Char.ofNat 97, Char.ofNat 116, Char.ofNat 101, Char.ofNat 108, Char.ofNat 108, Char.ofNat 101, Char.ofNat 47, Char.ofNat 98, Char.ofNat 97, Char.ofNat 103, Char.ofNat 97, Char.ofNat 116, Char.ofNat 101, Char.ofNat 108, Char.ofNat 108, Char.ofNat 101, Char.ofNat 108, Char.ofNat 97, Char.ofNat 119, Char.ofNat 48, Char.ofNat 53, Char.ofNat 46, Char.ofNat 83, Char.ofNat 111, Char.ofNat 108, Char.ofNat 118, Char.ofNat 101, Char.ofNat 114, Char.ofNat 83, Char.ofNat 111, Char.ofNat 108, Char.ofNat 118, Char.ofNat 101, Char.ofNat 115, Char.ofNat 32, Char.ofNat 98, Char.ofNat 97, Char.ofNat 103, Char.ofNat 97, Char.ofNat 116, Char.ofNat 101, Char.ofNat 108, Char.ofNat 108, Char.ofNat 101, Char.ofNat 47, Char.ofNat 98, Char.ofNat 97, Char.ofNat 103, Char.ofNat 97, Char.ofNat 116, Char.ofNat 101, Char.ofNat 108, Char.ofNat 108, Char.ofNat 101, Char.ofNat 108, Char.ofNat 97, Char.ofNat 119, Char.ofNat 48, Char.ofNat 53, Char.ofNat 46, Char.ofNat 83, Char.ofNat 111, Char.ofNat 108, Char.ofNat 118, Char.ofNat 101, Char.ofNat 114, Char.ofNat 78, Char.ofNat 111, Char.ofNat 116, Char.ofNat 104, Char.ofNat 105, Char.ofNat 110, Char.ofNat 103, Char.ofNat 32, Char.ofNat 98, Char.ofNat 97, Char.ofNat 103, Char.ofNat 97, Char.ofNat 116, Char.ofNat 101, Char.ofNat 108, Char.ofNat 108, Char.ofNat 101, Char.ofNat 47, Char.ofNat 98, Char.ofNat 97, Char.ofNat 103, Char.ofNat 97, Char.ofNat 116, Char.ofNat 101, Char.ofNat 108, Char.ofNat 108, Char.ofNat 101, Char.ofNat 108, Char.ofNat 97, Char.ofNat 119, Char.ofNat 48, Char.ofNat 53, Char.ofNat 46, Char.ofNat 83, Char.ofNat 111, Char.ofNat 108, Char.ofNat 118, Char.ofNat 101, Char.ofNat 114, Char.ofNat 70, Char.ofNat 111, Char.ofNat 114, Char.ofNat 109, Char.ofNat 115, Char.ofNat 32, Char.ofNat 98, Char.ofNat 97, Char.ofNat 103, Char.ofNat 97, Char.ofNat 116, Char.ofNat 101, Char.ofNat 108, Char.ofNat 108, Char.ofNat 101, Char.ofNat 47, Char.ofNat 98, Char.ofNat 97, Char.ofNat 103, Char.ofNat 97, Char.ofNat 116, Char.ofNat 101, Char.ofNat 108, Char.ofNat 108, Char.ofNat 101, Char.ofNat 108, Char.ofNat 97, Char.ofNat 119, Char.ofNat 48, Char.ofNat 53, Char.ofNat 46, Char.ofNat 83, Char.ofNat 111, Char.ofNat 108, Char.ofNat 118, Char.ofNat 101, Char.ofNat 114, Char.ofNat 83, Char.ofNat 116, Char.ofNat 105, Char.ofNat 108, Char.ofNat 108, Char.ofNat 32, Char.ofNat 98, Char.ofNat 97, Char.ofNat 103, Char.ofNat 97, Char.ofNat 116, Char.ofNat 101, Char.ofNat 108, Char.ofNat 108, Char.ofNat 101, Char.ofNat 47, Char.ofNat 98, Char.ofNat 97, Char.ofNat 103, Char.ofNat 97, Char.ofNat 116, Char.ofNat 101, Char.ofNat 108, Char.ofNat 108, Char.ofNat 101, Char.ofNat 108, Char.ofNat 97, Char.ofNat 119, Char.ofNat 48, Char.ofNat 53, Char.ofNat 46, Char.ofNat 83, Char.ofNat 111, Char.ofNat 108, Char.ofNat 118, Char.ofNat 101, Char.ofNat 114, Char.ofNat 86, Char.ofNat 97, Char.ofNat 108, Char.ofNat 105, Char.ofNat 100, Char.ofNat 32, Char.ofNat 98, Char.ofNat 97, Char.ofNat 103, Char.ofNat 97, Char.ofNat 116, Char.ofNat 101, Char.ofNat 108, Char.ofNat 108, Char.ofNat 101, Char.ofNat 47, Char.ofNat 98, Char.ofNat 97, Char.ofNat 103, Char.ofNat 97, Char.ofNat 116, Char.ofNat 101, Char.ofNat 108, Char.ofNat 108, Char.ofNat 101, Char.ofNat 108, Char.ofNat 97, Char.ofNat 119, Char.ofNat 48, Char.ofNat 53, Char.ofNat 46, Char.ofNat 83, Char.ofNat 111, Char.ofNat 108, Char.ofNat 118, Char.ofNat 101, Char.ofNat 114, Char.ofNat 84, Char.ofNat 111, Char.ofNat 117, Char.ofNat 99, Char.ofNat 104, Char.ofNat 105, Char.ofNat 110, Char.ofNat 103, Char.ofNat 32, Char.ofNat 98, Char.ofNat 97, Char.ofNat 103, Char.ofNat 97, Char.ofNat 116, Char.ofNat 101, Char.ofNat 108, Char.ofNat 108, Char.ofNat 101, Char.ofNat 47, Char.ofNat 98, Char.ofNat 97, Char.ofNat 103, Char.ofNat 97, Char.ofNat 116, Char.ofNat 101, Char.ofNat 108, Char.ofNat 108, Char.ofNat 101, Char.ofNat 108, Char.ofNat 97, Char.ofNat 119, Char.ofNat 48, Char.ofNat 53, Char.ofNat 46, Char.ofNat 83, Char.ofNat 111, Char.ofNat 108, Char.ofNat 118, Char.ofNat 101, Char.ofNat 114, Char.ofNat 75, Char.ofNat 110, Char.ofNat 111, Char.ofNat 119, Char.ofNat 110]
theorem head : Tryz.prog.initOrder = "harness caea84c3b25d87ad4448404c50a76c6e99930696376d6f51502813c2c2c4bd85 cut at bagatelle/bagatellelaw05.SolverParts bagatelle/bagatellelaw05.SolverHits bagatelle/bagatellelaw05.SolverCone bagatelle/bagatellelaw05.SolverLeaves bagatelle/bagatellelaw05.SolverMoves bagatelle/bagatellelaw05.SolverSleeps bagatelle/bagatellelaw05.SolverBinds bagatelle/bagatellelaw05.SolverBalance bagatelle/bagatellelaw05.SolverSolves bagatelle/bagatellelaw05.SolverNothing bagatelle/bagatellelaw05.SolverForms bagatelle/bagatellelaw05.SolverStill bagatelle/bagatellelaw05.SolverValid bagatelle/bagatellelaw05.SolverTouching bagatelle/bagatellelaw05.SolverKnown" := by kernel_rfl
theorem lit : ("harness caea84c3b25d87ad4448404c50a76c6e99930696376d6f51502813c2c2c4bd85 cut at bagatelle/bagatellelaw05.SolverParts bagatelle/bagatellelaw05.SolverHits bagatelle/bagatellelaw05.SolverCone bagatelle/bagatellelaw05.SolverLeaves bagatelle/bagatellelaw05.SolverMoves bagatelle/bagatellelaw05.SolverSleeps bagatelle/bagatellelaw05.SolverBinds bagatelle/bagatellelaw05.SolverBalance bagatelle/bagatellelaw05.SolverSolves bagatelle/bagatellelaw05.SolverNothing bagatelle/bagatellelaw05.SolverForms bagatelle/bagatellelaw05.SolverStill bagatelle/bagatellelaw05.SolverValid bagatelle/bagatellelaw05.SolverTouching bagatelle/bagatellelaw05.SolverKnown" : String) = String.ofList (w1 ++ Char.ofNat 32 :: (w2 ++ Char.ofNat 32 :: (w3 ++ Char.ofNat 32 :: rest))) := by kernel_rfl
theorem toL : Tryz.prog.initOrder.toList = w1 ++ Char.ofNat 32 :: (w2 ++ Char.ofNat 32 :: (w3 ++ Char.ofNat 32 :: rest)) := by rw [head, lit, String.toList_ofList]
theorem noSp {l : List Char} (h : l.all (fun c => c != Char.ofNat 32) = true) : ∀ c ∈ l, c ≠ Char.ofNat 32 := fun c hc => by
  have := List.all_eq_true.1 h c hc
  simpa using this
theorem words : wordsSigns Tryz.prog.initOrder.toList = w1 :: w2 :: w3 :: wordsSigns rest := by
  rw [toL, words_app _ _ (noSp (by decide)), words_app _ _ (noSp (by decide)), words_app _ _ (noSp (by decide))]
theorem behind (r : List (List Char)) : behindMainWord (w1 :: w2 :: w3 :: r) = w3 :: r := by kernel_rfl
theorem strip (r : List (List Char)) : stripLifts liftWords (w3 :: r) = ([], w3 :: r) := by kernel_rfl
theorem laysLater : Tryz.prog.laysLater = false := by kernel_rfl
theorem bearsReflect : Tryz.prog.bearsReflect = false := by kernel_rfl
theorem doorFits : Tryz.prog.doorFits [] = true := by kernel_rfl
theorem may : Tryz.prog.mayEnter = true := by
  unfold Program.mayEnter
  rw [words, behind]
  simp only [strip, laysLater, bearsReflect, doorFits, Bool.not_false, Bool.or_true, Bool.and_true, Bool.true_or]
  have h : ((w3 :: wordsSigns rest).head? == some "cut".toList) = true := by show (some w3 == some "cut".toList) = true; kernel_rfl
  rw [h]
  simp
theorem lifts : Tryz.prog.headLifts = [] := by
  unfold Program.headLifts
  rw [words, behind]
  simp only [strip]
  split <;> rfl
theorem final : Tryz.prog.liftsFinal = false := by
  unfold Program.liftsFinal
  rw [lifts, words, behind]
  have h : ((w3 :: wordsSigns rest).head? == some "carried".toList) = false := by show (some w3 == some "carried".toList) = false; kernel_rfl
  simp only [h]
  rfl
theorem make : Tryz.prog.make = some .cut := by
  unfold Program.make
  rw [words, behind]
  show (if (w3 == "gc".toList || w3 == "spec".toList) = true then _ else if (w3 == "cut".toList || _) = true then _ else _) = _
  have h1 : (w3 == "gc".toList || w3 == "spec".toList) = false := by kernel_rfl
  have h2 : (w3 == "cut".toList) = true := by kernel_rfl
  rw [h1, h2]
  rfl
theorem laid : laidOutB Tryz.prog = true := by kernel_rfl
theorem rowed : mapsRowed Tryz.prog = true := by kernel_rfl
theorem plain : Tryz.prog.plainKeys = true := by kernel_rfl
theorem heard : Tryz.prog.stopsHeard = true := by kernel_rfl
theorem stops : Tryz.prog.stops = [] := by kernel_rfl
theorem knobs : Tryz.prog.stopKnobs = [] := by kernel_rfl
end Go.Proofs.YtldnfpgemlgbmaaGreat.Facts
end

section
/- The closed facts of a row, out of those on the whole program and those on the row's own function. -/
set_option linter.unusedVariables false
set_option linter.unusedSimpArgs false
namespace Go.Flat
open Go
def callFacts (P : Program) (f : FuncId) (c : OpenClaim) : Bool := (c.inPlace == P.inPlace f) && ((c.unfollowed == P.unfollowed f) && ((c.recurses == P.recurses f) && (c.named == P.varsNamed f)))
def ownFacts (P : Program) (fn : Func) (s : ChangeSpec) (c : OpenClaim) : Bool :=
  c.wf (OpenSpec.ofChange s) && (fn.params.all (P.readableRec ·) && (namedTie P c.named s.vars && ((c.stops == []) && ((c.knobs == []) &&
  ((c.maps == (fn.params.toList ++ s.plain.varTypes P).any (P.mapsRec ·)) && ((c.ifaces == (fn.params.toList ++ s.plain.varTypes P).any (P.ifacesRec ·)) && ((c.mapsOut == P.mapsAmong fn.resultTypes.toList) &&
  ((c.loops == (fn.params.toList ++ s.plain.varTypes P).any (P.loopsFrom ·)) && ((c.wideKeys == (fn.params.toList ++ s.plain.varTypes P ++ fn.resultTypes.toList).any (P.wideKeysFrom ·)) &&
  (s.vars.all (P.varReadable ·) && (fn.resultTypes.all (fun t => P.readableRec t && decide (t < P.types.size)) && ((c.ifacesOut == fn.resultTypes.toList.any (P.ifacesRec ·)) && ((c.loopsOut == fn.resultTypes.toList.any (P.loopsFrom ·)) && ((c.plainKeys == true) && (c.shortTexts.isNone && ((c.lifted == false) && ((some Make.cut == some c.make) &&
  ((c.kinds == (if c.domain.isEmpty then [] else fn.params.toList.map fun t => match P.underlying t with | some (.int k) => some k | _ => none)) && ((c.pinned == c.pinnedBy) &&
  ((c.veiled == (fn.params.toList ++ s.plain.varTypes P ++ fn.resultTypes.toList).any (P.veiledRec ·)) && c.veiledFits P fn.params.toList (fn.params.toList ++ s.plain.varTypes P ++ fn.resultTypes.toList)))))))))))))))))))))
theorem joined_of {P : Program} {f : FuncId} {fn : Func} {s : ChangeSpec} {c : OpenClaim} (laid : laidOutB P = true) (rowed : mapsRowed P = true) (stops : P.stops = []) (knobs : P.stopKnobs = []) (plain : P.plainKeys = true) (heard : P.stopsHeard = true)
    (may : P.mayEnter = true) (final : P.liftsFinal = false) (make : P.make = some .cut) (hc : callFacts P f c = true) (ho : ownFacts P fn s c = true) : joinedFacts P f fn s c = true := by
  unfold callFacts at hc
  unfold ownFacts at ho
  unfold joinedFacts
  rw [plain, final, make, stops, knobs, laid, rowed, heard, may]
  simp only [Bool.and_eq_true] at hc ho
  obtain ⟨c1, c2, c3, c4⟩ := hc
  obtain ⟨o1, o2, o3, o4, o5, o6, o7, o8, o9, o10, o11, o12, o13, o14, o15, o16, o17, o18, o19, o20, o21, o22⟩ := ho
  simp only [Bool.and_eq_true, and_assoc]
  exact ⟨o1, (by first | trivial | rfl), (by first | trivial | rfl), o2, o3, o4, (by first | trivial | rfl), o5, (by first | trivial | rfl), c1, c2, c3, c4, o6, o7, o8, o9, o10, o11, o12, o13, o14, o15, o16, (by first | trivial | rfl), (by first | trivial | rfl), o17, o18, o19, o20, o21, o22⟩
end Go.Flat
end
