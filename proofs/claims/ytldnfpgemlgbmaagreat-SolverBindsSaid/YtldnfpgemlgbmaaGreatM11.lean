/- What is proved in the end: SolverBinds returns true whatever the input, and its input reads as it did; no condition.
This text: C75, C76, C77, C78. -/
import Derived.Test.YtldnfpgemlgbmaaGreatM10

section
/- Contracts: grab, rod and pin over a table. -/
set_option linter.unusedSimpArgs false
set_option linter.unusedVariables false
namespace Go.Flat
open Go

theorem MutOk.args {P : Program} {f : FuncId} {args args0 : List AV} {mem mem' : Mem} {r : AV} (h : MutOk P f args0 mem r mem') (hl : args0.length = args.length)
    (ha : ∀ (i : Nat) (a a0 : AV), args[i]? = some a → args0[i]? = some a0 → Fits a a0) : MutOk P f args mem r mem' := fun rf R ρ w vs hms hs hv =>
  h rf R ρ w vs hms (by rw [hs, hl]) fun i x hx => by
    have hlt : i < args.length := by rw [← hl]; exact (List.getElem?_eq_some_iff.1 hx).1
    exact ha i args[i] x (by simp [hlt]) hx _ _ _ _ (hv i args[i] (by simp [hlt]))
theorem fits_jA {j : Joint} {i : Int} (h : j.A = i) : Fits j.av (.agg (jA i j)) := by
  subst h
  exact Fits.agg (.cons (Fits.refl _) rfl rfl (.cons fits_ki rfl rfl (FitsL.refl_of rfl)))
theorem fits_jAB {j : Joint} {i m : Int} (h : j.A = i) (h' : j.B = m) : Fits j.av (.agg (jAB i m j)) := by
  subst h h'
  exact Fits.agg (.cons (Fits.refl _) rfl rfl (.cons fits_ki rfl rfl (.cons fits_ki rfl rfl (FitsL.refl_of rfl))))
theorem leafT_h {l : List Body} : (leafT l).holds (· = (.tup [], memT l)) := holds_yes rfl rfl

/-! what a joint does to its bodies -/
def grabB (a : Body) (j : Joint) (r : Num) : Body := bif (grabX a j r).2 then sPush a (gP a j) (grabX a j r).1 else a
def rodOff (a b : Body) (j : Joint) : Bool := bif (rodN a b j).2 then (rodK a b j).V == 0 else true
def rodA (a b : Body) (j : Joint) (r : Num) : Body := bif rodOff a b j then a else pA a (gP a j) (rodN a b j).1 (rodD a b j r)
def rodB (a b : Body) (j : Joint) (r : Num) : Body := bif rodOff a b j then b else pB b (vTo b.Pos j.PB) (rodN a b j).1 (rodD a b j r)
def pinA (a b : Body) (j : Joint) (r : Num) : Body := bif (pinX a b j r).2 then sPush a (gP a j) (vScale (pinX a b j r).1 (nInt (-1))) else a
def pinB (a b : Body) (j : Joint) (r : Num) : Body := bif (pinX a b j r).2 then sPush b (vTo b.Pos j.PB) (pinX a b j r).1 else b
theorem grabT_h {a : Body} {j : Joint} {r : Num} {K : Body → Tree (AV × Mem)} {Q : AV × Mem → Prop} (h : (K (grabB a j r)).holds Q) : (grabT a j r K).holds Q := by
  refine holds_gd (okS_true _) (holds_gd (okS_true _) ⟨fun e => holds_gd (okS_true _) ?_, fun e => ?_⟩)
  · unfold grabB at h; rw [e] at h; exact h
  · unfold grabB at h; rw [e] at h; exact h
theorem rodT_h {a b : Body} {j : Joint} {r : Num} {K : Body → Body → Tree (AV × Mem)} {Q : AV × Mem → Prop} (h : (K (rodA a b j r) (rodB a b j r)).holds Q) : (rodT a b j r K).holds Q := by
  unfold rodA rodB rodOff at h
  refine holds_gd (okS_true _) (holds_gd (okS_true _) ⟨fun e => ?_, fun e => ⟨fun e2 => ?_, fun e2 => holds_gd (okS_true _) (holds_gd (okS_true _) (holds_gd (okS_true _) (holds_gd (okS_true _) ?_)))⟩⟩)
  · have e : (rodN a b j).2 = false := by simpa using e
    rw [e] at h; exact h
  · have e : (rodN a b j).2 = true := by simpa using e
    rw [e, e2] at h; exact h
  · have e : (rodN a b j).2 = true := by simpa using e
    rw [e, e2] at h; exact h
theorem pinT_h {a b : Body} {j : Joint} {r : Num} {K : Body → Body → Tree (AV × Mem)} {Q : AV × Mem → Prop} (h : (K (pinA a b j r) (pinB a b j r)).holds Q) : (pinT a b j r K).holds Q := by
  unfold pinA pinB at h
  refine holds_gd (okS_true _) (holds_gd (okS_true _) (holds_gd (okS_true _) (holds_gd (okS_true _) ⟨fun e => holds_gd (okS_true _) (holds_gd (okS_true _) ?_), fun e => ?_⟩)))
  · rw [e] at h; exact h
  · rw [e] at h; exact h
def set1 (l : List Body) (i : Nat) (f : Body → Body) : List Body := l.set i (f (bAt l i))
def set2 (l : List Body) (i m : Nat) (f g : Body → Body → Body) : List Body := (l.set i (f (bAt l i) (bAt l m))).set m (g (bAt l i) (bAt l m))
theorem goB {f : FuncId} {n : Nat} {l l' : List Body} {a0 : AV} {r : Num} {j : Joint} {tr : Tree (AV × Mem)} (h : runC Cbind 60 f [tblA n, a0, r.av] (memT l) = tr) (ht : tr.holds (· = (.tup [], memT l'))) (ha : Fits j.av a0) :
    MutOk N.P f [tblA n, j.av, r.av] (memT l) (.tup []) (memT l') :=
  (mut_of_treeC (t := t_bind) (m := []) (l := [m_push, m_apart]) (rs := []) (hints := h0) (nils := nn) ok_bind mall_nil (mall_cons mo_push (mall_cons mo_apart mall_nil)) rall_nil named mixed 60 f _ _ _ _ tr h ht).2.args rfl fun i a a' hi hi' => by
    rcases i with _ | _ | _ | i
    · cases hi; cases hi'; exact Fits.refl _
    · cases hi; cases hi'; exact ha
    · cases hi; cases hi'; exact Fits.refl _
    · cases hi
theorem k_grabN (l : List Body) (i : Nat) (j : Joint) (r : Num) (hn : l.length ≤ 5) (hi : i < l.length) (h : j.A = i) : MutOk N.P N.solver_table_grab [tblA l.length, j.av, r.av] (memT l) (.tup []) (memT (set1 l i fun a => grabB a j r)) := by
  rcases l with _ | ⟨a, _ | ⟨b, _ | ⟨c, _ | ⟨d, _ | ⟨e, _ | ⟨f, t⟩⟩⟩⟩⟩⟩
  · exact absurd hi (Nat.not_lt_zero _)
  · rcases i with _ | i
    · exact goB (grab_1_0 a j r) (grabT_h leafT_h) (fits_jA h)
    · simp at hi <;> omega
  · rcases i with _ | _ | i
    · exact goB (grab_2_0 a b j r) (grabT_h leafT_h) (fits_jA h)
    · exact goB (grab_2_1 a b j r) (grabT_h leafT_h) (fits_jA h)
    · simp at hi <;> omega
  · rcases i with _ | _ | _ | i
    · exact goB (grab_3_0 a b c j r) (grabT_h leafT_h) (fits_jA h)
    · exact goB (grab_3_1 a b c j r) (grabT_h leafT_h) (fits_jA h)
    · exact goB (grab_3_2 a b c j r) (grabT_h leafT_h) (fits_jA h)
    · simp at hi <;> omega
  · rcases i with _ | _ | _ | _ | i
    · exact goB (grab_4_0 a b c d j r) (grabT_h leafT_h) (fits_jA h)
    · exact goB (grab_4_1 a b c d j r) (grabT_h leafT_h) (fits_jA h)
    · exact goB (grab_4_2 a b c d j r) (grabT_h leafT_h) (fits_jA h)
    · exact goB (grab_4_3 a b c d j r) (grabT_h leafT_h) (fits_jA h)
    · simp at hi <;> omega
  · rcases i with _ | _ | _ | _ | _ | i
    · exact goB (grab_5_0 a b c d e j r) (grabT_h leafT_h) (fits_jA h)
    · exact goB (grab_5_1 a b c d e j r) (grabT_h leafT_h) (fits_jA h)
    · exact goB (grab_5_2 a b c d e j r) (grabT_h leafT_h) (fits_jA h)
    · exact goB (grab_5_3 a b c d e j r) (grabT_h leafT_h) (fits_jA h)
    · exact goB (grab_5_4 a b c d e j r) (grabT_h leafT_h) (fits_jA h)
    · simp at hi <;> omega
  · simp at hn <;> omega
theorem k_rodN (l : List Body) (i m : Nat) (j : Joint) (r : Num) (hn : l.length ≤ 5) (hi : i < l.length) (hm : m < l.length) (him : i ≠ m) (h : j.A = i) (h' : j.B = m) : MutOk N.P N.solver_table_rod [tblA l.length, j.av, r.av] (memT l) (.tup []) (memT (set2 l i m (fun a b => rodA a b j r) (fun a b => rodB a b j r))) := by
  rcases l with _ | ⟨a, _ | ⟨b, _ | ⟨c, _ | ⟨d, _ | ⟨e, _ | ⟨f, t⟩⟩⟩⟩⟩⟩
  · exact absurd hi (Nat.not_lt_zero _)
  · exact absurd (show i = m by simp at hi hm; omega) him
  · rcases i with _ | _ | i
    · rcases m with _ | _ | m
      · exact absurd rfl him
      · exact goB (rod_2_0_1 a b j r) (rodT_h leafT_h) (fits_jAB h h')
      · simp at hm <;> omega
    · rcases m with _ | _ | m
      · exact goB (rod_2_1_0 a b j r) (rodT_h leafT_h) (fits_jAB h h')
      · exact absurd rfl him
      · simp at hm <;> omega
    · simp at hi <;> omega
  · rcases i with _ | _ | _ | i
    · rcases m with _ | _ | _ | m
      · exact absurd rfl him
      · exact goB (rod_3_0_1 a b c j r) (rodT_h leafT_h) (fits_jAB h h')
      · exact goB (rod_3_0_2 a b c j r) (rodT_h leafT_h) (fits_jAB h h')
      · simp at hm <;> omega
    · rcases m with _ | _ | _ | m
      · exact goB (rod_3_1_0 a b c j r) (rodT_h leafT_h) (fits_jAB h h')
      · exact absurd rfl him
      · exact goB (rod_3_1_2 a b c j r) (rodT_h leafT_h) (fits_jAB h h')
      · simp at hm <;> omega
    · rcases m with _ | _ | _ | m
      · exact goB (rod_3_2_0 a b c j r) (rodT_h leafT_h) (fits_jAB h h')
      · exact goB (rod_3_2_1 a b c j r) (rodT_h leafT_h) (fits_jAB h h')
      · exact absurd rfl him
      · simp at hm <;> omega
    · simp at hi <;> omega
  · rcases i with _ | _ | _ | _ | i
    · rcases m with _ | _ | _ | _ | m
      · exact absurd rfl him
      · exact goB (rod_4_0_1 a b c d j r) (rodT_h leafT_h) (fits_jAB h h')
      · exact goB (rod_4_0_2 a b c d j r) (rodT_h leafT_h) (fits_jAB h h')
      · exact goB (rod_4_0_3 a b c d j r) (rodT_h leafT_h) (fits_jAB h h')
      · simp at hm <;> omega
    · rcases m with _ | _ | _ | _ | m
      · exact goB (rod_4_1_0 a b c d j r) (rodT_h leafT_h) (fits_jAB h h')
      · exact absurd rfl him
      · exact goB (rod_4_1_2 a b c d j r) (rodT_h leafT_h) (fits_jAB h h')
      · exact goB (rod_4_1_3 a b c d j r) (rodT_h leafT_h) (fits_jAB h h')
      · simp at hm <;> omega
    · rcases m with _ | _ | _ | _ | m
      · exact goB (rod_4_2_0 a b c d j r) (rodT_h leafT_h) (fits_jAB h h')
      · exact goB (rod_4_2_1 a b c d j r) (rodT_h leafT_h) (fits_jAB h h')
      · exact absurd rfl him
      · exact goB (rod_4_2_3 a b c d j r) (rodT_h leafT_h) (fits_jAB h h')
      · simp at hm <;> omega
    · rcases m with _ | _ | _ | _ | m
      · exact goB (rod_4_3_0 a b c d j r) (rodT_h leafT_h) (fits_jAB h h')
      · exact goB (rod_4_3_1 a b c d j r) (rodT_h leafT_h) (fits_jAB h h')
      · exact goB (rod_4_3_2 a b c d j r) (rodT_h leafT_h) (fits_jAB h h')
      · exact absurd rfl him
      · simp at hm <;> omega
    · simp at hi <;> omega
  · rcases i with _ | _ | _ | _ | _ | i
    · rcases m with _ | _ | _ | _ | _ | m
      · exact absurd rfl him
      · exact goB (rod_5_0_1 a b c d e j r) (rodT_h leafT_h) (fits_jAB h h')
      · exact goB (rod_5_0_2 a b c d e j r) (rodT_h leafT_h) (fits_jAB h h')
      · exact goB (rod_5_0_3 a b c d e j r) (rodT_h leafT_h) (fits_jAB h h')
      · exact goB (rod_5_0_4 a b c d e j r) (rodT_h leafT_h) (fits_jAB h h')
      · simp at hm <;> omega
    · rcases m with _ | _ | _ | _ | _ | m
      · exact goB (rod_5_1_0 a b c d e j r) (rodT_h leafT_h) (fits_jAB h h')
      · exact absurd rfl him
      · exact goB (rod_5_1_2 a b c d e j r) (rodT_h leafT_h) (fits_jAB h h')
      · exact goB (rod_5_1_3 a b c d e j r) (rodT_h leafT_h) (fits_jAB h h')
      · exact goB (rod_5_1_4 a b c d e j r) (rodT_h leafT_h) (fits_jAB h h')
      · simp at hm <;> omega
    · rcases m with _ | _ | _ | _ | _ | m
      · exact goB (rod_5_2_0 a b c d e j r) (rodT_h leafT_h) (fits_jAB h h')
      · exact goB (rod_5_2_1 a b c d e j r) (rodT_h leafT_h) (fits_jAB h h')
      · exact absurd rfl him
      · exact goB (rod_5_2_3 a b c d e j r) (rodT_h leafT_h) (fits_jAB h h')
      · exact goB (rod_5_2_4 a b c d e j r) (rodT_h leafT_h) (fits_jAB h h')
      · simp at hm <;> omega
    · rcases m with _ | _ | _ | _ | _ | m
      · exact goB (rod_5_3_0 a b c d e j r) (rodT_h leafT_h) (fits_jAB h h')
      · exact goB (rod_5_3_1 a b c d e j r) (rodT_h leafT_h) (fits_jAB h h')
      · exact goB (rod_5_3_2 a b c d e j r) (rodT_h leafT_h) (fits_jAB h h')
      · exact absurd rfl him
      · exact goB (rod_5_3_4 a b c d e j r) (rodT_h leafT_h) (fits_jAB h h')
      · simp at hm <;> omega
    · rcases m with _ | _ | _ | _ | _ | m
      · exact goB (rod_5_4_0 a b c d e j r) (rodT_h leafT_h) (fits_jAB h h')
      · exact goB (rod_5_4_1 a b c d e j r) (rodT_h leafT_h) (fits_jAB h h')
      · exact goB (rod_5_4_2 a b c d e j r) (rodT_h leafT_h) (fits_jAB h h')
      · exact goB (rod_5_4_3 a b c d e j r) (rodT_h leafT_h) (fits_jAB h h')
      · exact absurd rfl him
      · simp at hm <;> omega
    · simp at hi <;> omega
  · simp at hn <;> omega
theorem k_pinN (l : List Body) (i m : Nat) (j : Joint) (r : Num) (hn : l.length ≤ 5) (hi : i < l.length) (hm : m < l.length) (him : i ≠ m) (h : j.A = i) (h' : j.B = m) : MutOk N.P N.solver_table_pin [tblA l.length, j.av, r.av] (memT l) (.tup []) (memT (set2 l i m (fun a b => pinA a b j r) (fun a b => pinB a b j r))) := by
  rcases l with _ | ⟨a, _ | ⟨b, _ | ⟨c, _ | ⟨d, _ | ⟨e, _ | ⟨f, t⟩⟩⟩⟩⟩⟩
  · exact absurd hi (Nat.not_lt_zero _)
  · exact absurd (show i = m by simp at hi hm; omega) him
  · rcases i with _ | _ | i
    · rcases m with _ | _ | m
      · exact absurd rfl him
      · exact goB (pin_2_0_1 a b j r) (pinT_h leafT_h) (fits_jAB h h')
      · simp at hm <;> omega
    · rcases m with _ | _ | m
      · exact goB (pin_2_1_0 a b j r) (pinT_h leafT_h) (fits_jAB h h')
      · exact absurd rfl him
      · simp at hm <;> omega
    · simp at hi <;> omega
  · rcases i with _ | _ | _ | i
    · rcases m with _ | _ | _ | m
      · exact absurd rfl him
      · exact goB (pin_3_0_1 a b c j r) (pinT_h leafT_h) (fits_jAB h h')
      · exact goB (pin_3_0_2 a b c j r) (pinT_h leafT_h) (fits_jAB h h')
      · simp at hm <;> omega
    · rcases m with _ | _ | _ | m
      · exact goB (pin_3_1_0 a b c j r) (pinT_h leafT_h) (fits_jAB h h')
      · exact absurd rfl him
      · exact goB (pin_3_1_2 a b c j r) (pinT_h leafT_h) (fits_jAB h h')
      · simp at hm <;> omega
    · rcases m with _ | _ | _ | m
      · exact goB (pin_3_2_0 a b c j r) (pinT_h leafT_h) (fits_jAB h h')
      · exact goB (pin_3_2_1 a b c j r) (pinT_h leafT_h) (fits_jAB h h')
      · exact absurd rfl him
      · simp at hm <;> omega
    · simp at hi <;> omega
  · rcases i with _ | _ | _ | _ | i
    · rcases m with _ | _ | _ | _ | m
      · exact absurd rfl him
      · exact goB (pin_4_0_1 a b c d j r) (pinT_h leafT_h) (fits_jAB h h')
      · exact goB (pin_4_0_2 a b c d j r) (pinT_h leafT_h) (fits_jAB h h')
      · exact goB (pin_4_0_3 a b c d j r) (pinT_h leafT_h) (fits_jAB h h')
      · simp at hm <;> omega
    · rcases m with _ | _ | _ | _ | m
      · exact goB (pin_4_1_0 a b c d j r) (pinT_h leafT_h) (fits_jAB h h')
      · exact absurd rfl him
      · exact goB (pin_4_1_2 a b c d j r) (pinT_h leafT_h) (fits_jAB h h')
      · exact goB (pin_4_1_3 a b c d j r) (pinT_h leafT_h) (fits_jAB h h')
      · simp at hm <;> omega
    · rcases m with _ | _ | _ | _ | m
      · exact goB (pin_4_2_0 a b c d j r) (pinT_h leafT_h) (fits_jAB h h')
      · exact goB (pin_4_2_1 a b c d j r) (pinT_h leafT_h) (fits_jAB h h')
      · exact absurd rfl him
      · exact goB (pin_4_2_3 a b c d j r) (pinT_h leafT_h) (fits_jAB h h')
      · simp at hm <;> omega
    · rcases m with _ | _ | _ | _ | m
      · exact goB (pin_4_3_0 a b c d j r) (pinT_h leafT_h) (fits_jAB h h')
      · exact goB (pin_4_3_1 a b c d j r) (pinT_h leafT_h) (fits_jAB h h')
      · exact goB (pin_4_3_2 a b c d j r) (pinT_h leafT_h) (fits_jAB h h')
      · exact absurd rfl him
      · simp at hm <;> omega
    · simp at hi <;> omega
  · rcases i with _ | _ | _ | _ | _ | i
    · rcases m with _ | _ | _ | _ | _ | m
      · exact absurd rfl him
      · exact goB (pin_5_0_1 a b c d e j r) (pinT_h leafT_h) (fits_jAB h h')
      · exact goB (pin_5_0_2 a b c d e j r) (pinT_h leafT_h) (fits_jAB h h')
      · exact goB (pin_5_0_3 a b c d e j r) (pinT_h leafT_h) (fits_jAB h h')
      · exact goB (pin_5_0_4 a b c d e j r) (pinT_h leafT_h) (fits_jAB h h')
      · simp at hm <;> omega
    · rcases m with _ | _ | _ | _ | _ | m
      · exact goB (pin_5_1_0 a b c d e j r) (pinT_h leafT_h) (fits_jAB h h')
      · exact absurd rfl him
      · exact goB (pin_5_1_2 a b c d e j r) (pinT_h leafT_h) (fits_jAB h h')
      · exact goB (pin_5_1_3 a b c d e j r) (pinT_h leafT_h) (fits_jAB h h')
      · exact goB (pin_5_1_4 a b c d e j r) (pinT_h leafT_h) (fits_jAB h h')
      · simp at hm <;> omega
    · rcases m with _ | _ | _ | _ | _ | m
      · exact goB (pin_5_2_0 a b c d e j r) (pinT_h leafT_h) (fits_jAB h h')
      · exact goB (pin_5_2_1 a b c d e j r) (pinT_h leafT_h) (fits_jAB h h')
      · exact absurd rfl him
      · exact goB (pin_5_2_3 a b c d e j r) (pinT_h leafT_h) (fits_jAB h h')
      · exact goB (pin_5_2_4 a b c d e j r) (pinT_h leafT_h) (fits_jAB h h')
      · simp at hm <;> omega
    · rcases m with _ | _ | _ | _ | _ | m
      · exact goB (pin_5_3_0 a b c d e j r) (pinT_h leafT_h) (fits_jAB h h')
      · exact goB (pin_5_3_1 a b c d e j r) (pinT_h leafT_h) (fits_jAB h h')
      · exact goB (pin_5_3_2 a b c d e j r) (pinT_h leafT_h) (fits_jAB h h')
      · exact absurd rfl him
      · exact goB (pin_5_3_4 a b c d e j r) (pinT_h leafT_h) (fits_jAB h h')
      · simp at hm <;> omega
    · rcases m with _ | _ | _ | _ | _ | m
      · exact goB (pin_5_4_0 a b c d e j r) (pinT_h leafT_h) (fits_jAB h h')
      · exact goB (pin_5_4_1 a b c d e j r) (pinT_h leafT_h) (fits_jAB h h')
      · exact goB (pin_5_4_2 a b c d e j r) (pinT_h leafT_h) (fits_jAB h h')
      · exact goB (pin_5_4_3 a b c d e j r) (pinT_h leafT_h) (fits_jAB h h')
      · exact absurd rfl him
      · simp at hm <;> omega
    · simp at hi <;> omega
  · simp at hn <;> omega

def dJN : Dec (Joint × Num) := Dec.two rJoint.agg cNum (fun _ => rfl) (fun _ => rfl)
def okJ1 (l : List Body) (y : Joint × Num) : Bool := decide (0 ≤ y.1.A) && decide (y.1.A < l.length)
def okJ2 (l : List Body) (y : Joint × Num) : Bool := apartB l.length y.1.A y.1.B
def sGrab (l : List Body) (y : Joint × Num) : List Body := set1 l y.1.A.toNat fun a => grabB a y.1 y.2
def sRod (l : List Body) (y : Joint × Num) : List Body := set2 l y.1.A.toNat y.1.B.toNat (fun a b => rodA a b y.1 y.2) (fun a b => rodB a b y.1 y.2)
def sPin (l : List Body) (y : Joint × Num) : List Body := set2 l y.1.A.toNat y.1.B.toNat (fun a b => pinA a b y.1 y.2) (fun a b => pinB a b y.1 y.2)
theorem set1_len (l : List Body) (i : Nat) (f : Body → Body) : (set1 l i f).length = l.length := by simp [set1]
theorem set2_len (l : List Body) (i m : Nat) (f g : Body → Body → Body) : (set2 l i m f g).length = l.length := by simp [set2]
theorem okJ2_of {l : List Body} {y : Joint × Num} (h : okJ2 l y = true) : y.1.A.toNat < l.length ∧ y.1.B.toNat < l.length ∧ y.1.A.toNat ≠ y.1.B.toNat ∧ y.1.A = (y.1.A.toNat : Int) ∧ y.1.B = (y.1.B.toNat : Int) := by
  simp only [okJ2, apartB, Bool.and_eq_true, decide_eq_true_eq, bne_iff_ne] at h
  obtain ⟨h1, h2, h3, h4, h5⟩ := h
  refine ⟨?_, ?_, ?_, ?_, ?_⟩ <;> omega
def m_grab : Ment := mentT N.solver_table_grab 5 dJN okJ1 sGrab
theorem mo_grab : m_grab.ok N.P := mentT_ok (callB_ok (by kernel_rfl)) (fun _ _ => set1_len _ _ _) fun l y hn h => by
  simp only [okJ1, Bool.and_eq_true, decide_eq_true_eq] at h
  exact k_grabN l y.1.A.toNat y.1 y.2 hn (by omega) (by omega)
def m_rod : Ment := mentT N.solver_table_rod 5 dJN okJ2 sRod
theorem mo_rod : m_rod.ok N.P := mentT_ok (callB_ok (by kernel_rfl)) (fun _ _ => set2_len _ _ _ _ _) fun l y hn h => by
  obtain ⟨h1, h2, h3, h4, h5⟩ := okJ2_of h
  exact k_rodN l _ _ y.1 y.2 hn h1 h2 h3 h4 h5
def m_pin : Ment := mentT N.solver_table_pin 5 dJN okJ2 sPin
theorem mo_pin : m_pin.ok N.P := mentT_ok (callB_ok (by kernel_rfl)) (fun _ _ => set2_len _ _ _ _ _) fun l y hn h => by
  obtain ⟨h1, h2, h3, h4, h5⟩ := okJ2_of h
  exact k_pinN l _ _ y.1 y.2 hn h1 h2 h3 h4 h5
end Go.Flat
end

section
/- Contract: bind over a table. -/
set_option linter.unusedSimpArgs false
set_option linter.unusedVariables false
namespace Go.Flat
open Go

def t_bd : List Ent := [e_Check, e_Cmp, e_Div, e_Ratio]
theorem ok_bd : ∀ e ∈ t_bd, e.ok N.P := all_cons o_Check (all_cons o_Cmp (all_cons o_Div (all_cons o_Ratio all_nil)))
noncomputable abbrev Cbd : Ctx := ctxL N.P t_bd [] [m_grab, m_rod, m_pin] [] h0 nn
def withK (k : Int) (j : Joint) : Joint := { j with Kind := k }
def bR (dt : Num) : Num := nDiv (nRatio 1 5) dt
def bindT (l : List Body) (n : Int) (j : Joint) (dt : Num) (ok : Bool) (s : List Body) : Tree (AV × Mem) :=
  .node (sCheck n j != 0) (leafT l) (.node (decide (nCmp dt zNum ≤ 0)) (leafT l) (guards (ok :: l.map fun b => okS b.Shp.Pts) (leafT (shown l.length s))))
def okK (k : Int) (l : List Body) (y : Joint × Num) : Bool := bif k == 1 then okJ1 l y else okJ2 l y
def sK (k : Int) (l : List Body) (y : Joint × Num) : List Body := bif k == 1 then sGrab l y else bif k == 2 then sRod l y else sPin l y
abbrev BindP (l : List Body) (k : Int) : Prop := ∀ (j : Joint) (dt : Num), runC Cbd 60 N.solver_table_bind [tblA l.length, .agg (jK k j), dt.av] (memT l) = bindT l l.length (withK k j) dt (okK k l (withK k j, bR dt)) (sK k l (withK k j, bR dt))
noncomputable abbrev bdR (l : List Body) (j : Joint) (dt : Num) : Tree (AV × Mem) := runC Cbd 60 N.solver_table_bind [tblA l.length, j.av, dt.av] (memT l)
abbrev BindO (l : List Body) : Prop := ∀ (j : Joint) (dt : Num), bdR l j dt = .node (sCheck l.length j != 0) (leafT l) (bdR l j dt).r
theorem bind_0_1 : BindP [] 1 := by intro j dt; kernel_rfl
theorem bind_0_2 : BindP [] 2 := by intro j dt; kernel_rfl
theorem bind_0_3 : BindP [] 3 := by intro j dt; kernel_rfl
theorem bind_0_o : BindO [] := by intro j dt; kernel_rfl
theorem bind_1_1 (a : Body) : BindP [a] 1 := by intro j dt; kernel_rfl
theorem bind_1_2 (a : Body) : BindP [a] 2 := by intro j dt; kernel_rfl
theorem bind_1_3 (a : Body) : BindP [a] 3 := by intro j dt; kernel_rfl
theorem bind_1_o (a : Body) : BindO [a] := by intro j dt; kernel_rfl
theorem bind_2_1 (a b : Body) : BindP [a, b] 1 := by intro j dt; kernel_rfl
theorem bind_2_2 (a b : Body) : BindP [a, b] 2 := by intro j dt; kernel_rfl
theorem bind_2_3 (a b : Body) : BindP [a, b] 3 := by intro j dt; kernel_rfl
theorem bind_2_o (a b : Body) : BindO [a, b] := by intro j dt; kernel_rfl
theorem bind_3_1 (a b c : Body) : BindP [a, b, c] 1 := by intro j dt; kernel_rfl
theorem bind_3_2 (a b c : Body) : BindP [a, b, c] 2 := by intro j dt; kernel_rfl
theorem bind_3_3 (a b c : Body) : BindP [a, b, c] 3 := by intro j dt; kernel_rfl
theorem bind_3_o (a b c : Body) : BindO [a, b, c] := by intro j dt; kernel_rfl
theorem bind_4_1 (a b c d : Body) : BindP [a, b, c, d] 1 := by intro j dt; kernel_rfl
theorem bind_4_2 (a b c d : Body) : BindP [a, b, c, d] 2 := by intro j dt; kernel_rfl
theorem bind_4_3 (a b c d : Body) : BindP [a, b, c, d] 3 := by intro j dt; kernel_rfl
theorem bind_4_o (a b c d : Body) : BindO [a, b, c, d] := by intro j dt; kernel_rfl
theorem bind_5_1 (a b c d e : Body) : BindP [a, b, c, d, e] 1 := by intro j dt; kernel_rfl
theorem bind_5_2 (a b c d e : Body) : BindP [a, b, c, d, e] 2 := by intro j dt; kernel_rfl
theorem bind_5_3 (a b c d e : Body) : BindP [a, b, c, d, e] 3 := by intro j dt; kernel_rfl
theorem bind_5_o (a b c d e : Body) : BindO [a, b, c, d, e] := by intro j dt; kernel_rfl
theorem bind_k (l : List Body) (k : Int) (hk : k = 1 ∨ k = 2 ∨ k = 3) (hn : l.length ≤ 5) : BindP l k := by
  rcases l with _ | ⟨a, _ | ⟨b, _ | ⟨c, _ | ⟨d, _ | ⟨e, _ | ⟨f, t⟩⟩⟩⟩⟩⟩
  · rcases hk with rfl | rfl | rfl
    · exact bind_0_1 
    · exact bind_0_2 
    · exact bind_0_3 
  · rcases hk with rfl | rfl | rfl
    · exact bind_1_1 a
    · exact bind_1_2 a
    · exact bind_1_3 a
  · rcases hk with rfl | rfl | rfl
    · exact bind_2_1 a b
    · exact bind_2_2 a b
    · exact bind_2_3 a b
  · rcases hk with rfl | rfl | rfl
    · exact bind_3_1 a b c
    · exact bind_3_2 a b c
    · exact bind_3_3 a b c
  · rcases hk with rfl | rfl | rfl
    · exact bind_4_1 a b c d
    · exact bind_4_2 a b c d
    · exact bind_4_3 a b c d
  · rcases hk with rfl | rfl | rfl
    · exact bind_5_1 a b c d e
    · exact bind_5_2 a b c d e
    · exact bind_5_3 a b c d e
  · simp at hn <;> omega
theorem bind_o (l : List Body) (hn : l.length ≤ 5) : BindO l := by
  rcases l with _ | ⟨a, _ | ⟨b, _ | ⟨c, _ | ⟨d, _ | ⟨e, _ | ⟨f, t⟩⟩⟩⟩⟩⟩
  · exact bind_0_o 
  · exact bind_1_o a
  · exact bind_2_o a b
  · exact bind_3_o a b c
  · exact bind_4_o a b c d
  · exact bind_5_o a b c d e
  · simp at hn <;> omega
/-- the bodies behind one iteration of a joint -/
def sBind (l : List Body) (y : Joint × Num) : List Body := bif sCheck l.length y.1 != 0 then l else bif decide (nCmp y.2 zNum ≤ 0) then l else sK y.1.Kind l (y.1, bR y.2)
theorem sK_len (k : Int) (l : List Body) (y : Joint × Num) : (sK k l y).length = l.length := by
  unfold sK sGrab sRod sPin
  cases k == 1 <;> cases k == 2 <;> simp [set1_len, set2_len]
theorem sBind_len (l : List Body) (y : Joint × Num) : (sBind l y).length = l.length := by
  unfold sBind
  cases sCheck l.length y.1 != 0 <;> cases decide (nCmp y.2 zNum ≤ 0) <;> simp [sK_len]
theorem ckV_zero {b : Bool} {e : Int} {r : List CK} (he : e ≠ 0) (h : ckV (.c b e :: r) = 0) : b = false ∧ ckV r = 0 := by
  rw [ckV_c] at h
  cases b
  · exact ⟨rfl, h⟩
  · exact absurd h he
theorem check_ok {l : List Body} {j : Joint} {r : Num} (h : sCheck l.length j = 0) : (j.Kind = 1 ∨ j.Kind = 2 ∨ j.Kind = 3) ∧ okK j.Kind l (j, r) = true := by
  rcases kinds j with e | e | e | e
  · rw [sCheck_1 e] at h
    obtain ⟨h1, h⟩ := ckV_zero (by decide) h
    obtain ⟨h2, _⟩ := ckV_zero (by decide) h
    have h1 := of_decide_eq_false h1
    have h2 := of_decide_eq_false h2
    refine ⟨.inl e, ?_⟩
    rw [e]
    show okJ1 l (j, r) = true
    simp only [okJ1, Bool.and_eq_true, decide_eq_true_eq]
    exact ⟨by omega, by omega⟩
  · rw [sCheck_2 e] at h
    obtain ⟨_, h⟩ := ckV_zero (by decide) h
    obtain ⟨_, h⟩ := ckV_zero (by decide) h
    obtain ⟨h3, _⟩ := ckV_zero (by decide) h
    refine ⟨.inr (.inl e), ?_⟩
    rw [e]
    show apartB l.length j.A j.B = true
    simpa using h3
  · rw [sCheck_3 e] at h
    obtain ⟨_, h⟩ := ckV_zero (by decide) h
    obtain ⟨_, h⟩ := ckV_zero (by decide) h
    obtain ⟨h3, _⟩ := ckV_zero (by decide) h
    refine ⟨.inr (.inr e), ?_⟩
    rw [e]
    show apartB l.length j.A j.B = true
    simpa using h3
  · rw [sCheck_o e] at h; cases h
theorem okl_bd : ∀ e ∈ [m_grab, m_rod, m_pin], e.ok N.P := mall_cons mo_grab (mall_cons mo_rod (mall_cons mo_pin mall_nil))
theorem goBd {l l' : List Body} {a0 : AV} {dt : Num} {j : Joint} {tr : Tree (AV × Mem)} (h : runC Cbd 60 N.solver_table_bind [tblA l.length, a0, dt.av] (memT l) = tr) (ht : tr.holds (· = (.tup [], memT l'))) (ha : Fits j.av a0) :
    MutOk N.P N.solver_table_bind [tblA l.length, j.av, dt.av] (memT l) (.tup []) (memT l') :=
  (mut_of_treeC (t := t_bd) (m := []) (l := [m_grab, m_rod, m_pin]) (rs := []) (hints := h0) (nils := nn) ok_bd mall_nil okl_bd rall_nil named mixed 60 N.solver_table_bind _ _ _ _ tr h ht).2.args rfl fun i a a' hi hi' => by
    rcases i with _ | _ | _ | i
    · cases hi; cases hi'; exact Fits.refl _
    · cases hi; cases hi'; exact ha
    · cases hi; cases hi'; exact Fits.refl _
    · cases hi
theorem k_bind (l : List Body) (y : Joint × Num) (hn : l.length ≤ 5) : MutOk N.P N.solver_table_bind [tblA l.length, y.1.av, y.2.av] (memT l) (.tup []) (memT (sBind l y)) := by
  obtain ⟨j, dt⟩ := y
  unfold sBind
  cases h : sCheck l.length j != 0 with
  | true =>
    simp only [cond_true]
    refine goBd (bind_o l hn j dt) ?_ (Fits.refl _)
    generalize (bdR l j dt).r = X
    exact holds_yes h leafT_h
  | false =>
    have h' : sCheck l.length j = 0 := by simpa using h
    obtain ⟨hk, ho⟩ := check_ok (r := bR dt) h'
    have ej : withK j.Kind j = j := rfl
    have hb := bind_k l j.Kind hk hn j dt
    rw [ej] at hb
    simp only [cond_false]
    refine goBd hb (holds_no h ⟨fun h2 => ?_, fun h2 => ?_⟩) (fits_jK rfl)
    · rw [h2]; exact leafT_h
    · rw [h2]
      refine holds_guards (fun b hb => ?_) ?_
      · rcases List.mem_cons.1 hb with rfl | hb
        · exact ho
        · obtain ⟨x, _, rfl⟩ := List.mem_map.1 hb
          exact okS_true _
      · rw [shown_eq (sK_len _ _ _)]
        exact leafT_h
def m_bind : Ment := mentT N.solver_table_bind 5 dJN (fun _ _ => true) sBind
theorem mo_bind : m_bind.ok N.P := mentT_ok (callB_ok (by kernel_rfl)) sBind_len fun l y hn _ => k_bind l y hn
end Go.Flat
end

section
/- Contract: Bind, at lists of at most five bodies. -/
set_option linter.unusedSimpArgs false
set_option linter.unusedVariables false
namespace Go.Flat
open Go

noncomputable abbrev CBind : Ctx := ctxL N.P [e_Copy] [] [m_bind] [] h0 nn
def BindT (n : Nat) (l : Nat → Body) (j : Joint) (dt : Num) : Tree AV := guards (condsLay n l ++ (true :: (okSs n l ++ condsList n))) (.leaf (.vsl true 27 n (fun r => (rowsOf n (sBind (lstN n l) (j, dt))).getD r [])))
theorem Bind0 (l : Nat → Body) (j : Joint) (dt : Num) : runF CBind 60 N.solver_Bind [.vsl true 27 0 (fun i => rBody.cells (l i)), j.av, dt.av] = BindT 0 l j dt := by kernel_rfl
theorem Bind1 (l : Nat → Body) (j : Joint) (dt : Num) : runF CBind 60 N.solver_Bind [.vsl true 27 1 (fun i => rBody.cells (l i)), j.av, dt.av] = BindT 1 l j dt := by kernel_rfl
theorem Bind2 (l : Nat → Body) (j : Joint) (dt : Num) : runF CBind 60 N.solver_Bind [.vsl true 27 2 (fun i => rBody.cells (l i)), j.av, dt.av] = BindT 2 l j dt := by kernel_rfl
theorem Bind3 (l : Nat → Body) (j : Joint) (dt : Num) : runF CBind 60 N.solver_Bind [.vsl true 27 3 (fun i => rBody.cells (l i)), j.av, dt.av] = BindT 3 l j dt := by kernel_rfl
theorem Bind4 (l : Nat → Body) (j : Joint) (dt : Num) : runF CBind 60 N.solver_Bind [.vsl true 27 4 (fun i => rBody.cells (l i)), j.av, dt.av] = BindT 4 l j dt := by kernel_rfl
theorem Bind5 (l : Nat → Body) (j : Joint) (dt : Num) : runF CBind 60 N.solver_Bind [.vsl true 27 5 (fun i => rBody.cells (l i)), j.av, dt.av] = BindT 5 l j dt := by kernel_rfl
theorem Bind_all {n : Nat} (hn : n ≤ 5) (l : Nat → Body) (j : Joint) (dt : Num) : runF CBind 60 N.solver_Bind [.vsl true 27 n (fun i => rBody.cells (l i)), j.av, dt.av] = BindT n l j dt := by
  rcases n with _ | _ | _ | _ | _ | _ | n
  · exact Bind0 l j dt
  · exact Bind1 l j dt
  · exact Bind2 l j dt
  · exact Bind3 l j dt
  · exact Bind4 l j dt
  · exact Bind5 l j dt
  · omega
theorem c_Bind (l : Sl Body) (j : Joint) (dt : Num) (h : okBind l = true) : Con N.P N.solver_Bind [rBody.encS l, j.av, dt.av] (rBody.encS (slN l.len (sBind (lstN l.len l.at') (j, dt)))) := by
  simp only [okBind, Bool.and_eq_true, smallAll] at h
  obtain ⟨h1, _, h2⟩ := h
  have hn := Nat.le_of_ble_eq_true h1
  have key := con_treeLG (P := N.P) (t := [e_Copy]) (m := []) (l := [m_bind]) (rs := []) (hints := h0) (nils := nn) (all_cons o_Copy all_nil) mall_nil (mall_cons mo_bind mall_nil) rall_nil named mixed (f := N.solver_Bind) (by kernel_rfl)
    (args := [.vsl true 27 l.len (fun i => rBody.cells (l.at' i)), j.av, dt.av]) (r := rBody.encS (slN l.len (sBind (lstN l.len l.at') (j, dt)))) rfl 60 _ (Bind_all hn l.at' j dt) fun _ => holds_guards (fun b hb => by
      rcases List.mem_append.1 hb with hb | hb
      · exact lay_true (fun i hi => allN_iff.1 h2 i hi) b hb
      rcases List.mem_cons.1 hb with rfl | hb
      · rfl
      rcases List.mem_append.1 hb with hb | hb
      · exact okSs_true b hb
      · exact list_true b hb) (fits_rowsN _ _)
  refine Con.args (args' := [.vsl true 27 l.len (fun i => rBody.cells (l.at' i)), j.av, dt.av]) rfl (fun i a a' hi hi' => ?_) key
  rcases i with _ | _ | _ | i <;> simp at hi hi' <;> subst hi <;> subst hi'
  · exact Fits.vslk true
  · exact Fits.refl _
  · exact Fits.refl _
end Go.Flat
end

section
/- The reference's Bind: the trees of its runs at known indexes. -/
set_option linter.unusedSimpArgs false
set_option linter.unusedVariables false
namespace Go.Flat
open Go

def t_pair : List Ent := [e_rNeg, e_rScale, e_rPush]
theorem ok_pair : ∀ e ∈ t_pair, e.ok N.P := all_cons o_rNeg (all_cons o_rScale (all_cons o_rPush all_nil))
noncomputable abbrev Cpair : Ctx := ctxL N.P t_pair [] [] [] h0 nn
noncomputable def m_pair : Ment := mentR Cpair 30 N.ref05_pair
theorem mo_pair : m_pair.ok N.P := mentR_ok (C := Cpair) (ctxL_ok ok_pair mall_nil rall_nil) (ctxL_muts mall_nil) named mixed 30 N.ref05_pair
def t_rBind : List Ent := [e_rCopy, e_rCheck, e_rValue, e_beta, e_rDiv, e_rTo, e_rMatrix, e_rVSub, e_rScale, e_rSpeed, e_rSolve, e_rPush, e_rUnit, e_rHeft, e_rAddN, e_rMul, e_rSub, e_rVLen, e_rNeg, e_rVDot, e_rAdd, e_rInt]
theorem ok_rBind : ∀ e ∈ t_rBind, e.ok N.P := all_cons o_rCopy (all_cons o_rCheck (all_cons o_rValue (all_cons o_beta (all_cons o_rDiv (all_cons o_rTo (all_cons o_rMatrix (all_cons o_rVSub (all_cons o_rScale (all_cons o_rSpeed (all_cons o_rSolve (all_cons o_rPush (all_cons o_rUnit (all_cons o_rHeft (all_cons o_rAddN (all_cons o_rMul (all_cons o_rSub (all_cons o_rVLen (all_cons o_rNeg (all_cons o_rVDot (all_cons o_rAdd (all_cons o_rInt all_nil)))))))))))))))))))))
noncomputable abbrev CrB : Ctx := ctxL N.P t_rBind [] [m_pair] [] h0 nn
def jKA (i : Int) (j : Joint) : List AV := .ki .i64 1 :: .ki .i64 i :: (rJoint.cells j).drop 2
def jKAB (k i m : Int) (j : Joint) : List AV := .ki .i64 k :: .ki .i64 i :: .ki .i64 m :: (rJoint.cells j).drop 3
def withKA (i : Int) (j : Joint) : Joint := { j with Kind := 1, A := i }
def withKAB (k i m : Int) (j : Joint) : Joint := { j with Kind := k, A := i, B := m }
def rBindT (n : Nat) (l : Nat → Body) (j : Joint) (dt : Num) (X : Tree AV) : Tree AV := guards (condsR n l) (.node (sCheck n j != 0) (leafR n (lstN n l)) (.node (decide (sv dt ≤ 0)) (leafR n (lstN n l)) X))
def rGrabT (n i : Nat) (L : List Body) (j : Joint) (r : Num) : Tree AV := oS (bAt L i) (oS (bAt L i) (.node (grabX (bAt L i) j r).2 (smS (bAt L i) (gT (leafR n (L.set i (sPush (bAt L i) (gP (bAt L i) j) (grabX (bAt L i) j r).1))))) (leafR n L)))
def rPairT (a b : Body) (t : Tree AV) : Tree AV := smS a (gT (smS b (gT t)))
def rRodT (n i m : Nat) (L : List Body) (a b : Body) (j : Joint) (r : Num) : Tree AV := oS b (oS a (oS a (oS b (.node (!(rodN a b j).2) (leafR n L) (.node ((rodK a b j).V == 0) (leafR n L)
  (rPairT a b (leafR n ((L.set i (pA a (gP a j) (rodN a b j).1 (rodD a b j r))).set m (pB b (vTo b.Pos j.PB) (rodN a b j).1 (rodD a b j r))))))))))
def rPinT (n i m : Nat) (L : List Body) (a b : Body) (j : Joint) (r : Num) : Tree AV := oS b (oS a (oS a (oS b (.node (pinX a b j r).2
  (rPairT a b (leafR n ((L.set i (sPush a (gP a j) (vScale (pinX a b j r).1 (nInt (-1))))).set m (sPush b (vTo b.Pos j.PB) (pinX a b j r).1)))) (leafR n L)))))
abbrev RGrabP (n i : Nat) : Prop := ∀ (l : Nat → Body) (j : Joint) (dt : Num), runF CrB 60 N.ref05_Bind [.vsl true 27 n (fun i => rBody.cells (l i)), .agg (jKA i j), dt.av] = rBindT n l (withKA i j) dt (rGrabT n i (lstN n l) (withKA i j) (bR dt))
abbrev RRodP (n i m : Nat) : Prop := ∀ (l : Nat → Body) (j : Joint) (dt : Num), runF CrB 60 N.ref05_Bind [.vsl true 27 n (fun i => rBody.cells (l i)), .agg (jKAB 2 i m j), dt.av] = rBindT n l (withKAB 2 i m j) dt (rRodT n i m (lstN n l) (bAt (lstN n l) i) (bAt (lstN n l) m) (withKAB 2 i m j) (bR dt))
abbrev RPinP (n i m : Nat) : Prop := ∀ (l : Nat → Body) (j : Joint) (dt : Num), runF CrB 60 N.ref05_Bind [.vsl true 27 n (fun i => rBody.cells (l i)), .agg (jKAB 3 i m j), dt.av] = rBindT n l (withKAB 3 i m j) dt (rPinT n i m (lstN n l) (bAt (lstN n l) i) (bAt (lstN n l) m) (withKAB 3 i m j) (bR dt))
noncomputable abbrev runRB (n : Nat) (l : Nat → Body) (j : Joint) (dt : Num) : Tree AV := runF CrB 60 N.ref05_Bind [.vsl true 27 n (fun i => rBody.cells (l i)), j.av, dt.av]
theorem rbno0 (l : Nat → Body) (j : Joint) (dt : Num) : runRB 0 l j dt = .node (sCheck (0 : Nat) j != 0) (.leaf .nsl) (runRB 0 l j dt).r := by kernel_rfl
theorem rbno1 (l : Nat → Body) (j : Joint) (dt : Num) : runRB 1 l j dt = guards (condsR 1 l) (.node (sCheck (1 : Nat) j != 0) (leafR 1 (lstN 1 l)) (Tree.ls 3 (runRB 1 l j dt)).r) := by kernel_rfl
theorem rbno2 (l : Nat → Body) (j : Joint) (dt : Num) : runRB 2 l j dt = guards (condsR 2 l) (.node (sCheck (2 : Nat) j != 0) (leafR 2 (lstN 2 l)) (Tree.ls 7 (runRB 2 l j dt)).r) := by kernel_rfl
theorem rbno3 (l : Nat → Body) (j : Joint) (dt : Num) : runRB 3 l j dt = guards (condsR 3 l) (.node (sCheck (3 : Nat) j != 0) (leafR 3 (lstN 3 l)) (Tree.ls 11 (runRB 3 l j dt)).r) := by kernel_rfl
theorem rbno4 (l : Nat → Body) (j : Joint) (dt : Num) : runRB 4 l j dt = guards (condsR 4 l) (.node (sCheck (4 : Nat) j != 0) (leafR 4 (lstN 4 l)) (Tree.ls 15 (runRB 4 l j dt)).r) := by kernel_rfl
theorem rbno5 (l : Nat → Body) (j : Joint) (dt : Num) : runRB 5 l j dt = guards (condsR 5 l) (.node (sCheck (5 : Nat) j != 0) (leafR 5 (lstN 5 l)) (Tree.ls 19 (runRB 5 l j dt)).r) := by kernel_rfl
end Go.Flat
end
