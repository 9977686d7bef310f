/- What is proved in the end: SolverHits returns true whatever the input, and its input reads as it did; no condition.
This text: C36, C37, C38, C39, C40, C41, C42, C43, C44. -/
import Derived.Test.YtldnfpgemlgbmaaGreatM7

section
/- Contracts of calls that work on tables of bodies. -/
set_option linter.unusedSimpArgs false
set_option linter.unusedVariables false
namespace Go.Flat
open Go

/-! a table: pointers to bodies -/
def ptrsT (i : Nat) : Nat → List (List AV)
  | 0 => []
  | n + 1 => [.ptr i 27 0 0] :: ptrsT (i + 1) n
def memB (l : List Body) : Mem := l.map fun b => some ⟨.one (rBody.cells b), false⟩
def memT (l : List Body) : Mem := some ⟨.many N.t_pworked 1 false (ptrsT 1 l.length), false⟩ :: memB l
def tblA (n : Nat) : AV := .lsl true 0 N.t_pworked 1 n
def isPtrs : Nat → List (List AV) → Bool
  | _, [] => true
  | i, [.ptr b e 0 0] :: r => Nat.beq b i && (Nat.beq e 27 && isPtrs (i + 1) r)
  | _, _ => false
theorem isPtrs_eq : ∀ {rows : List (List AV)} {i : Nat}, isPtrs i rows = true → rows = ptrsT i rows.length
  | [], i, _ => rfl
  | [.ptr b e 0 0] :: r, i, h => by
    simp only [isPtrs, Bool.and_eq_true] at h
    have h1 := Nat.eq_of_beq_eq_true h.1
    have h2 := Nat.eq_of_beq_eq_true h.2.1
    subst h1 h2
    show _ = _ :: ptrsT _ _
    rw [← isPtrs_eq h.2.2]
  | [] :: r, i, h => by simp [isPtrs] at h
  | (a :: b :: c) :: r, i, h => by cases a <;> simp [isPtrs] at h
  | [.ptr b e (k + 1) o] :: r, i, h => by simp [isPtrs] at h
  | [.ptr b e 0 (o + 1)] :: r, i, h => by simp [isPtrs] at h
  | [.lit v] :: r, i, h => by simp [isPtrs] at h
  | [.kb v] :: r, i, h => by simp [isPtrs] at h
  | [.ki k v] :: r, i, h => by simp [isPtrs] at h
  | [.nsl] :: r, i, h => by simp [isPtrs] at h
  | [.vsl a b c d] :: r, i, h => by simp [isPtrs] at h
  | [.vptr a] :: r, i, h => by simp [isPtrs] at h
  | [.lsl a b c d e] :: r, i, h => by simp [isPtrs] at h
  | [.clo a b] :: r, i, h => by simp [isPtrs] at h
  | [.iface a b] :: r, i, h => by simp [isPtrs] at h
  | [.agg a] :: r, i, h => by simp [isPtrs] at h
  | [.tup a] :: r, i, h => by simp [isPtrs] at h
  | [.undef] :: r, i, h => by simp [isPtrs] at h
def decB : Mem → Option (List Body × List Bool)
  | [] => some ([], [])
  | some ⟨.one cs, false⟩ :: r => (match rBody.dec cs with
    | some (x, g) => (match decB r with
      | some (l, h) => some (x :: l, g ++ h)
      | none => none)
    | none => none)
  | _ => none
theorem decB_ok : ∀ {m : Mem} {l : List Body} {g : List Bool}, decB m = some (l, g) → (∀ c ∈ g, c = true) → l.length = m.length ∧ ∀ (i : Nat) (s' : Slot), (memB l)[i]? = some (some s') → ∃ s : Slot, m[i]? = some (some s) ∧ s'.frozen = s.frozen ∧ BFits s.blk s'.blk
  | [], l, g, h, _ => by simp [decB] at h; obtain ⟨rfl, rfl⟩ := h; exact ⟨rfl, fun i s' h => by simp [memB] at h⟩
  | some ⟨.one cs, false⟩ :: m, l, g, h, hg => by
    simp only [decB] at h
    cases h1 : rBody.dec cs with
    | none => simp [h1] at h
    | some q =>
      obtain ⟨x, g1⟩ := q
      cases h2 : decB m with
      | none => simp [h1, h2] at h
      | some q =>
        obtain ⟨l', g2⟩ := q
        simp [h1, h2] at h
        obtain ⟨rfl, rfl⟩ := h
        obtain ⟨k1, k2⟩ := decB_ok h2 (fun c hc => hg c (by simp [hc]))
        have hfit := rBody.ok _ _ _ h1 (fun c hc => hg c (by simp [hc]))
        refine ⟨by simp [k1], fun i s' hs => ?_⟩
        cases i with
        | zero =>
          have hs : some (some (Slot.mk (.one (rBody.cells x)) false)) = some (some s') := hs
          cases hs
          refine ⟨_, rfl, rfl, ?_⟩
          exact ⟨hfit.1, fun i c c' hc hc' => ⟨(hfit.2 i c c' hc hc').1, (hfit.2 i c c' hc hc').2.1⟩⟩
        | succ i => exact k2 i s' hs
  | some ⟨.one cs, true⟩ :: m, l, g, h, _ => by simp [decB] at h
  | some ⟨.many _ _ _ _, _⟩ :: m, l, g, h, _ => by simp [decB] at h
  | none :: m, l, g, h, _ => by simp [decB] at h

theorem MutOk.fits {P : Program} {f : FuncId} {args args0 : List AV} {mem mem0 mem' : Mem} {r : AV} (h : MutOk P f args0 mem0 r mem') (hl : args0.length = args.length)
    (ha : ∀ (i : Nat) (a a0 : AV), args[i]? = some a → args0[i]? = some a0 → Fits a a0) (hm : MFits mem mem0) : MutOk P f args mem r mem' := fun rf R ρ w vs hms hs hv => by
  have := h rf R ρ w vs (hms.fits hm) (by rw [hs, hl]) (fun i x hx => by
    have hlt : i < args.length := by rw [← hl]; exact (List.getElem?_eq_some_iff.1 hx).1
    exact ha i args[i] x (by simp [hlt]) hx _ _ _ _ (hv i args[i] (by simp [hlt])))
  rw [hm.1] at this
  exact this

def bAt (l : List Body) (i : Nat) : Body := l.getD i rBody.d
/-- a list whose length is seen -/
def shown (n : Nat) (l : List Body) : List Body := (List.range n).map fun i => bAt l i
theorem shown_eq {n : Nat} {l : List Body} (h : l.length = n) : shown n l = l := by
  subst h
  apply List.ext_getElem?
  intro k
  unfold shown
  rw [List.getElem?_map]
  by_cases hk : k < l.length
  · rw [List.getElem?_range hk]; simp [bAt, List.getD, hk]
  · rw [List.getElem?_eq_none (by simp; omega), List.getElem?_eq_none (by omega)]; rfl
/-- a call that changes the bodies of a table of at most so many -/
def mentT {β : Type} (f : FuncId) (N0 : Nat) (D : Dec β) (ok : List Body → β → Bool) (spec : List Body → β → List Body) : Ment := ⟨f, fun args mem => match args, mem with
  | .lsl _ 0 t 1 n :: args, some ⟨.many t' 1 _ rows, false⟩ :: bl =>
    bif Nat.beq t N.t_pworked && (Nat.beq t' N.t_pworked && (isPtrs 1 rows && (Nat.beq rows.length n && (Nat.beq bl.length n && Nat.ble n N0)))) then
      (match decB bl with
      | some (l, g) => (match D.dec args with
        | some (y, h) => some (.tup [], memT (shown l.length (spec l y)), ok l y :: (g ++ h))
        | none => none)
      | none => none) else none
  | _, _ => none⟩
theorem ptrs_noflat (i n : Nat) : ∀ (k : Nat) (c : List AV), (ptrsT i n)[k]? = some c → CFits c c := by
  induction n generalizing i with
  | zero => intro k c h; simp [ptrsT] at h
  | succ n ih =>
    intro k c h
    cases k with
    | zero => simp [ptrsT] at h; subst h; exact CFits.refl rfl
    | succ k => exact ih (i + 1) k c (by simpa [ptrsT] using h)
theorem getSlot_of {m : Mem} {i : Nat} {s : Slot} (h : m[i]? = some (some s)) : getSlot m i = some s := by unfold getSlot; rw [h]
theorem ptrs_len (i n : Nat) : (ptrsT i n).length = n := by
  induction n generalizing i with
  | zero => rfl
  | succ n ih => simp [ptrsT, ih]
theorem mentT_ok {β : Type} {f : FuncId} {N0 : Nat} {D : Dec β} {ok : List Body → β → Bool} {spec : List Body → β → List Body} (hc : Callable N.P f) (hlen : ∀ l y, (spec l y).length = l.length)
    (h : ∀ l y, l.length ≤ N0 → ok l y = true → MutOk N.P f (tblA l.length :: D.enc y) (memT l) (.tup []) (memT (spec l y))) : (mentT f N0 D ok spec).ok N.P := fun args mem v mem' cs hr hg => by
  unfold mentT at hr
  simp only at hr
  split at hr
  · rename_i kn t n args t' fl rows bl
    cases hck : (Nat.beq t N.t_pworked && (Nat.beq t' N.t_pworked && (isPtrs 1 rows && (Nat.beq rows.length n && (Nat.beq bl.length n && Nat.ble n N0))))) with
    | false => simp only [hck, cond_false] at hr; cases hr
    | true =>
      simp only [hck, cond_true] at hr
      simp only [Bool.and_eq_true] at hck
      obtain ⟨q1, q2, q3, q4, q5, q6⟩ := hck
      have q1 := Nat.eq_of_beq_eq_true q1
      have q2 := Nat.eq_of_beq_eq_true q2
      have q3 := isPtrs_eq q3
      have q4 := Nat.eq_of_beq_eq_true q4
      have q5 := Nat.eq_of_beq_eq_true q5
      have q6 := Nat.le_of_ble_eq_true q6
      subst q1 q2
      cases h1 : decB bl with
      | none => simp [h1] at hr
      | some q =>
        obtain ⟨l, g⟩ := q
        cases h2 : D.dec args with
        | none => simp [h1, h2] at hr
        | some q =>
          obtain ⟨y, h'⟩ := q
          simp only [h1, h2, Option.some.injEq, Prod.mk.injEq] at hr
          rw [shown_eq (hlen l y)] at hr
          obtain ⟨rfl, rfl, rfl⟩ := hr
          obtain ⟨k1, k2⟩ := decB_ok h1 (fun c hc => hg c (by simp [hc]))
          obtain ⟨d1, d2⟩ := D.ok _ _ _ h2 (fun c hc => hg c (by simp [hc]))
          have hn : l.length = n := by omega
          have key := h l y (by omega) (hg _ List.mem_cons_self)
          refine ⟨hc, key.fits (by simp [d1]) (fun i a a0 ha ha0 => ?_) ⟨?_, fun b s' hs' => ?_⟩, ?_⟩
          · cases i with
            | zero =>
              simp at ha ha0
              subst ha ha0
              rw [hn]
              intro R ρ w v hv
              cases hv with
              | lsl0 => exact .lsl0
              | lsl h1 h2 h3 h4 h5 => exact .lsl h1 h2 h3 h4 h5
            | succ i => exact d2 i a a0 (by simpa using ha) (by simpa using ha0)
          · simp [memT, memB, k1]
          · have hs' := getSlot_some hs'
            cases b with
            | zero =>
              have hs' : some (some (Slot.mk (.many N.t_pworked 1 false (ptrsT 1 l.length)) false)) = some (some s') := hs'
              cases hs'
              refine ⟨⟨.many N.t_pworked 1 fl rows, false⟩, rfl, rfl, rfl, rfl, ?_, fun i c c' hc hc' => ?_, fun h => by cases h⟩
              · rw [ptrs_len]; omega
              · rw [q3, q4, ← hn] at hc
                rw [hc] at hc'
                cases hc'
                exact ptrs_noflat _ _ i c hc
            | succ b =>
              obtain ⟨s, e1, e2, e3⟩ := k2 b s' hs'
              exact ⟨s, getSlot_of e1, e2, e3⟩
          · simp only [memT, memB, List.length_cons, List.length_map, hlen]
            omega
  · cases hr
end Go.Flat
end

section
/- Two bodies of a table: a call that reads the table alone. -/
set_option linter.unusedSimpArgs false
set_option linter.unusedVariables false
namespace Go.Flat
open Go

theorem all2 {P : Nat → Prop} (h0 : P 0) (h1 : P 1) : ∀ i, i < 2 → P i := fun i hi => by
  rcases i with _ | _ | i
  · exact h0
  · exact h1
  · omega
theorem all3 {P : Nat → Prop} (h0 : P 0) (h1 : P 1) (h2 : P 2) : ∀ i, i < 3 → P i := fun i hi => by
  rcases i with _ | _ | _ | i
  · exact h0
  · exact h1
  · exact h2
  · omega
theorem all4 {P : Nat → Prop} (h0 : P 0) (h1 : P 1) (h2 : P 2) (h3 : P 3) : ∀ i, i < 4 → P i := fun i hi => by
  rcases i with _ | _ | _ | _ | i
  · exact h0
  · exact h1
  · exact h2
  · exact h3
  · omega
theorem all5 {P : Nat → Prop} (h0 : P 0) (h1 : P 1) (h2 : P 2) (h3 : P 3) (h4 : P 4) : ∀ i, i < 5 → P i := fun i hi => by
  rcases i with _ | _ | _ | _ | _ | i
  · exact h0
  · exact h1
  · exact h2
  · exact h3
  · exact h4
  · omega
theorem all7 {P : Nat → Prop} (h0 : P 0) (h1 : P 1) (h2 : P 2) (h3 : P 3) (h4 : P 4) (h5 : P 5) (h6 : P 6) : ∀ i, i < 7 → P i := fun i hi => by
  rcases i with _ | _ | _ | _ | _ | _ | _ | i
  · exact h0
  · exact h1
  · exact h2
  · exact h3
  · exact h4
  · exact h5
  · exact h6
  · omega


def memTwo (n : Nat) : Mem := some ⟨.many N.t_pworked 1 false (ptrsT 1 n), true⟩ :: List.replicate n none
def twoR (p q : Nat) : AV := .tup [.ptr p 27 0 0, .ptr q 27 0 0, .kb true]
noncomputable abbrev Ctwo : Ctx := ctxN N.P [] [] h0 nn
abbrev TwoP (n i j : Nat) : Prop := runM Ctwo 30 N.solver_table_two [tblA n, .ki .i64 i, .ki .i64 j] (memTwo n) = .leaf (twoR (i + 1) (j + 1), memTwo n)
theorem two_2 : ∀ i, i < 2 → ∀ j, j < 2 → i ≠ j → TwoP 2 i j :=
  all2 (all2 (fun h => absurd rfl h)
    (fun _ => by unfold TwoP; kernel_rfl))
   (all2 (fun _ => by unfold TwoP; kernel_rfl)
    (fun h => absurd rfl h))
theorem two_3 : ∀ i, i < 3 → ∀ j, j < 3 → i ≠ j → TwoP 3 i j :=
  all3 (all3 (fun h => absurd rfl h)
    (fun _ => by unfold TwoP; kernel_rfl)
    (fun _ => by unfold TwoP; kernel_rfl))
   (all3 (fun _ => by unfold TwoP; kernel_rfl)
    (fun h => absurd rfl h)
    (fun _ => by unfold TwoP; kernel_rfl))
   (all3 (fun _ => by unfold TwoP; kernel_rfl)
    (fun _ => by unfold TwoP; kernel_rfl)
    (fun h => absurd rfl h))
theorem two_4 : ∀ i, i < 4 → ∀ j, j < 4 → i ≠ j → TwoP 4 i j :=
  all4 (all4 (fun h => absurd rfl h)
    (fun _ => by unfold TwoP; kernel_rfl)
    (fun _ => by unfold TwoP; kernel_rfl)
    (fun _ => by unfold TwoP; kernel_rfl))
   (all4 (fun _ => by unfold TwoP; kernel_rfl)
    (fun h => absurd rfl h)
    (fun _ => by unfold TwoP; kernel_rfl)
    (fun _ => by unfold TwoP; kernel_rfl))
   (all4 (fun _ => by unfold TwoP; kernel_rfl)
    (fun _ => by unfold TwoP; kernel_rfl)
    (fun h => absurd rfl h)
    (fun _ => by unfold TwoP; kernel_rfl))
   (all4 (fun _ => by unfold TwoP; kernel_rfl)
    (fun _ => by unfold TwoP; kernel_rfl)
    (fun _ => by unfold TwoP; kernel_rfl)
    (fun h => absurd rfl h))
theorem two_5 : ∀ i, i < 5 → ∀ j, j < 5 → i ≠ j → TwoP 5 i j :=
  all5 (all5 (fun h => absurd rfl h)
    (fun _ => by unfold TwoP; kernel_rfl)
    (fun _ => by unfold TwoP; kernel_rfl)
    (fun _ => by unfold TwoP; kernel_rfl)
    (fun _ => by unfold TwoP; kernel_rfl))
   (all5 (fun _ => by unfold TwoP; kernel_rfl)
    (fun h => absurd rfl h)
    (fun _ => by unfold TwoP; kernel_rfl)
    (fun _ => by unfold TwoP; kernel_rfl)
    (fun _ => by unfold TwoP; kernel_rfl))
   (all5 (fun _ => by unfold TwoP; kernel_rfl)
    (fun _ => by unfold TwoP; kernel_rfl)
    (fun h => absurd rfl h)
    (fun _ => by unfold TwoP; kernel_rfl)
    (fun _ => by unfold TwoP; kernel_rfl))
   (all5 (fun _ => by unfold TwoP; kernel_rfl)
    (fun _ => by unfold TwoP; kernel_rfl)
    (fun _ => by unfold TwoP; kernel_rfl)
    (fun h => absurd rfl h)
    (fun _ => by unfold TwoP; kernel_rfl))
   (all5 (fun _ => by unfold TwoP; kernel_rfl)
    (fun _ => by unfold TwoP; kernel_rfl)
    (fun _ => by unfold TwoP; kernel_rfl)
    (fun _ => by unfold TwoP; kernel_rfl)
    (fun h => absurd rfl h))
end Go.Flat
end

section
/- Contract: two bodies of a table, by a condition on its rows. -/
set_option linter.unusedSimpArgs false
set_option linter.unusedVariables false
namespace Go.Flat
open Go

def rowB (rows : List (List AV)) (i : Nat) : Nat := match rows[i]? with
  | some [.ptr b _ _ _] => b
  | _ => 0
def isP (r : List AV) : Bool := match r with
  | [.ptr _ e 0 0] => Nat.beq e 27
  | _ => false
def twoOk (n : Nat) (rows : List (List AV)) (A B : Int) (p q : Nat) : Bool :=
  Nat.ble n 5 && (Nat.beq rows.length n && (rows.all isP && (decide (0 ≤ A) && (decide (A < n) && (decide (0 ≤ B) && (decide (B < n) && (A != B && (Nat.beq (rowB rows A.toNat) p && Nat.beq (rowB rows B.toNat) q))))))))
def rTwo (p q : Nat) : Rent := ⟨N.solver_table_two, fun args => match args with
  | [.lsl _ b t 1 n, a, a'] => ([b], fun ss => match ss with
    | [some ⟨.many t' 1 _ rows, _⟩] => bif Nat.beq t N.t_pworked && Nat.beq t' N.t_pworked then (match int? .i64 a with
      | some A => (match int? .i64 a' with
        | some B => some (twoR p q, [twoOk n rows A B p q])
        | none => none)
      | none => none) else none
    | _ => none)
  | _ => ([], fun _ => none)⟩
theorem isP_row {r : List AV} (h : isP r = true) : ∃ b, r = [.ptr b 27 0 0] := by
  unfold isP at h
  split at h
  · rename_i b e
    have := Nat.eq_of_beq_eq_true h
    subst this
    exact ⟨b, rfl⟩
  · cases h
theorem ptrs_get (i n k : Nat) : (ptrsT i n)[k]? = if k < n then some [.ptr (i + k) 27 0 0] else none := by
  induction n generalizing i k with
  | zero => simp [ptrsT]
  | succ n ih =>
    cases k with
    | zero => simp [ptrsT]
    | succ k =>
      simp only [ptrsT, List.getElem?_cons_succ, ih]
      by_cases h : k < n
      · simp [h]; omega
      · simp [h]
theorem two_tree {n i j : Nat} (hn : n ≤ 5) (hi : i < n) (hj : j < n) (hij : i ≠ j) : TwoP n i j := by
  rcases n with _ | _ | _ | _ | _ | _ | n
  · omega
  · omega
  · exact two_2 i hi j hj hij
  · exact two_3 i hi j hj hij
  · exact two_4 i hi j hj hij
  · exact two_5 i hi j hj hij
  · omega
theorem mut_two {n i j : Nat} (hn : n ≤ 5) (hi : i < n) (hj : j < n) (hij : i ≠ j) : Callable N.P N.solver_table_two ∧ MutOk N.P N.solver_table_two [tblA n, .ki .i64 i, .ki .i64 j] (memTwo n) (twoR (i + 1) (j + 1)) (memTwo n) := by
  exact mut_of_leaf all_nil mall_nil named mixed 30 N.solver_table_two _ _ _ _ (two_tree hn hi hj hij)
theorem slot_two {n k : Nat} {s : Slot} (h : getSlot (memTwo n) k = some s) : k = 0 ∧ s = ⟨.many N.t_pworked 1 false (ptrsT 1 n), true⟩ := by
  have h := getSlot_some h
  cases k with
  | zero =>
    have h : some (some (Slot.mk (.many N.t_pworked 1 false (ptrsT 1 n)) true)) = some (some s) := h
    cases h
    exact ⟨rfl, rfl⟩
  | succ k =>
    have h : (List.replicate n (none : Option Slot))[k]? = some (some s) := h
    rw [List.getElem?_replicate] at h
    split at h <;> simp at h
theorem two_read (p q : Nat) : ReadOk N.P (rTwo p q).f (rTwo p q).run := fun args mem r cs hr hc => by
  simp only [rTwo] at hr
  split at hr
  · rename_i kn b t n a a'
    simp only [List.map_cons, List.map_nil] at hr
    split at hr
    · rename_i t' fl rows fr hss
      cases hck : (Nat.beq t N.t_pworked && Nat.beq t' N.t_pworked) with
      | false => simp only [hck, cond_false] at hr; cases hr
      | true =>
        simp only [hck, cond_true] at hr
        simp only [Bool.and_eq_true] at hck
        have ht := Nat.eq_of_beq_eq_true hck.1
        have ht' := Nat.eq_of_beq_eq_true hck.2
        subst ht ht'
        cases hA : int? .i64 a with
        | none => simp [hA] at hr
        | some A =>
          cases hB : int? .i64 a' with
          | none => simp [hA, hB] at hr
          | some B =>
            simp only [hA, hB, Option.some.injEq, Prod.mk.injEq] at hr
            obtain ⟨rfl, rfl⟩ := hr
            have hok := hc _ List.mem_cons_self
            simp only [twoOk, Bool.and_eq_true, decide_eq_true_eq, bne_iff_ne] at hok
            obtain ⟨o1, o2, o3, o4, o5, o6, o7, o8, o9, o10⟩ := hok
            have o1 := Nat.le_of_ble_eq_true o1
            have o2 := Nat.eq_of_beq_eq_true o2
            have o9 := Nat.eq_of_beq_eq_true o9
            have o10 := Nat.eq_of_beq_eq_true o10
            have hi : A.toNat < n := by omega
            have hj : B.toNat < n := by omega
            have hij : A.toNat ≠ B.toNat := by omega
            have eA : ((A.toNat : Nat) : Int) = A := by omega
            have eB : ((B.toNat : Nat) : Int) = B := by omega
            obtain ⟨hcal, hmut⟩ := mut_two o1 hi hj hij
            refine ⟨hcal, fun rf R ρ w vs hm hl hv => ?_⟩
            have hs : getSlot mem b = some ⟨.many N.t_pworked 1 fl rows, fr⟩ := by simpa using hss
            rcases hm.blk b _ hs with ⟨xt, hxt, hBR⟩ | ⟨_, he⟩
            rotate_left
            · have : rows = [] := he
              subst this
              simp at o2; omega
            have hrow : ∀ k, k < n → rows[k]? = some [.ptr (rowB rows k) 27 0 0] := fun k hk => by
              have hlt : k < rows.length := by omega
              have h1 : rows[k]? = some rows[k] := by simp [hlt]
              obtain ⟨b', hb'⟩ := isP_row (all_getL o3 h1)
              rw [h1, hb']
              have : rowB rows k = b' := by unfold rowB; rw [h1, hb']
              rw [this]
            let ρ0 : Loc := fun k => match k with
              | 0 => some xt
              | k + 1 => if k < n then ρ (rowB rows k) else none
            have hlenT : (memTwo n).length = n + 1 := by simp [memTwo]
            have hms0 : MS ⟨w, ρ0, fun x => R x ∨ x = xt, fun x => x < w.heap.size ∧ x ≠ xt, n + 1⟩ (fun x => R x ∨ x = xt) ρ0 (memTwo n) w :=
              { blk := fun k s hk => by
                  obtain ⟨rfl, rfl⟩ := slot_two hk
                  refine .inl ⟨xt, rfl, ?_⟩
                  obtain ⟨c, h1, h2, h3, h4, h5⟩ := hBR
                  refine ⟨c, h1, h2, by rw [ptrs_len]; rw [o2] at h3; exact h3, fun r row hr => ?_, fun h => by cases h⟩
                  rw [ptrs_get] at hr
                  split at hr
                  · rename_i hrn
                    cases hr
                    obtain ⟨j1, j2⟩ := h4 r _ (hrow r hrn)
                    refine ⟨rfl, fun j a0 ha => ?_⟩
                    cases j with
                    | succ j => simp at ha
                    | zero =>
                      simp at ha
                      subst ha
                      obtain ⟨k1, v, k2, k3⟩ := j2 0 _ rfl
                      refine ⟨rfl, v, k2, ?_⟩
                      cases k3 with
                      | ptr h =>
                        refine .ptr ?_
                        show ρ0 (1 + r) = _
                        rw [Nat.add_comm]
                        show (if r < n then ρ (rowB rows r) else none) = _
                        rw [if_pos hrn]; exact h
                  · cases hr
                dom := fun k x hk => by
                  rw [hlenT]
                  cases k with
                  | zero => omega
                  | succ k =>
                    have hk : (if k < n then ρ (rowB rows k) else none) = some x := hk
                    split at hk
                    · omega
                    · cases hk
                inj := fun k k' x s s' h1 h2 _ _ => by rw [(slot_two h1).1, (slot_two h2).1]
                lt := fun k x hk => by
                  cases k with
                  | zero => cases hk; exact hm.lt b xt hxt
                  | succ k =>
                    have hk : (if k < n then ρ (rowB rows k) else none) = some x := hk
                    split at hk
                    · exact hm.lt _ x hk
                    · cases hk
                nold := fun k x s h1 hk ho => by
                  obtain ⟨rfl, _⟩ := slot_two h1
                  cases hk
                  exact ho.2 rfl
                oldk := fun x _ => rfl
                oldlt := fun x hx => hx.1
                nR := fun k x s h1 hf hk => by
                  obtain ⟨_, rfl⟩ := slot_two h1
                  cases hf
                Rlt := fun x hx => by
                  rcases hx with hx | rfl
                  · exact hm.Rlt x hx
                  · exact hm.lt b x hxt
                R0 := fun x hx => hx
                Rn := fun x hx => .inl hx
                R0k := fun x _ => rfl
                ρ0 := fun _ _ => rfl
                szk := .refl w
                size := Nat.le_refl _
                base := by rw [hlenT]; exact Nat.le_refl _ }
            refine (hmut _ _ ρ0 w vs hms0 (by rw [hl]; rfl) (fun i x hi => ?_)).mono fun e w' h' => ?_
            · have h0 := hv 0 _ rfl
              have h1 := hv 1 _ rfl
              have h2 := hv 2 _ rfl
              rcases i with _ | _ | _ | i
              · cases hi
                revert h0
                generalize vs.getD 0 undef = v0
                intro h0
                cases h0 with
                | lsl0 => omega
                | lsl k1 k2 k3 k4 k5 =>
                  rw [hxt] at k1; cases k1
                  exact .lsl rfl k2 k3 k4 k5
              · cases hi
                have := int?_ok hA _ _ _ _ h1
                revert this
                generalize vs.getD 1 undef = v1
                intro this
                cases this with
                | lit h => rw [eA]; exact .ki h
              · cases hi
                have := int?_ok hB _ _ _ _ h2
                revert this
                generalize vs.getD 2 undef = v2
                intro this
                cases this with
                | lit h => rw [eB]; exact .ki h
              · cases hi
            · obtain ⟨v, R', ρ', e1, m1, pb, v1⟩ := h'
              refine ⟨v, e1, fun x hx => ?_, ⟨m1.size, pb.hs.1⟩, ?_⟩
              · by_cases hxx : x = xt
                · exact pb.hk x (.inr hxx)
                · exact m1.oldk x ⟨hx, hxx⟩
              · have hback : ∀ k x, k < n → ρ' (k + 1) = some x → ρ (rowB rows k) = some x := fun k x hk hx => by
                  rw [pb.hρ (k + 1) (by rw [hlenT]; omega)] at hx
                  have hx : (if k < n then ρ (rowB rows k) else none) = some x := hx
                  rw [if_pos hk] at hx; exact hx
                cases v1 with
                | tup us g1 g2 =>
                  refine .tup us g1 (fun i c hi' => ?_)
                  rcases i with _ | _ | _ | i
                  · cases hi'
                    have h := g2 0 _ rfl
                    revert h
                    generalize us.getD 0 undef = u
                    intro h
                    cases h with
                    | ptr h => exact .ptr (by rw [← o9]; exact hback _ _ hi h)
                  · cases hi'
                    have h := g2 1 _ rfl
                    revert h
                    generalize us.getD 1 undef = u
                    intro h
                    cases h with
                    | ptr h => exact .ptr (by rw [← o10]; exact hback _ _ hj h)
                  · cases hi'
                    have h := g2 2 _ rfl
                    revert h
                    generalize us.getD 2 undef = u
                    intro h
                    cases h with
                    | kb => exact .kb
                  · cases hi'
    · cases hr
  · simp at hr
end Go.Flat
end

section
/- Contracts: moving the bodies of a contact apart, over a table. -/
set_option linter.unusedSimpArgs false
set_option linter.unusedVariables false
namespace Go.Flat
open Go

/-- a contact whose number of touches is known -/
def conL (c : Contact) (k : Nat) : List AV := li c.A :: li c.B :: li c.M.N.X.V :: lb c.M.N.X.F :: li c.M.N.Y.V :: lb c.M.N.Y.F :: .vsl true 6 k (fun i => rTouch.cells (c.M.L.at' i)) :: (rContact.cells c).drop 7
/-- a table of which two bodies are known -/
def memP (rows : List (List AV)) (a b : Body) : Mem := [some ⟨.many N.t_pworked 1 false rows, false⟩, some ⟨.one (rBody.cells a), false⟩, some ⟨.one (rBody.cells b), false⟩, none, none, none, none, none]

/-! how far two bodies go apart -/
def deepOf (c : Contact) (k : Nat) : Num := match k with
  | 0 => zNum
  | 1 => nMax [(c.M.L.at' 0).Depth, (c.M.L.at' 0).Depth]
  | _ => nMax [nMax [(c.M.L.at' 0).Depth, (c.M.L.at' 0).Depth], (c.M.L.at' 1).Depth]
def apK (a b : Body) (d : Num) : Num := nDiv (nMul (nMax [zNum, nSub d (nRatio 1 64)]) (nRatio 1 5)) (nAdd a.Wt.M b.Wt.M)
def apA (a b : Body) (n : Vec) (d : Num) : Body := sShift a (vSub a.Pos.At (vScale n (nMul (apK a b d) a.Wt.M)))
def apB (a b : Body) (n : Vec) (d : Num) : Body := sShift b (vAdd [b.Pos.At, vScale n (nMul (apK a b d) b.Wt.M)])
def okRows (rows : List (List AV)) : Bool := rows.all fun r => r.all (locBelow 8)
def leafP (rows : List (List AV)) (a b : Body) : Tree (AV × Mem) := .node ((okRows rows && true) ) (.leaf (.tup [], memP rows a b)) (.fail 9)
def partTree (n : Nat) (rows : List (List AV)) (a b : Body) (c : Contact) (k : Nat) : Tree (AV × Mem) := gd (twoOk n rows c.A c.B 1 2) (match k with
  | 0 => leafP rows a b
  | k + 1 => .node ((nAdd a.Wt.M b.Wt.M).V == 0) (leafP rows a b) (gd (okS a.Shp.Pts) (gd (okS b.Shp.Pts)
      (leafP rows (apA a b c.M.N (deepOf c (k + 1))) (apB a b c.M.N (deepOf c (k + 1)))))))
def t_part : List Ent := [e_Max, e_Add, e_Sub, e_Ratio, e_Mul, e_Div, e_PScale, e_PSub, e_PAdd]
theorem ok_part : ∀ e ∈ t_part, e.ok N.P := all_cons o_Max (all_cons o_Add (all_cons o_Sub (all_cons o_Ratio (all_cons o_Mul (all_cons o_Div (all_cons o_PScale (all_cons o_PSub (all_cons o_PAdd all_nil))))))))
noncomputable abbrev Cpart : Ctx := ctxL N.P t_part [] [m_shift] [rTwo 1 2] h0 nn
theorem part_run (n : Nat) (rows : List (List AV)) (a b : Body) (c : Contact) : ∀ k, k < 7 → runC Cpart 60 N.solver_table_part [tblA n, .agg (conL c k)] (memP rows a b) = partTree n rows a b c k :=
  all7 (by kernel_rfl) (by kernel_rfl) (by kernel_rfl) (by kernel_rfl) (by kernel_rfl) (by kernel_rfl) (by kernel_rfl)
end Go.Flat
end

section
/- Contract: two bodies of a table that are not there. -/
set_option linter.unusedSimpArgs false
set_option linter.unusedVariables false
namespace Go.Flat
open Go

def noR : AV := .tup [.lit (.pointer none), .lit (.pointer none), .kb false]
def notOk (n : Nat) (A B : Int) : Bool := decide ((if B < A then B else A) < 0) || (decide ((if B > A then B else A) ≥ (n : Int)) || A == B)
def leafNo : Tree (AV × Mem) := .node (locsBelow 1 noR && ([none] : Mem).all (slotBelow 1)) (.leaf (noR, [none])) (.fail 9)
theorem no_tree (n : Nat) (A B : Int) : runC Ctwo 30 N.solver_table_two [.lsl false 0 N.t_pworked 1 n, li A, li B] [none] =
    .node (decide ((if B < A then B else A) < 0)) leafNo (.node (decide ((if B > A then B else A) ≥ (n : Int))) leafNo (.node (A == B) leafNo (runC Ctwo 30 N.solver_table_two [.lsl false 0 N.t_pworked 1 n, li A, li B] [none]).r.r.r)) := by kernel_rfl
theorem mut_no {n : Nat} {A B : Int} (h : notOk n A B = true) : Callable N.P N.solver_table_two ∧ MutOk N.P N.solver_table_two [.lsl false 0 N.t_pworked 1 n, li A, li B] [none] noR [none] := by
  refine mut_of_treeC (P := N.P) (t := []) (m := []) (l := []) (rs := []) (hints := h0) (nils := nn) all_nil mall_nil mall_nil rall_nil named mixed 30 N.solver_table_two _ _ _ _ _ (no_tree n A B) ?_
  have lf : leafNo.holds (· = (noR, [none])) := holds_yes (by decide) rfl
  unfold notOk at h
  refine ⟨fun _ => lf, fun h1 => ⟨fun _ => lf, fun h2 => ⟨fun _ => lf, fun h3 => ?_⟩⟩⟩
  rw [h1, h2, h3] at h
  cases h
def rNo : Rent := ⟨N.solver_table_two, fun args => match args with
  | [.lsl _ _ t 1 n, a, a'] => ([], fun _ => bif Nat.beq t N.t_pworked then (match int? .i64 a with
    | some A => (match int? .i64 a' with
      | some B => some (noR, [notOk n A B])
      | none => none)
    | none => none) else none)
  | _ => ([], fun _ => none)⟩
theorem no_read : ReadOk N.P rNo.f rNo.run := fun args mem r cs hr hc => by
  simp only [rNo] at hr
  split at hr
  · rename_i kn b t n a a'
    cases hck : Nat.beq t N.t_pworked with
    | false => simp only [hck, cond_false] at hr; cases hr
    | true =>
      simp only [hck, cond_true] at hr
      have ht := Nat.eq_of_beq_eq_true hck
      subst ht
      cases hA : int? .i64 a with
      | none => simp [hA] at hr
      | some A =>
        cases hB : int? .i64 a' with
        | none => simp [hA, hB] at hr
        | some B =>
          simp only [hA, hB, Option.some.injEq, Prod.mk.injEq] at hr
          obtain ⟨rfl, rfl⟩ := hr
          have hok := hc _ List.mem_cons_self
          obtain ⟨hcal, hmut⟩ := mut_no hok
          refine ⟨hcal, fun rf R ρ w vs hm hl hv => ?_⟩
          let ρ0 : Loc := fun k => match k with
            | 0 => ρ b
            | _ => none
          have hms0 : MS ⟨w, ρ0, R, fun x => x < w.heap.size, 1⟩ R ρ0 [none] w :=
            { blk := fun k s hk => by
                have h := getSlot_some hk
                cases k with
                | zero => cases h
                | succ k => cases h
              dom := fun k x hk => by
                cases k with
                | zero => exact Nat.zero_lt_one
                | succ k => cases hk
              inj := fun k k' x s s' h1 => by
                have h := getSlot_some h1
                cases k <;> cases h
              lt := fun k x hk => by
                cases k with
                | zero => exact hm.lt b x hk
                | succ k => cases hk
              nold := fun k x s h1 => by
                have h := getSlot_some h1
                cases k <;> cases h
              oldk := fun x _ => rfl
              oldlt := fun x hx => hx
              nR := fun k x s h1 => by
                have h := getSlot_some h1
                cases k <;> cases h
              Rlt := hm.Rlt
              R0 := fun x hx => hx
              Rn := fun x hx => .inl hx
              R0k := fun x _ => rfl
              ρ0 := fun _ _ => rfl
              szk := .refl w
              size := Nat.le_refl _
              base := Nat.le_refl _ }
          refine (hmut _ _ ρ0 w vs hms0 (by rw [hl]; rfl) (fun i x hi => ?_)).mono fun e w' h' => ?_
          · have h0 := hv 0 _ rfl
            have h1 := hv 1 _ rfl
            have h2 := hv 2 _ rfl
            rcases i with _ | _ | _ | i
            · cases hi
              revert h0
              generalize vs.getD 0 undef = v0
              intro h0
              cases h0 with
              | lsl0 => exact .lsl0
              | lsl k1 k2 k3 k4 k5 => exact .lsl k1 k2 k3 k4 k5
            · cases hi
              have := int?_ok hA _ _ _ _ h1
              exact this.anyLoc rfl
            · cases hi
              have := int?_ok hB _ _ _ _ h2
              exact this.anyLoc rfl
            · cases hi
          · obtain ⟨v, R', ρ', e1, m1, pb, v1⟩ := h'
            refine ⟨v, e1, fun x hx => m1.oldk x hx, ⟨m1.size, pb.hs.1⟩, ?_⟩
            cases v1 with
            | tup us g1 g2 =>
              refine .tup us g1 (fun i c hi' => ?_)
              rcases i with _ | _ | _ | i
              · cases hi'
                have h := g2 0 _ rfl
                revert h
                generalize us.getD 0 undef = u
                intro h
                cases h with
                | lit h => exact .lit h
              · cases hi'
                have h := g2 1 _ rfl
                revert h
                generalize us.getD 1 undef = u
                intro h
                cases h with
                | lit h => exact .lit h
              · cases hi'
                have h := g2 2 _ rfl
                revert h
                generalize us.getD 2 undef = u
                intro h
                cases h with
                | kb => exact .kb
              · cases hi'
  · simp at hr
/-- a call over a table whose two bodies are not there -/
noncomputable abbrev Cpart0 : Ctx := ctxL N.P t_part [] [m_shift] [rNo] h0 nn
def memN (rows : List (List AV)) : Mem := [some ⟨.many N.t_pworked 1 false rows, false⟩, none, none, none, none, none, none, none]
theorem part_no (n : Nat) (rows : List (List AV)) (c : Contact) : runC Cpart0 60 N.solver_table_part [tblA n, c.av] (memN rows) = gd (notOk n c.A c.B) (.node (okRows rows && true) (.leaf (.tup [], memN rows)) (.fail 9)) := by kernel_rfl
end Go.Flat
end

section
/- From two bodies of a table to the whole table. -/
set_option linter.unusedSimpArgs false
set_option linter.unusedVariables false
namespace Go.Flat
open Go

def rowsP (n i j : Nat) : List (List AV) := (List.range n).map fun r => [.ptr (if r = i then 1 else if r = j then 2 else 3 + r) 27 0 0]
def sgP (i j : Nat) : Nat → Nat
  | 0 => 0
  | 1 => i + 1
  | 2 => j + 1
  | k + 3 => k + 1
theorem memP_slot {rows : List (List AV)} {a b : Body} {k : Nat} {s : Slot} (h : getSlot (memP rows a b) k = some s) :
    (k = 0 ∧ s = ⟨.many N.t_pworked 1 false rows, false⟩) ∨ (k = 1 ∧ s = ⟨.one (rBody.cells a), false⟩) ∨ (k = 2 ∧ s = ⟨.one (rBody.cells b), false⟩) := by
  have h := getSlot_some h
  rcases k with _ | _ | _ | _ | _ | _ | _ | _ | k
  · cases h; exact .inl ⟨rfl, rfl⟩
  · cases h; exact .inr (.inl ⟨rfl, rfl⟩)
  · cases h; exact .inr (.inr ⟨rfl, rfl⟩)
  all_goals cases h
theorem rng_get (n k : Nat) : (List.range n)[k]? = if k < n then some k else none := by
  by_cases h : k < n
  · rw [if_pos h, List.getElem?_range h]
  · rw [if_neg h, List.getElem?_eq_none]; simp; omega
theorem rowsP_ren (n i j : Nat) (hij : i ≠ j) : (rowsP n i j).map (fun r => r.map (renL (sgP i j))) = ptrsT 1 n := by
  apply List.ext_getElem?
  intro k
  rw [ptrs_get, List.getElem?_map, rowsP, List.getElem?_map, rng_get]
  by_cases hk : k < n
  · simp only [hk, if_true, Option.map_some]
    by_cases h1 : k = i
    · subst h1; simp [renL, sgP]; omega
    · by_cases h2 : k = j
      · subst h2; simp [renL, sgP, h1]; omega
      · have e : 3 + k = k + 3 := by omega
        simp only [h1, h2, if_false, e, List.map_cons, List.map_nil, renL, sgP]
        rw [Nat.add_comm]
  · simp [hk]
theorem rowsP_below (n i j : Nat) (hn : n ≤ 5) : okRows (rowsP n i j) = true := by
  unfold okRows
  rw [List.all_eq_true]
  intro r hr
  obtain ⟨k, hk, rfl⟩ := List.mem_map.1 hr
  have hk := List.mem_range.1 hk
  simp only [List.all_cons, List.all_nil, Bool.and_true, locBelow, Nat.blt_eq]
  split
  · omega
  · split <;> omega
theorem memB_get (l : List Body) (k : Nat) : (memB l)[k]? = (l[k]?).map fun b => some ⟨.one (rBody.cells b), false⟩ := by simp [memB]
theorem memT_slot {l : List Body} {k : Nat} (h : k < l.length) : getSlot (memT l) (k + 1) = some ⟨.one (rBody.cells (bAt l k)), false⟩ := by
  apply getSlot_of
  show (memB l)[k]? = _
  rw [memB_get]
  simp [bAt, List.getD, h]
theorem setAB_get {l : List Body} {i j : Nat} {a b : Body} (k : Nat) (hi : i < l.length) (hj : j < l.length) (hij : i ≠ j) :
    ((l.set i a).set j b)[k]? = if k = j then some b else if k = i then some a else l[k]? := by
  rw [List.getElem?_set, List.length_set, List.getElem?_set]
  by_cases h1 : k = j
  · subst h1; simp [hj]
  · rw [if_neg (fun e => h1 e.symm), if_neg h1]
    by_cases h2 : k = i
    · subst h2; simp [hi]
    · rw [if_neg (fun e => h2 e.symm), if_neg h2]
theorem table_frame {f : FuncId} {args args0 : List AV} (l : List Body) (i j : Nat) (a' b' : Body) (hn : l.length ≤ 5) (hi : i < l.length) (hj : j < l.length) (hij : i ≠ j)
    (hal : args0.length = args.length) (ha : ∀ (k : Nat) (a a0 : AV), args[k]? = some a → args0[k]? = some a0 → Fits a a0 ∧ okArg 0 a0 = true)
    (h : MutOk N.P f (tblA l.length :: args0) (memP (rowsP l.length i j) (bAt l i) (bAt l j)) (.tup []) (memP (rowsP l.length i j) a' b')) :
    MutOk N.P f (tblA l.length :: args) (memT l) (.tup []) (memT ((l.set i a').set j b')) := by
  have hrow : Slot.mk (.many N.t_pworked 1 false (ptrsT 1 l.length)) false = renSlot (sgP i j) ⟨.many N.t_pworked 1 false (rowsP l.length i j), false⟩ := by
    show _ = Slot.mk (.many _ _ false ((rowsP l.length i j).map fun r => r.map (renL (sgP i j)))) false
    rw [rowsP_ren _ _ _ hij]
  have hcell : ∀ b : Body, renSlot (sgP i j) ⟨.one (rBody.cells b), false⟩ = ⟨.one (rBody.cells b), false⟩ := fun b => by
    show Slot.mk (.one ((rBody.cells b).map _)) false = _
    rw [ren_cells (body_cells b)]
  have hsb : slotBelow 8 (some ⟨.many N.t_pworked 1 false (rowsP l.length i j), false⟩) = true := rowsP_below _ _ _ hn
  refine MutOk.frame3 h (sgP i j) rfl rfl (fun k k' s s' h1 h2 h3 => ?_) (fun k s0 h0 => ?_) (by simp [hal]) (fun k a a0 hk hk0 => ?_) (fun b s' hs' => ?_) ?_
  · rcases memP_slot h1 with ⟨rfl, _⟩ | ⟨rfl, _⟩ | ⟨rfl, _⟩ <;> rcases memP_slot h2 with ⟨rfl, _⟩ | ⟨rfl, _⟩ | ⟨rfl, _⟩ <;> simp [sgP] at h3 ⊢ <;> omega
  · rcases memP_slot h0 with ⟨rfl, rfl⟩ | ⟨rfl, rfl⟩ | ⟨rfl, rfl⟩
    · refine ⟨⟨.many N.t_pworked 1 false (ptrsT 1 l.length), false⟩, rfl, rfl, ?_, hsb⟩
      have e : renBlk (sgP i j) (.many N.t_pworked 1 false (rowsP l.length i j)) = .many N.t_pworked 1 false (ptrsT 1 l.length) := by
        have := congrArg Slot.blk hrow
        exact this.symm
      rw [e]
      exact ⟨rfl, rfl, rfl, fun k c c' hc hc' => by rw [hc] at hc'; cases hc'; exact ptrs_noflat _ _ k c hc, fun h => by cases h⟩
    · refine ⟨_, memT_slot hi, rfl, ?_, below_cells (body_cells _)⟩
      show BFits _ (.one ((rBody.cells _).map _))
      rw [ren_cells (body_cells _)]
      exact CFits.refl rfl
    · refine ⟨_, memT_slot hj, rfl, ?_, below_cells (body_cells _)⟩
      show BFits _ (.one ((rBody.cells _).map _))
      rw [ren_cells (body_cells _)]
      exact CFits.refl rfl
  · cases k with
    | zero =>
      cases hk; cases hk0
      exact ⟨Fits.refl _, rfl⟩
    | succ k =>
      obtain ⟨k1, k2⟩ := ha k a a0 (by simpa using hk) (by simpa using hk0)
      obtain ⟨k3, k4⟩ := okArg_mono (k := 8) k2
      exact ⟨by rw [k4]; exact k1, k3⟩
  · have hs0 := getSlot_some hs'
    cases b with
    | zero =>
      have hs0 : some (some (Slot.mk (.many N.t_pworked 1 false (ptrsT 1 ((l.set i a').set j b').length)) false)) = some (some s') := hs0
      rw [List.length_set, List.length_set, hrow] at hs0
      cases hs0
      exact .inl ⟨0, _, _, rfl, rfl, rfl, rfl, hsb⟩
    | succ b =>
      have hs0 : (memB ((l.set i a').set j b'))[b]? = some (some s') := hs0
      rw [memB_get, setAB_get b hi hj hij] at hs0
      by_cases h1 : b = j
      · subst h1
        simp at hs0
        refine .inl ⟨2, _, _, rfl, rfl, rfl, ?_, below_cells (body_cells b')⟩
        rw [hcell]; exact hs0.symm
      · by_cases h2 : b = i
        · subst h2
          simp [h1] at hs0
          refine .inl ⟨1, _, _, rfl, rfl, rfl, ?_, below_cells (body_cells a')⟩
          rw [hcell]; exact hs0.symm
        · rw [if_neg h1, if_neg h2] at hs0
          refine .inr ⟨fun k s0 hk => ?_, ?_⟩
          · rcases memP_slot hk with ⟨rfl, _⟩ | ⟨rfl, _⟩ | ⟨rfl, _⟩ <;> simp [sgP] <;> omega
          · apply getSlot_of
            show (memB l)[b]? = _
            rw [memB_get]; exact hs0
  · simp [memT, memB]
end Go.Flat
end

section
/- Contract: moving the bodies of a contact apart, over a whole table. -/
set_option linter.unusedSimpArgs false
set_option linter.unusedVariables false
namespace Go.Flat
open Go

theorem memN_slot {rows : List (List AV)} {k : Nat} {s : Slot} (h : getSlot (memN rows) k = some s) : k = 0 ∧ s = ⟨.many N.t_pworked 1 false rows, false⟩ := by
  have h := getSlot_some h
  rcases k with _ | _ | _ | _ | _ | _ | _ | _ | k
  · cases h; exact ⟨rfl, rfl⟩
  all_goals cases h
def rowsN (n : Nat) : List (List AV) := rowsP n n (n + 1)
theorem table_frame0 {f : FuncId} {args args0 : List AV} (l : List Body) (hn : l.length ≤ 5)
    (hal : args0.length = args.length) (ha : ∀ (k : Nat) (a a0 : AV), args[k]? = some a → args0[k]? = some a0 → Fits a a0 ∧ okArg 0 a0 = true)
    (h : MutOk N.P f (tblA l.length :: args0) (memN (rowsN l.length)) (.tup []) (memN (rowsN l.length))) :
    MutOk N.P f (tblA l.length :: args) (memT l) (.tup []) (memT l) := by
  have hrow : Slot.mk (.many N.t_pworked 1 false (ptrsT 1 l.length)) false = renSlot (sgP l.length (l.length + 1)) ⟨.many N.t_pworked 1 false (rowsN l.length), false⟩ := by
    show _ = Slot.mk (.many _ _ false ((rowsP l.length l.length (l.length + 1)).map fun r => r.map (renL (sgP l.length (l.length + 1))))) false
    rw [rowsP_ren _ _ _ (by omega)]
  have hsb : slotBelow 8 (some ⟨.many N.t_pworked 1 false (rowsN l.length), false⟩) = true := rowsP_below _ _ _ hn
  refine MutOk.frame3 h (sgP l.length (l.length + 1)) rfl rfl (fun k k' s s' h1 h2 h3 => ?_) (fun k s0 h0 => ?_) (by simp [hal]) (fun k a a0 hk hk0 => ?_) (fun b s' hs' => ?_) rfl
  · rw [(memN_slot h1).1, (memN_slot h2).1]
  · obtain ⟨rfl, rfl⟩ := memN_slot h0
    refine ⟨⟨.many N.t_pworked 1 false (ptrsT 1 l.length), false⟩, rfl, rfl, ?_, hsb⟩
    have e : renBlk (sgP l.length (l.length + 1)) (.many N.t_pworked 1 false (rowsN l.length)) = .many N.t_pworked 1 false (ptrsT 1 l.length) := (congrArg Slot.blk hrow).symm
    rw [e]
    exact ⟨rfl, rfl, rfl, fun k c c' hc hc' => by rw [hc] at hc'; cases hc'; exact ptrs_noflat _ _ k c hc, fun h => by cases h⟩
  · cases k with
    | zero =>
      cases hk; cases hk0
      exact ⟨Fits.refl _, rfl⟩
    | succ k =>
      obtain ⟨k1, k2⟩ := ha k a a0 (by simpa using hk) (by simpa using hk0)
      obtain ⟨k3, k4⟩ := okArg_mono (k := 8) k2
      exact ⟨by rw [k4]; exact k1, k3⟩
  · cases b with
    | zero =>
      have hs0 := getSlot_some hs'
      have hs0 : some (some (Slot.mk (.many N.t_pworked 1 false (ptrsT 1 l.length)) false)) = some (some s') := hs0
      rw [hrow] at hs0
      cases hs0
      exact .inl ⟨0, _, _, rfl, rfl, rfl, rfl, hsb⟩
    | succ b =>
      refine .inr ⟨fun k s0 hk => ?_, hs'⟩
      obtain ⟨rfl, _⟩ := memN_slot hk
      simp [sgP]

theorem rowsP_two {n i j : Nat} (hn : n ≤ 5) (hi : i < n) (hj : j < n) (hij : i ≠ j) : twoOk n (rowsP n i j) i j 1 2 = true := by
  have hr : ∀ k, k < n → (rowsP n i j)[k]? = some [.ptr (if k = i then 1 else if k = j then 2 else 3 + k) 27 0 0] := fun k hk => by
    rw [rowsP, List.getElem?_map, rng_get, if_pos hk]; rfl
  unfold twoOk
  simp only [Bool.and_eq_true, decide_eq_true_eq, bne_iff_ne]
  refine ⟨Nat.ble_eq_true_of_le hn, ?_, ?_, by omega, by omega, by omega, by omega, by omega, ?_, ?_⟩
  · have : (rowsP n i j).length = n := by simp [rowsP]
    rw [this]; exact Nat.beq_refl n
  · rw [List.all_eq_true]
    intro r hr
    obtain ⟨k, hk, rfl⟩ := List.mem_map.1 hr
    rfl
  · have e : ((i : Int)).toNat = i := by omega
    rw [e]; unfold rowB; rw [hr i hi, if_pos rfl]; rfl
  · have e : ((j : Int)).toNat = j := by omega
    rw [e]; unfold rowB; rw [hr j hj, if_neg (fun e => hij e.symm), if_pos rfl]; rfl
theorem fits_conL (c : Contact) : Fits c.av (.agg (conL c c.M.L.len)) := by
  have r : ∀ x : AV, Fits x x := fun x => Fits.refl x
  exact Fits.agg (.cons (r _) rfl rfl (.cons (r _) rfl rfl (.cons (r _) rfl rfl (.cons (r _) rfl rfl (.cons (r _) rfl rfl (.cons (r _) rfl rfl (.cons (Fits.vslk true) rfl rfl (FitsL.refl_of rfl))))))))
theorem set_same {l : List Body} {i j : Nat} (hi : i < l.length) (hj : j < l.length) (hij : i ≠ j) : (l.set i (bAt l i)).set j (bAt l j) = l := by
  apply List.ext_getElem?
  intro k
  rw [setAB_get k hi hj hij]
  by_cases h1 : k = j
  · subst h1; simp [bAt, List.getD, hj]
  · by_cases h2 : k = i
    · subst h2; simp [h1, bAt, List.getD, hi]
    · simp [h1, h2]
/-- the bodies behind a move apart -/
def sPart (l : List Body) (c : Contact) : List Body := bif apartB l.length c.A c.B then (match c.M.L.len with
  | 0 => l
  | k + 1 => bif (nAdd (bAt l c.A.toNat).Wt.M (bAt l c.B.toNat).Wt.M).V == 0 then l else
      (l.set c.A.toNat (apA (bAt l c.A.toNat) (bAt l c.B.toNat) c.M.N (deepOf c (k + 1)))).set c.B.toNat (apB (bAt l c.A.toNat) (bAt l c.B.toNat) c.M.N (deepOf c (k + 1)))) else l
theorem sPart_len (l : List Body) (c : Contact) : (sPart l c).length = l.length := by
  unfold sPart
  cases apartB l.length c.A c.B with
  | false => rfl
  | true =>
    simp only [cond_true]
    split
    · rfl
    · cases ((nAdd (bAt l c.A.toNat).Wt.M (bAt l c.B.toNat).Wt.M).V == 0) <;> simp
theorem leafP_holds {n i j : Nat} (hn : n ≤ 5) (a b : Body) : (leafP (rowsP n i j) a b).holds (· = (.tup [], memP (rowsP n i j) a b)) := holds_yes (by rw [rowsP_below n i j hn]; rfl) rfl
theorem k_part (l : List Body) (c : Contact) (hn : l.length ≤ 5) (hk : Nat.ble c.M.L.len 6 = true) : MutOk N.P N.solver_table_part [tblA l.length, c.av] (memT l) (.tup []) (memT (sPart l c)) := by
  have hk := Nat.le_of_ble_eq_true hk
  have okl : ∀ e ∈ [m_shift], e.ok N.P := mall_cons mo_shift mall_nil
  cases hv : apartB l.length c.A c.B with
  | true =>
    have hv' := hv
    simp only [apartB, Bool.and_eq_true, decide_eq_true_eq, bne_iff_ne] at hv'
    obtain ⟨v1, v2, v3, v4, v5⟩ := hv'
    have hi : c.A.toNat < l.length := by omega
    have hj : c.B.toNat < l.length := by omega
    have hij : c.A.toNat ≠ c.B.toNat := by omega
    have h2 := rowsP_two hn hi hj hij
    have eA : ((c.A.toNat : Nat) : Int) = c.A := by omega
    have eB : ((c.B.toNat : Nat) : Int) = c.B := by omega
    rw [eA, eB] at h2
    have go : ∀ a' b', (partTree l.length (rowsP l.length c.A.toNat c.B.toNat) (bAt l c.A.toNat) (bAt l c.B.toNat) c c.M.L.len).holds (· = (.tup [], memP (rowsP l.length c.A.toNat c.B.toNat) a' b')) →
        MutOk N.P N.solver_table_part [tblA l.length, c.av] (memT l) (.tup []) (memT ((l.set c.A.toNat a').set c.B.toNat b')) := fun a' b' ht =>
      table_frame l c.A.toNat c.B.toNat a' b' hn hi hj hij (args0 := [.agg (conL c c.M.L.len)]) rfl (fun k a a0 h1 h2 => by
        cases k with
        | zero => cases h1; cases h2; exact ⟨fits_conL c, rfl⟩
        | succ k => cases h1) (mut_of_treeC (t := t_part) (m := []) (l := [m_shift]) (rs := [rTwo 1 2]) (hints := h0) (nils := nn) ok_part mall_nil okl (rall_cons (two_read 1 2) rall_nil) named mixed 60 N.solver_table_part _ _ _ _ _
          (part_run l.length _ _ _ c c.M.L.len (by omega)) ht).2
    unfold sPart
    rw [hv]
    simp only [cond_true]
    unfold partTree at go
    generalize c.M.L.len = k at go
    cases k with
    | zero =>
      have := go (bAt l c.A.toNat) (bAt l c.B.toNat) (holds_gd h2 (leafP_holds hn _ _))
      rw [set_same hi hj hij] at this
      exact this
    | succ k =>
      cases hz : ((nAdd (bAt l c.A.toNat).Wt.M (bAt l c.B.toNat).Wt.M).V == 0) with
      | true =>
        have := go (bAt l c.A.toNat) (bAt l c.B.toNat) (holds_gd h2 (holds_yes hz (leafP_holds hn _ _)))
        rw [set_same hi hj hij] at this
        exact this
      | false => exact go _ _ (holds_gd h2 (holds_no hz (holds_gd (okS_true _) (holds_gd (okS_true _) (leafP_holds hn _ _)))))
  | false =>
    unfold sPart
    rw [hv]
    simp only [cond_false]
    have hnot : notOk l.length c.A c.B = true := by
      cases hq : notOk l.length c.A c.B with
      | true => rfl
      | false =>
        exfalso
        simp only [notOk, Bool.or_eq_false_iff, decide_eq_false_iff_not, beq_eq_false_iff_ne] at hq
        obtain ⟨q1, q2, q3⟩ := hq
        have : apartB l.length c.A c.B = true := by
          simp only [apartB, Bool.and_eq_true, decide_eq_true_eq, bne_iff_ne]
          split at q1 <;> split at q2 <;> exact ⟨by omega, by omega, by omega, by omega, q3⟩
        rw [hv] at this; cases this
    refine table_frame0 l hn (args0 := [c.av]) rfl (fun k a a0 h1 h2 => ?_) (mut_of_treeC (t := t_part) (m := []) (l := [m_shift]) (rs := [rNo]) (hints := h0) (nils := nn) ok_part mall_nil okl (rall_cons no_read rall_nil) named mixed 60 N.solver_table_part _ _ _ _ _
        (part_no l.length _ c) (holds_gd hnot (holds_yes (by rw [show okRows (rowsN l.length) = true from rowsP_below _ _ _ hn]; rfl) rfl))).2
    cases k with
    | zero => cases h1; cases h2; exact ⟨Fits.refl _, rfl⟩
    | succ k => cases h1
def dCon : Dec Contact := Dec.one rContact.agg (fun _ => rfl)
def m_part : Ment := mentT N.solver_table_part 5 dCon (fun _ c => Nat.ble c.M.L.len 6) sPart
theorem mo_part : m_part.ok N.P := mentT_ok (callB_ok (by kernel_rfl)) sPart_len fun l c hn hk => k_part l c hn hk
end Go.Flat
end

section
/- Contract: Part. -/
set_option linter.unusedSimpArgs false
set_option linter.unusedVariables false
namespace Go.Flat
open Go

def okTs (s : Sl Touch) : Bool := allN s.len fun i => okRow rTouch (rTouch.cells (s.at' i))
def lstN (n : Nat) (l : Nat → Body) : List Body := (List.range n).map l
def rowsOf (n : Nat) (l : List Body) : List (List AV) := (List.range n).map fun i => rBody.cells (bAt l i)
/-- what must hold while a table is laid, worked on and read -/
def condsLay (n : Nat) (l : Nat → Body) : List Bool := true :: true :: (List.range n).flatMap fun i => [(l i).small, okS (l i).Shp.Pts, true]
def condsList (n : Nat) : List Bool := true :: true :: (List.range n).map (fun _ => true) ++ [true]
def okSs (n : Nat) (l : Nat → Body) : List Bool := (List.range n).map fun i => okS (l i).Shp.Pts
noncomputable abbrev CPart : Ctx := ctxL N.P [e_Copy] [] [m_part] [] h0 nn
def PartT (n : Nat) (l : Nat → Body) (c : Contact) : Tree AV := guards (condsLay n l ++ (Nat.ble c.M.L.len 6 :: (okSs n l ++ (okTs c.M.L :: condsList n)))) (.leaf (.vsl true 27 n (fun r => (rowsOf n (sPart (lstN n l) c)).getD r [])))
theorem part0 (l : Nat → Body) (c : Contact) : runF CPart 60 N.solver_Part [.vsl true 27 0 (fun i => rBody.cells (l i)), c.av] = PartT 0 l c := by kernel_rfl
theorem part1 (l : Nat → Body) (c : Contact) : runF CPart 60 N.solver_Part [.vsl true 27 1 (fun i => rBody.cells (l i)), c.av] = PartT 1 l c := by kernel_rfl
theorem part2 (l : Nat → Body) (c : Contact) : runF CPart 60 N.solver_Part [.vsl true 27 2 (fun i => rBody.cells (l i)), c.av] = PartT 2 l c := by kernel_rfl
theorem part3 (l : Nat → Body) (c : Contact) : runF CPart 60 N.solver_Part [.vsl true 27 3 (fun i => rBody.cells (l i)), c.av] = PartT 3 l c := by kernel_rfl
theorem part4 (l : Nat → Body) (c : Contact) : runF CPart 60 N.solver_Part [.vsl true 27 4 (fun i => rBody.cells (l i)), c.av] = PartT 4 l c := by kernel_rfl
theorem part5 (l : Nat → Body) (c : Contact) : runF CPart 60 N.solver_Part [.vsl true 27 5 (fun i => rBody.cells (l i)), c.av] = PartT 5 l c := by kernel_rfl
end Go.Flat
end

section
/- Contract: Part, at lists of at most five bodies. -/
set_option linter.unusedSimpArgs false
set_option linter.unusedVariables false
namespace Go.Flat
open Go

def slN (n : Nat) (L : List Body) : Sl Body := ⟨n, fun i => bAt L i⟩
theorem fits_rowsN (n : Nat) (L : List Body) {b : Bool} : Fits (.vsl b 27 n (fun r => (rowsOf n L).getD r [])) (rBody.encS (slN n L)) := fits_sl rBody (fun _ => rfl) (slN n L) rfl
theorem okTs_true (s : Sl Touch) : okTs s = true := law_touch.all _ _
theorem lay_true {n : Nat} {l : Nat → Body} (h : ∀ i, i < n → (l i).small = true) : ∀ c ∈ condsLay n l, c = true := fun c hc => by
  unfold condsLay at hc
  rcases List.mem_cons.1 hc with rfl | hc
  · rfl
  rcases List.mem_cons.1 hc with rfl | hc
  · rfl
  obtain ⟨i, hi, hc⟩ := List.mem_flatMap.1 hc
  have hi := List.mem_range.1 hi
  rcases List.mem_cons.1 hc with rfl | hc
  · exact h i hi
  rcases List.mem_cons.1 hc with rfl | hc
  · exact okS_true _
  rcases List.mem_cons.1 hc with rfl | hc
  · rfl
  · cases hc
theorem list_true {n : Nat} : ∀ c ∈ condsList n, c = true := fun c hc => by
  unfold condsList at hc
  simp only [List.cons_append, List.mem_cons, List.mem_append, List.mem_map, List.not_mem_nil, or_false] at hc
  rcases hc with rfl | rfl | ⟨_, _, rfl⟩ | rfl <;> rfl
theorem okSs_true {n : Nat} {l : Nat → Body} : ∀ c ∈ okSs n l, c = true := fun c hc => by
  obtain ⟨i, _, rfl⟩ := List.mem_map.1 hc
  exact okS_true _
theorem part_all {n : Nat} (hn : n ≤ 5) (l : Nat → Body) (c : Contact) : runF CPart 60 N.solver_Part [.vsl true 27 n (fun i => rBody.cells (l i)), c.av] = PartT n l c := by
  rcases n with _ | _ | _ | _ | _ | _ | n
  · exact part0 l c
  · exact part1 l c
  · exact part2 l c
  · exact part3 l c
  · exact part4 l c
  · exact part5 l c
  · omega
def okPart (l : Sl Body) (c : Contact) : Bool := Nat.ble l.len 5 && (smallAll l && Nat.ble c.M.L.len 6)
theorem c_Part (l : Sl Body) (c : Contact) (h : okPart l c = true) : Con N.P N.solver_Part [rBody.encS l, c.av] (rBody.encS (slN l.len (sPart (lstN l.len l.at') c))) := by
  simp only [okPart, Bool.and_eq_true, smallAll] at h
  obtain ⟨h1, ⟨_, h2⟩, h3⟩ := h
  have hn := Nat.le_of_ble_eq_true h1
  have key := con_treeLG (P := N.P) (t := [e_Copy]) (m := []) (l := [m_part]) (rs := []) (hints := h0) (nils := nn) (all_cons o_Copy all_nil) mall_nil (mall_cons mo_part mall_nil) rall_nil named mixed (f := N.solver_Part) (by kernel_rfl)
    (args := [.vsl true 27 l.len (fun i => rBody.cells (l.at' i)), c.av]) (r := rBody.encS (slN l.len (sPart (lstN l.len l.at') c))) rfl 60 _ (part_all hn l.at' c) fun _ => holds_guards (fun b hb => by
      rcases List.mem_append.1 hb with hb | hb
      · exact lay_true (fun i hi => allN_iff.1 h2 i hi) b hb
      rcases List.mem_cons.1 hb with rfl | hb
      · exact h3
      rcases List.mem_append.1 hb with hb | hb
      · exact okSs_true b hb
      rcases List.mem_cons.1 hb with rfl | hb
      · exact okTs_true _
      · exact list_true b hb) (fits_rowsN _ _)
  refine Con.args (args' := [.vsl true 27 l.len (fun i => rBody.cells (l.at' i)), c.av]) rfl (fun i a a' hi hi' => ?_) key
  rcases i with _ | _ | i <;> simp at hi hi' <;> subst hi <;> subst hi'
  · exact Fits.vslk true
  · exact Fits.refl _
def e_Part : Ent := entC2 N.solver_Part rBody.cSl rContact.agg okPart fun l c => rBody.encS (slN l.len (sPart (lstN l.len l.at') c))
theorem o_Part : e_Part.ok N.P := entC2_ok c_Part
end Go.Flat
end
