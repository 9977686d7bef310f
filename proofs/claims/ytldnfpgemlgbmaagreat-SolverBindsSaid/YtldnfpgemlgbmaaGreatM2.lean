/- What is proved in the end: SolverBinds returns true whatever the input, and its input reads as it did; no condition.
This text: FlatOps5, FlatOps6, FlatOps7, FlatOps8, FlatOps9, FlatLocal. -/
import Derived.Laws.Append
import Derived.Test.YtldnfpgemlgbmaaGreatM1

section
/- Each operation of the evaluator does what the model's operation does. Part 5: all of them but calls of functions. -/
set_option linter.unusedSimpArgs false
set_option linter.unusedVariables false
namespace Go.Flat
open Go

structure Post (R : Nat → Prop) (ρ : Loc) (w : World) (R' : Nat → Prop) (ρ' : Loc) (w' : World) (slot n : Nat) : Prop where
  hR : ∀ x, R x → R' x
  hk : ∀ x, R x → w'.heap[x]? = w.heap[x]?
  hs : Sizes w w'
  hρ : ∀ b x, ρ b = some x → ρ' b = some x
  ho : ∀ b, (b < slot ∨ slot + n ≤ b) → ρ' b = ρ b

theorem Post.refl (R : Nat → Prop) (ρ : Loc) (w : World) (slot n : Nat) : Post R ρ w R ρ w slot n := ⟨fun _ h => h, fun _ _ => rfl, .refl w, fun _ _ h => h, fun _ _ => rfl⟩

section
variable {C : Ctx} {rf : Ref} {R : Nat → Prop} {ρ : Loc} {w : World} {mem : Mem} {slot : Nat} {a : Act} {o : Oper} {e : Eff}

/-- one operation of the model does what the evaluator says -/
def Sim (C : Ctx) (rf : Ref) (R : Nat → Prop) (ρ : Loc) (w : World) (mem : Mem) (slot : Nat) (a : Act) (o : Oper) (e : Eff) : Prop :=
  ∀ (K : Act → World → Prop) (Q : Exit → Act → World → Prop),
    (∀ R' ρ' w' v', MS rf R' ρ' (applyU mem e.upd) w' → Post R ρ w R' ρ' w' slot (slotsOf C o.op) → (slotsOf C o.op = 0 → ρ' = ρ) → VR R' ρ' w' e.v v' → K (a.put o.dst v') w') → o.wp C.P a w K Q

theorem Sim.val (hm : MS rf R ρ mem w) {v : Value} (hr : (execOp a.eval o).run C.P w = .ok (.value v) w) (hu : e.upd = []) (hv : VR R ρ w e.v v) : Sim C rf R ρ w mem slot a o e := by
  intro K Q hK
  unfold Oper.wp
  rw [hr]
  exact hK R ρ w v (by rw [hu]; exact hm) (.refl R ρ w slot _) (fun _ => rfl) hv

theorem Sim.new {v : Value} {obj : Obj} {s : Slot} (hm : MS rf R ρ mem w) (hr : (execOp a.eval o).run C.P w = .ok (.value v) (w.alloc obj)) (hu : e.upd = [.put slot (some s)])
    (h1 : slotsOf C o.op = 1) (hl : slot < mem.length) (hb : rf.base ≤ slot) (hρ : ρ slot = none) (hB : BR R (ρ.upd slot w.heap.size) (w.alloc obj) w.heap.size s.blk)
    (hv : VR R (ρ.upd slot w.heap.size) (w.alloc obj) e.v v) : Sim C rf R ρ w mem slot a o e := by
  intro K Q hK
  unfold Oper.wp
  rw [hr]
  refine hK R (ρ.upd slot w.heap.size) (w.alloc obj) v (by rw [hu]; exact hm.alloc hl hb hρ hB) ⟨fun _ h => h, fun x hx => heap_alloc_old w obj x (hm.Rlt x hx), .alloc w obj, Loc.upd_old hρ, fun b hb => by simp [Loc.upd, show b ≠ slot by omega]⟩ (fun h0 => by omega) hv

theorem PW.alloc (hm : MS rf R ρ mem w) {l : List AV} {vs : Array Value} (h : PW R ρ w l vs) (obj : Obj) {ρ' : Loc} (hρ : ∀ b x, ρ b = some x → ρ' b = some x) : PW R ρ' (w.alloc obj) l vs :=
  h.mono (fun _ h => h) (fun x hx => heap_alloc_old w obj x (hm.Rlt x hx)) (.alloc w obj) hρ

theorem BR.one_new (hm : MS rf R ρ mem w) {l : List AV} {vs : Array Value} (h : PW R ρ w l vs) {t : TypeId} (hρ : ρ slot = none) : BR R (ρ.upd slot w.heap.size) (w.alloc (.cells vs t)) w.heap.size (.one l) :=
  ⟨vs, t, heap_alloc_new w _, by rw [h.1]; exact Nat.le_refl _, (h.alloc hm _ (Loc.upd_old hρ)).cells⟩

theorem ptr_new {vs : Array Value} {t : TypeId} {n : Nat} : VR R (ρ.upd slot w.heap.size) (w.alloc (.cells vs t)) (.ptr slot n 0 0) (.pointer (some ⟨w.heap.size, 0, none⟩)) := by
  have : VR R (ρ.upd slot w.heap.size) (w.alloc (.cells vs t)) (.ptr slot n 0 0) (.pointer (some ⟨w.heap.size, 0 * n + 0, none⟩)) := .ptr (by simp [Loc.upd])
  simpa using this

theorem kb_inv {b : Bool} {v : Value} (h : VR R ρ w (.kb b) v) : v = .bool b := by cases h; rfl

theorem offPtr_run {x p : AV} {v : Value} {n : Nat} (h : VR R ρ w x v) (hp : offPtr x n = some p) : ∃ b i, v = .pointer (some ⟨b, i, none⟩) ∧ VR R ρ w p (.pointer (some ⟨b, i + n, none⟩)) := by
  cases h with
  | vptr vals hx h2 h3 h4 =>
    simp [offPtr] at hp
    subst hp
    refine ⟨_, _, rfl, .vptr (fun j => vals (n + j)) hx (fun j c hc => ?_) (fun j c hc => ?_) (fun j c hc => ?_)⟩
    · rw [List.getElem?_drop] at hc; exact h2 _ c hc
    · rw [List.getElem?_drop] at hc; rw [Nat.add_assoc]; exact h3 _ c hc
    · rw [List.getElem?_drop] at hc; exact h4 _ c hc
  | ptr h =>
    simp [offPtr] at hp
    subst hp
    refine ⟨_, _, rfl, ?_⟩
    rw [Nat.add_assoc]
    exact .ptr h
  | _ => simp [offPtr] at hp

theorem intOf_inv {i : AV} {v : Value} {z : Int} {kz : Bool} (h : VR R ρ w i v) (hi : intOf i = some (z, kz)) : ∃ k, v = .int k z ∧ inK k z = true := by
  cases h with
  | lit hl =>
    cases v <;> simp [intOf] at hi
    obtain ⟨rfl, _⟩ := hi
    exact ⟨_, rfl, hl⟩
  | ki hk =>
    simp [intOf] at hi
    obtain ⟨rfl, _⟩ := hi
    exact ⟨_, rfl, hk⟩
  | _ => simp [intOf] at hi

theorem inB_inv {z : Int} {len : Nat} {kn : Bool} {v : AV} {e : Eff} (h : inB z len kn v = some e) (hc : ∀ c ∈ e.conds, c = true) : 0 ≤ z ∧ z < (len : Int) ∧ e.v = v ∧ e.upd = [] := by
  unfold inB at h
  cases kn with
  | true =>
    simp only at h
    cases hq : (decide (0 ≤ z) && decide (z < (len : Int))) with
    | false => simp [hq] at h
    | true =>
      simp [hq] at h
      subst h
      simp at hq
      exact ⟨hq.1, hq.2, rfl, rfl⟩
  | false =>
    simp at h
    subst h
    have := hc _ (List.mem_singleton.2 rfl)
    simp at this
    exact ⟨this.1, this.2, rfl, rfl⟩

theorem indexAddr_run {P : Program} (hm : MS rf R ρ mem w) {t : TypeId} {x i : AV} {vx vi : Value} {e : Eff} (hx : VR R ρ w x vx) (hi : VR R ρ w i vi) (h : indexAddrA P t x i = some e) (hc : ∀ c ∈ e.conds, c = true) :
    ∃ v, (Instr.indexAt t vx vi).run P w = .ok v w ∧ VR R ρ w e.v v ∧ e.upd = [] := by
  unfold indexAddrA at h
  cases hz : intOf i with
  | none => simp [hz] at h
  | some zk =>
    obtain ⟨z, kz⟩ := zk
    obtain ⟨k, rfl, _⟩ := intOf_inv hi hz
    simp only [hz] at h
    cases hu : P.underlying t with
    | none => simp [hu] at h
    | some d =>
      cases d with
      | array len el =>
        simp only [hu] at h
        cases hs : szOf P el with
        | none => simp [hs] at h
        | some n =>
          simp only [hs] at h
          cases hp : offPtr x (z.toNat * n) with
          | none => simp [hp] at h
          | some p =>
            simp only [hp] at h
            obtain ⟨h1, h2, h3, h4⟩ := inB_inv h hc
            obtain ⟨b, j, rfl, hv⟩ := offPtr_run hx hp
            refine ⟨_, ?_, by rw [h3]; exact hv, h4⟩
            simp [Instr.indexAt, asIntOf, run_underlying hu, Instr.sureAddr, h1, h2, run_sizeOf hs, Addr.add_lit]
      | slice el =>
        simp only [hu] at h
        cases hs : szOf P el with
        | none => simp [hs] at h
        | some n =>
          simp only [hs] at h
          cases hx with
          | vsl0 =>
            rename_i kn esz rows a' cap
            simp only at h
            cases hq : Nat.beq n esz with
            | false => simp [hq] at h
            | true =>
              simp only [hq, cond_true] at h
              obtain ⟨h1, h2, h3, h4⟩ := inB_inv h hc
              simp at h2; omega
          | vsl vals hR hl h0 hrl hlf hcell hvr =>
            rename_i kn esz len rows xb o cap
            simp only at h
            cases hq : Nat.beq n esz with
            | false => simp [hq] at h
            | true =>
              have := Nat.eq_of_beq_eq_true hq
              subst this
              simp only [hq, cond_true] at h
              obtain ⟨h1, h2, h3, h4⟩ := inB_inv h hc
              have hlt : z.toNat < len := by omega
              refine ⟨.pointer (some ⟨xb, o + z.toNat * n, none⟩), ?_, ?_, h4⟩
              · simp [Instr.indexAt, asIntOf, run_underlying hu, Instr.sureAddr, h1, h2, run_sizeOf hs, Addr.add_lit]
              · rw [h3]
                refine .vptr (vals z.toNat) hR (fun j c hj => hlf _ j c hlt hj) (fun j c hj => ?_) (fun j c hj => hvr _ j c hlt hj)
                rw [Nat.add_assoc]; exact hcell _ j c hlt hj
          | lsl0 =>
            rename_i kn b et esz
            simp only at h
            cases hq : Nat.beq n esz with
            | false => simp [hq] at h
            | true =>
              simp only [hq, cond_true] at h
              obtain ⟨h1, h2, h3, h4⟩ := inB_inv h hc
              simp at h2; omega
          | lsl hb hlc hcm hh hsz =>
            rename_i kn b et esz len xb cap c fr
            simp only at h
            cases hq : Nat.beq n esz with
            | false => simp [hq] at h
            | true =>
              have := Nat.eq_of_beq_eq_true hq
              subst this
              simp only [hq, cond_true] at h
              obtain ⟨h1, h2, h3, h4⟩ := inB_inv h hc
              refine ⟨.pointer (some ⟨xb, z.toNat * n + 0, none⟩), ?_, ?_, h4⟩
              · simp [Instr.indexAt, asIntOf, run_underlying hu, Instr.sureAddr, h1, h2, run_sizeOf hs, Addr.add_lit]
              · rw [h3]; exact .ptr hb
          | _ => simp at h
      | _ => simp [hu] at h

theorem partA_run {P : Program} {t : TypeId} {cs : List AV} {vs : Array Value} {off : Nat} {r : AV} (hv : VR R ρ w (.agg cs) (.agg vs)) (h : partA P t cs off = some r) :
    ∃ v, (part t vs off).run P w = .ok v w ∧ VR R ρ w r v := by
  cases hv with
  | agg _ h1 h2 h3 =>
    unfold partA at h
    cases ht : aggT P t with
    | none => simp [ht] at h
    | some b =>
      cases b with
      | true =>
        simp only [ht] at h
        cases hn : szOf P t with
        | none => simp [hn] at h
        | some n =>
          simp only [hn] at h
          cases hk : takeN n (cs.drop off) with
          | none => simp [hk] at h
          | some l =>
            simp [hk] at h
            subst h
            obtain ⟨k1, k2⟩ := takeN_some hk
            refine ⟨.agg (vs.extract off (off + n)), by simp [part, run_isAgg ht, run_sizeOf hn], ?_⟩
            have hle : off + n ≤ cs.length ∨ n = 0 := by
              rcases Nat.eq_zero_or_pos n with h0 | h0
              · exact .inr h0
              · left
                have := k2 (n - 1) l[n - 1] (List.getElem?_eq_getElem (by omega))
                rw [List.getElem?_drop] at this
                have := (List.getElem?_eq_some_iff.1 this).1
                omega
            refine .agg _ ?_ (fun i c hi => ?_) (fun i c hi => ?_)
            · simp only [Array.size_extract, h1, k1]
              rcases hle with h | h <;> omega
            · have := k2 i c hi; rw [List.getElem?_drop] at this; exact h2 _ c this
            · have hc := k2 i c hi
              rw [List.getElem?_drop] at hc
              have hin : i < n := by rw [← k1]; exact (List.getElem?_eq_some_iff.1 hi).1
              have := h3 _ c hc
              have hlt : off + i < vs.size := by rw [h1]; exact (List.getElem?_eq_some_iff.1 hc).1
              rw [getD_eq hlt] at this
              rw [getD_some (u := vs[off + i]) (by rw [Array.getElem?_extract]; simp [hlt]; omega)]
              exact this
      | false =>
        simp only [ht] at h
        have hlt : off < vs.size := by rw [h1]; exact (List.getElem?_eq_some_iff.1 h).1
        have := h3 _ _ h
        rw [getD_eq hlt] at this
        refine ⟨vs[off], ?_, this⟩
        simp [part, run_isAgg ht, hlt]

end
end Go.Flat
end

section
/- Each operation of the evaluator does what the model's operation does. Part 6: slices that are made, and appended to. -/
set_option linter.unusedSimpArgs false
set_option linter.unusedVariables false
namespace Go.Flat
open Go

section
variable {rf : Ref} {R : Nat → Prop} {ρ : Loc} {w : World} {mem : Mem} {slot : Nat}

/-- a slot for an empty slice that is nil -/
theorem MS.empty (h : MS rf R ρ mem w) {et esz : Nat} {fl : Bool} (hl : slot < mem.length) (hρ : ρ slot = none) : MS rf R ρ (mem.set slot (some ⟨.many et esz fl [], false⟩)) w := by
  have key : ∀ b s, getSlot (mem.set slot (some ⟨.many et esz fl [], false⟩)) b = some s → b ≠ slot → getSlot mem b = some s := by
    intro b s hs hne
    rw [getSlot_set hl, if_neg (Ne.symm hne)] at hs
    exact hs
  refine { blk := ?_, dom := ?_, inj := ?_, lt := h.lt, nold := ?_, oldk := h.oldk, oldlt := h.oldlt, nR := ?_, Rlt := h.Rlt, R0 := h.R0, Rn := h.Rn, R0k := h.R0k, ρ0 := h.ρ0, szk := h.szk, size := h.size, base := ?_ }
  · intro b s hs
    by_cases e : b = slot
    · subst e
      rw [getSlot_set hl, if_pos rfl] at hs
      cases hs
      exact .inr ⟨hρ, rfl⟩
    · exact h.blk b s (key b s hs e)
  · intro b x hb; simp only [List.length_set]; exact h.dom b x hb
  · intro b b' x s s' h1 h2 h3 h4
    have e : b ≠ slot := fun e => by subst e; rw [hρ] at h3; cases h3
    have e' : b' ≠ slot := fun e => by subst e; rw [hρ] at h4; cases h4
    exact h.inj b b' x s s' (key b s h1 e) (key b' s' h2 e') h3 h4
  · intro b x s h1 h2
    have e : b ≠ slot := fun e => by subst e; rw [hρ] at h2; cases h2
    exact h.nold b x s (key b s h1 e) h2
  · intro b x s h1 hf h2
    have e : b ≠ slot := fun e => by subst e; rw [hρ] at h2; cases h2
    exact h.nR b x s (key b s h1 e) hf h2
  · simp only [List.length_set]; exact h.base

/-- a block goes on under another slot, its row rewritten -/
theorem MS.move (h : MS rf R ρ mem w) {b x : Nat} {s : Slot} {w' : World} {blk' : Blk} (hs : getSlot mem b = some s) (hf : s.frozen = false) (hx : ρ b = some x)
    (hl : slot < mem.length) (hb : rf.base ≤ slot) (hρ : ρ slot = none)
    (hw : ∀ y, y ≠ x → w'.heap[y]? = w.heap[y]?) (hsz : Sizes w w') (hsize : w'.heap.size = w.heap.size) (hB : BR R (ρ.upd slot x) w' x blk') :
    MS rf R (ρ.upd slot x) ((mem.set b none).set slot (some ⟨blk', false⟩)) w' := by
  have hbs : b ≠ slot := fun e => by subst e; rw [hρ] at hx; cases hx
  have hR : ∀ y, R y → w'.heap[y]? = w.heap[y]? := fun y hy => hw y (fun e => h.nR b x s hs hf hx (e ▸ hy))
  have hl' : slot < (mem.set b none).length := by simpa using hl
  have hbl := getSlot_lt hs
  have key : ∀ b' s', getSlot ((mem.set b none).set slot (some ⟨blk', false⟩)) b' = some s' → (b' = slot ∧ s' = ⟨blk', false⟩) ∨ (b' ≠ slot ∧ b' ≠ b ∧ getSlot mem b' = some s') := by
    intro b' s' h'
    rw [getSlot_set hl'] at h'
    split at h'
    · rename_i e; subst e; cases h'; exact .inl ⟨rfl, rfl⟩
    · rename_i e
      rw [getSlot_set hbl] at h'
      split at h'
      · cases h'
      · rename_i e'; exact .inr ⟨Ne.symm e, Ne.symm e', h'⟩
  have hup : ∀ b', b' ≠ slot → ρ.upd slot x b' = ρ b' := fun b' e => by simp [Loc.upd, e]
  have hus : ρ.upd slot x slot = some x := by simp [Loc.upd]
  refine { blk := ?_, dom := ?_, inj := ?_, lt := ?_, nold := ?_, oldk := ?_, oldlt := ?_, nR := ?_, Rlt := ?_, R0 := h.R0, Rn := h.Rn, R0k := ?_, ρ0 := ?_, szk := h.szk.trans hsz, size := by rw [hsize]; exact h.size, base := ?_ }
  · intro b' s' h'
    rcases key b' s' h' with ⟨rfl, rfl⟩ | ⟨e1, e2, h1⟩
    · exact .inl ⟨x, hus, hB⟩
    · rw [hup b' e1]
      rcases h.blk b' s' h1 with ⟨y, h5, h6⟩ | h5
      · have hyx : y ≠ x := fun e' => e2 (h.inj b' b x s' s h1 hs (e' ▸ h5) hx)
        exact .inl ⟨y, h5, h6.mono (hw y hyx) (fun _ h => h) hR hsz (Loc.upd_old hρ)⟩
      · exact .inr h5
  · intro b' y hb'
    simp only [List.length_set]
    by_cases e : b' = slot
    · rw [e]; exact hl
    · rw [hup b' e] at hb'; exact h.dom b' y hb'
  · intro b1 b2 y s1 s2 h1 h2 h3 h4
    rcases key b1 s1 h1 with ⟨rfl, _⟩ | ⟨e1, e2, k1⟩ <;> rcases key b2 s2 h2 with ⟨rfl, _⟩ | ⟨e3, e4, k2⟩
    · rfl
    · rw [hus] at h3; cases h3; rw [hup b2 e3] at h4
      exact absurd (h.inj b2 b x s2 s k2 hs h4 hx) e4
    · rw [hus] at h4; cases h4; rw [hup b1 e1] at h3
      exact absurd (h.inj b1 b x s1 s k1 hs h3 hx) e2
    · rw [hup b1 e1] at h3; rw [hup b2 e3] at h4
      exact h.inj b1 b2 y s1 s2 k1 k2 h3 h4
  · intro b' y hb'
    rw [hsize]
    by_cases e : b' = slot
    · subst e; rw [hus] at hb'; cases hb'; exact h.lt b x hx
    · rw [hup b' e] at hb'; exact h.lt b' y hb'
  · intro b' y s' h1 h2
    rcases key b' s' h1 with ⟨rfl, _⟩ | ⟨e1, e2, k1⟩
    · rw [hus] at h2; cases h2; exact h.nold b x s hs hx
    · rw [hup b' e1] at h2; exact h.nold b' y s' k1 h2
  · intro y hy
    rw [hw y (fun e => h.nold b x s hs hx (e ▸ hy))]
    exact h.oldk y hy
  · intro y hy; rw [hsize]; exact h.oldlt y hy
  · intro b' y s' h1 hf' h2
    rcases key b' s' h1 with ⟨rfl, _⟩ | ⟨e1, e2, k1⟩
    · rw [hus] at h2; cases h2; exact h.nR b x s hs hf hx
    · rw [hup b' e1] at h2; exact h.nR b' y s' k1 hf' h2
  · intro y hy; rw [hsize]; exact h.Rlt y hy
  · intro y hy; rw [hR y (h.R0 y hy)]; exact h.R0k y hy
  · intro b' hb'
    rw [hup b' (by omega)]; exact h.ρ0 b' hb'
  · simp only [List.length_set]; exact h.base

/-- what the callee may see -/
theorem viewFlat_VR (hm : MS rf R ρ mem w) {a v : AV} {tb : List Nat} {g : List Bool} {u : Value} (h : VR R ρ w a u) (hv : viewFlat mem a = some (v, tb, g)) (hg : ∀ c ∈ g, c = true) :
    VR (fun x => R x ∨ ∃ b ∈ tb, ρ b = some x) (fun _ => none) w v u ∧ (∀ b ∈ tb, ∃ s, getSlot mem b = some s) := by
  have up : ∀ {a' : AV} {u' : Value}, VR R ρ w a' u' → noLoc a' = true → ∀ (tb : List Nat), VR (fun x => R x ∨ ∃ b ∈ tb, ρ b = some x) (fun _ => none) w a' u' := fun h' hn tb =>
    (h'.anyLoc (ρ' := fun _ => none) hn).mono (fun _ h => .inl h) (fun _ _ => rfl) (.refl w) (fun _ _ h => h)
  cases h with
  | @ptr b esz row off x h =>
    simp only [viewFlat] at hv
    cases hs : getSlot mem b with
    | none => simp [hs] at hv
    | some s =>
      obtain ⟨blk, fr⟩ := s
      have hB : BR R ρ w x blk := by
        rcases hm.blk b _ hs with ⟨y, h1, h2⟩ | ⟨h1, _⟩
        · rw [h] at h1; cases h1; exact h2
        · rw [h] at h1; cases h1
      cases blk with
      | one cs =>
        simp only [hs] at hv
        cases hq : (Nat.beq row 0 && cs.all noLoc) with
        | false => simp [hq] at hv
        | true =>
          simp [hq] at hv
          obtain ⟨rfl, rfl, rfl⟩ := hv
          simp only [Bool.and_eq_true] at hq
          have hr0 := Nat.eq_of_beq_eq_true hq.1
          subst hr0
          obtain ⟨c, e, h1, h2, h3⟩ := hB
          refine ⟨?_, fun b' hb' => by simp at hb'; subst hb'; exact ⟨_, hs⟩⟩
          refine .vptr (fun j => (c[off + j]?).getD Go.undef) (.inr ⟨b, by simp, h⟩) (fun j q hj => ?_) (fun j q hj => ?_) (fun j q hj => ?_)
          all_goals rw [List.getElem?_drop] at hj; obtain ⟨q1, u, q2, q3⟩ := h3 _ _ hj
          · exact ⟨q1, all_get hq.2 hj⟩
          · rw [cell_of_row w x _ c e (0, 0) h1]; simp at q2; simp [q2]
          · simp at q2; simp only [q2, Option.getD_some]; exact up q3 (all_get hq.2 hj) _
      | many et esz' fl rows =>
        cases fl with
        | false => simp [hs] at hv
        | true =>
          simp only [hs] at hv
          cases he : Nat.beq esz esz' with
          | false => simp [he] at hv
          | true =>
            have he' := Nat.eq_of_beq_eq_true he
            subst he'
            cases hr : rows[row]? with
            | none => simp [he, hr] at hv
            | some r =>
              simp [he, hr] at hv
              obtain ⟨rfl, rfl, rfl⟩ := hv
              obtain ⟨c, h1, _, h3, h4, h5⟩ := hB
              obtain ⟨_, h6⟩ := h4 row r hr
              have h7 := h5 rfl row r hr
              refine ⟨?_, fun b' hb' => by simp at hb'; subst hb'; exact ⟨_, hs⟩⟩
              refine .vptr (fun j => (c[row * esz + off + j]?).getD Go.undef) (.inr ⟨b, by simp, h⟩) (fun j q hj => ?_) (fun j q hj => ?_) (fun j q hj => ?_)
              all_goals rw [List.getElem?_drop] at hj; obtain ⟨q1, u, q2, q3⟩ := h6 _ _ hj; rw [← Nat.add_assoc] at q2
              · exact ⟨q1, all_get h7 hj⟩
              · rw [cell_of_row w x _ c et (0, 0) h1]; simp [q2]
              · simp only [q2, Option.getD_some]; exact up q3 (all_get h7 hj) _
  | @lsl0 kn b et esz =>
    simp only [viewFlat] at hv
    cases hs : getSlot mem b with
    | none => simp [hs] at hv
    | some s =>
      obtain ⟨blk, fr⟩ := s
      cases blk with
      | one cs => simp [hs] at hv
      | many et' esz' fl rows =>
        cases fl with
        | false => simp [hs] at hv
        | true =>
          simp only [hs] at hv
          cases he : (Nat.beq et et' && Nat.beq esz esz') with
          | false => simp [he] at hv
          | true =>
            simp [he] at hv
            obtain ⟨rfl, rfl, rfl⟩ := hv
            exact ⟨.vsl0, fun b' hb' => by simp at hb'; subst hb'; exact ⟨_, hs⟩⟩
  | @lsl kn b et esz len x cap c fr hb hlc hcm hh hsz =>
    simp only [viewFlat] at hv
    cases hs : getSlot mem b with
    | none => simp [hs] at hv
    | some s =>
      obtain ⟨blk, fr'⟩ := s
      have hB : BR R ρ w x blk := by
        rcases hm.blk b _ hs with ⟨y, h1, h2⟩ | ⟨h1, _⟩
        · rw [hb] at h1; cases h1; exact h2
        · rw [hb] at h1; cases h1
      cases blk with
      | one cs => simp [hs] at hv
      | many et' esz' fl rows =>
        cases fl with
        | false => simp [hs] at hv
        | true =>
          simp only [hs] at hv
          cases he : (Nat.beq et et' && Nat.beq esz esz') with
          | false => simp [he] at hv
          | true =>
            simp [he] at hv
            obtain ⟨rfl, rfl, rfl⟩ := hv
            simp only [Bool.and_eq_true] at he
            have he' := Nat.eq_of_beq_eq_true he.2
            subst he'
            have hle : len ≤ rows.length := Nat.le_of_ble_eq_true (hg _ (List.mem_singleton.2 rfl))
            obtain ⟨c', h1, h0, h3, h4, h5⟩ := hB
            refine ⟨?_, fun b' hb' => by simp at hb'; subst hb'; exact ⟨_, hs⟩⟩
            have hrow : ∀ r, r < len → ∃ row, rows[r]? = some row ∧ rows[r]?.getD [] = row := fun r hr => ⟨rows[r]'(by omega), List.getElem?_eq_getElem (by omega), by simp [List.getD, List.getElem?_eq_getElem (show r < rows.length by omega)]⟩
            refine .vsl (fun r j => (c'[r * esz + j]?).getD Go.undef) (.inr ⟨b, by simp, hb⟩) (by omega) h0 ?_ ?_ ?_ ?_
            · intro r hr
              obtain ⟨row, k1, k2⟩ := hrow r hr
              rw [k2]; exact (h4 r row k1).1
            all_goals
              intro r j q hr hj
              obtain ⟨row, k1, k2⟩ := hrow r hr
              rw [k2] at hj
              obtain ⟨q1, u, q2, q3⟩ := (h4 r row k1).2 _ _ hj
              have q4 := all_get (h5 rfl r row k1) hj
            · exact ⟨q1, q4⟩
            · rw [cell_of_row w x _ c' et' (0, 0) h1]; simp [q2]
            · simp only [q2, Option.getD_some]; exact up q3 q4 _
  | agg vs h1 h2 h3 =>
    rename_i cs
    simp only [viewFlat] at hv
    cases hq : cs.all noLoc with
    | false => simp [hq] at hv
    | true =>
      simp [hq] at hv
      obtain ⟨rfl, rfl, rfl⟩ := hv
      exact ⟨.agg vs h1 h2 (fun i c hc => up (h3 i c hc) (all_get hq hc) _), fun b' hb' => by simp at hb'⟩
  | tup vs h1 h2 => simp [viewFlat] at hv
  | undef => simp [viewFlat] at hv
  | iface _ _ => simp [viewFlat] at hv
  | @clo f cs vs h1 h2 =>
    cases cs with
    | nil => simp [viewFlat] at hv; obtain ⟨rfl, rfl, rfl⟩ := hv; exact ⟨.clo vs h1 (fun i c hc => by simp at hc), fun b' hb' => by simp at hb'⟩
    | cons y ys => simp [viewFlat] at hv
  | lit h => simp [viewFlat] at hv; obtain ⟨rfl, rfl, rfl⟩ := hv; exact ⟨.lit h, fun b' hb' => by simp at hb'⟩
  | kb => simp [viewFlat] at hv; obtain ⟨rfl, rfl, rfl⟩ := hv; exact ⟨.kb, fun b' hb' => by simp at hb'⟩
  | ki h => simp [viewFlat] at hv; obtain ⟨rfl, rfl, rfl⟩ := hv; exact ⟨.ki h, fun b' hb' => by simp at hb'⟩
  | nsl => simp [viewFlat] at hv; obtain ⟨rfl, rfl, rfl⟩ := hv; exact ⟨.nsl, fun b' hb' => by simp at hb'⟩
  | vsl0 => simp [viewFlat] at hv; obtain ⟨rfl, rfl, rfl⟩ := hv; exact ⟨.vsl0, fun b' hb' => by simp at hb'⟩
  | vsl vals hx hl he h1 h2 h3 h4 => simp [viewFlat] at hv; obtain ⟨rfl, rfl, rfl⟩ := hv; exact ⟨up (.vsl vals hx hl he h1 h2 h3 h4) rfl _, fun b' hb' => by simp at hb'⟩
  | vptr vals hx h2 h3 h4 => simp [viewFlat] at hv; obtain ⟨rfl, rfl, rfl⟩ := hv; exact ⟨up (.vptr vals hx h2 h3 h4) rfl _, fun b' hb' => by simp at hb'⟩

end
end Go.Flat
end

section
/- Each operation of the evaluator does what the model's operation does. Part 7: make, append. -/
set_option linter.unusedSimpArgs false
set_option linter.unusedVariables false
namespace Go.Flat
open Go

theorem wrap_small {z : Int} (h0 : 0 ≤ z) (h : z < 16777216) : IntKind.i64.wrap z = z := by
  have e : z % 18446744073709551616 = z := Int.emod_eq_of_lt h0 (by omega)
  simp [IntKind.wrap, IntKind.signed, IntKind.bits, e]
  omega

theorem bytesOk_some {P : Program} {e : TypeId} (h : bytesOk P e = true) : ∃ i, P.info? e = some i ∧ i.bytes ≤ 8388608 := by
  unfold bytesOk at h
  cases hi : P.info? e with
  | none => simp [hi] at h
  | some i => simp [hi] at h; exact ⟨i, rfl, h⟩

theorem szOf_some {P : Program} {t : TypeId} {n : Nat} (h : szOf P t = some n) : ∃ i, P.info? t = some i ∧ i.size = n := by
  unfold szOf at h
  cases hi : P.info? t with
  | none => simp [hi] at h
  | some i => simp [hi] at h; exact ⟨i, rfl, h⟩

theorem range_get {n i k : Nat} (h : (List.range n)[i]? = some k) : k < n ∧ k = i := by
  obtain ⟨h1, h2⟩ := List.getElem?_eq_some_iff.1 h
  simp at h1 h2
  exact ⟨h2 ▸ h1, h2.symm⟩

theorem two_parts {n r j : Nat} (h : j < n) : (r * n + j) / n = r ∧ (r * n + j) % n = j := by
  have hn : 0 < n := by omega
  constructor
  · rw [Nat.mul_comm, Nat.mul_add_div hn, Nat.div_eq_of_lt h, Nat.add_zero]
  · rw [Nat.mul_comm, Nat.mul_add_mod, Nat.mod_eq_of_lt h]

theorem inside {n r j m : Nat} (hj : j < n) (hr : r < m) : r * n + j < m * n := by
  have : (r + 1) * n ≤ m * n := Nat.mul_le_mul_right _ hr
  rw [Nat.add_mul, Nat.one_mul] at this
  omega

section
variable {rf : Ref} {R : Nat → Prop} {ρ : Loc} {w : World} {mem : Mem} {slot : Nat}

theorem make_run {P : Program} {t el : TypeId} {z : Int} {k k' : IntKind} {n : Nat} {zr : AV} (hu : P.underlying t = some (.slice el)) (hn : szOf P el = some n) (hz : zeroA P el = some zr)
    (h1 : zr.cells.all AV.leaf = true) (h2 : zr.cells.all noLoc = true) (h3 : zr.cells.length = n) (h4 : 0 < n) (h5 : bytesOk P el = true) (z0 : 0 ≤ z) (zl : z < 16777216) (hρ : ρ slot = none) (hm : MS rf R ρ mem w) :
    ∃ cells, (Instr.makeSlice t (.int k z) (.int k' z)).run P w = .ok (.slice (some ⟨w.heap.size, 0, none⟩) z.toNat z.toNat) (w.alloc (.cells cells el)) ∧ cells.size = z.toNat * n ∧
      BR R (ρ.upd slot w.heap.size) (w.alloc (.cells cells el)) w.heap.size (.many el n true (List.replicate z.toNat zr.cells)) := by
  obtain ⟨i, zv, k1, k2, k3, k4⟩ := zero_pw (R := R) (ρ := ρ) (w := w) hz h1
  obtain ⟨i', k5, k6⟩ := bytesOk_some h5
  rw [k1] at k5; cases k5
  obtain ⟨i'', k7, k8⟩ := szOf_some hn
  rw [k1] at k7; cases k7
  have hw := wrap_small z0 zl
  have hb : (i.bytes : Int) * z ≤ 281474976710656 := by
    have a1 : (i.bytes : Int) * z ≤ 8388608 * z := Int.mul_le_mul_of_nonneg_right (by omega) z0
    omega
  have c1 : ¬ (z < 0) := by omega
  have c2 : ¬ (281474976710656 < (i.bytes : Int) * z) := by omega
  have c3 : ¬ (z < z) := by omega
  have hzs : zv.cells.size = n := by rw [k4.1, h3]
  let cells : Array Value := (Array.range (z.toNat * n)).map (zv.cells[· % zv.cells.size]!)
  have hcs : cells.size = z.toNat * n := by simp [cells]
  refine ⟨cells, ?_, hcs, cells, heap_alloc_new w _, h4, by simp [hcs], ?_, ?_⟩
  · by_cases h0 : z.toNat = 0
    · have hz0 : z = 0 := by omega
      subst hz0
      have hce : cells = #[] := by
        have : cells.size = 0 := by rw [hcs]; simp
        simpa using this
      rw [hce]
      simp [Instr.makeSlice, run_underlying hu, asInt, asIntOf, typeInfo, k1, hw, sizeOf, newRow, zeroValue, k2, World.alloc_eq]
      congr 2
      apply Array.ext' <;> simp
    · have hne : z.toNat * n ≠ 0 := Nat.mul_ne_zero h0 (by omega)
      simp [Instr.makeSlice, run_underlying hu, asInt, asIntOf, typeInfo, k1, hw, c1, c2, c3, sizeOf, k8, hne, newRow, zeroValue, k2, World.alloc_eq, cells]
  · intro r row hr
    rw [List.getElem?_replicate] at hr
    split at hr
    · cases hr
      refine ⟨h3, fun j q hj => ?_⟩
      obtain ⟨q1, q2⟩ := k4.2 j q hj
      have hjn : j < n := by rw [← h3]; exact (List.getElem?_eq_some_iff.1 hj).1
      rename_i hr
      have hlt : r * n + j < cells.size := by rw [hcs]; exact inside hjn hr
      have hjv : j < zv.cells.size := by omega
      refine ⟨q1, zv.cells[j], ?_, ?_⟩
      · rw [Array.getElem?_eq_getElem hlt]
        simp only [cells, Array.getElem_map, Array.getElem_range, hzs, (two_parts hjn).2]
        rw [Value.get!_eq hjv]
      · rw [getD_eq hjv] at q2
        exact q2.mono (fun _ h => h) (fun x hx => heap_alloc_old w _ x (hm.Rlt x hx)) (.alloc w _) (Loc.upd_old hρ)
    · cases hr
  · intro _ r row hr
    rw [List.getElem?_replicate] at hr
    split at hr
    · cases hr; exact h2
    · cases hr

/-- the source of an append: its cells -/
structure Src (R : Nat → Prop) (ρ : Loc) (w : World) (n : Nat) (rows : List (List AV)) (v : Value) : Prop where
  nil : rows = [] → ∃ (ad : Option Addr) (c : Nat), v = .slice ad 0 c
  some : rows ≠ [] → ∃ (ad : Addr) (c : Nat) (news : List Value), v = .slice (some ad) rows.length c ∧ news.length = rows.length * n ∧ (∀ (j : Nat) (u : Value), news[j]? = some u → w.cell? (ad.add j) = some u) ∧ (∀ u ∈ news, u.oneCell' = true) ∧
      (∀ (r : Nat) (row : List AV), rows[r]? = some row → row.length = n ∧ row.all noLoc = true ∧ ∀ (j : Nat) (q : AV), row[j]? = some q → q.leaf = true ∧ ∃ u, news[r * n + j]? = some u ∧ VR R ρ w q u)

theorem src_vsl {kn : Bool} {n len : Nat} {rows : Nat → List AV} {v : Value} (h : VR R ρ w (.vsl kn n len rows) v) : Src R ρ w n ((List.range len).map rows) v := by
  cases h with
  | vsl0 => exact ⟨fun _ => ⟨_, _, rfl⟩, fun h => absurd rfl h⟩
  | @vsl kn' esz' len' rows' x o cap vals hR hl h0 hrl hlf hcell hvr =>
    refine ⟨fun h => ?_, fun _ => ?_⟩
    · have : len = 0 := by simpa using h
      subst this
      exact ⟨_, _, rfl⟩
    · refine ⟨⟨x, o, none⟩, cap, (List.range (len * n)).map fun k => vals (k / n) (k % n), by simp, by simp, ?_, ?_, ?_⟩
      · intro j u hj
        simp only [List.getElem?_map, Option.map_eq_some_iff] at hj
        obtain ⟨k, hk, rfl⟩ := hj
        obtain ⟨hk1, rfl⟩ := range_get hk
        have hd : k / n < len := (Nat.div_lt_iff_lt_mul h0).2 hk1
        have hmod : k % n < n := Nat.mod_lt _ h0
        rw [Addr.add_lit]
        have hlen := hrl _ hd
        have := hcell (k / n) (k % n) _ hd (List.getElem?_eq_getElem (by omega))
        rw [Nat.mul_comm, Nat.div_add_mod] at this
        exact this
      · intro u hu
        simp only [List.mem_map, List.mem_range] at hu
        obtain ⟨k, hk1, rfl⟩ := hu
        have hd : k / n < len := (Nat.div_lt_iff_lt_mul h0).2 hk1
        have hmod : k % n < n := Nat.mod_lt _ h0
        have hlen := hrl _ hd
        have hg : (rows (k / n))[k % n]? = some _ := List.getElem?_eq_getElem (by omega)
        exact (hvr _ _ _ hd hg).oneCell (hlf _ _ _ hd hg).1
      · intro r row hr
        simp only [List.getElem?_map, Option.map_eq_some_iff] at hr
        obtain ⟨k, hk, rfl⟩ := hr
        obtain ⟨hk1, rfl⟩ := range_get hk
        refine ⟨hrl k hk1, ?_, fun j q hj => ⟨(hlf k j q hk1 hj).1, vals k j, ?_, hvr k j q hk1 hj⟩⟩
        · rw [List.all_eq_true]
          intro q hq
          obtain ⟨j, hj⟩ := List.mem_iff_getElem?.1 hq
          exact (hlf k j q hk1 hj).2
        · have hjn : j < n := by rw [← hrl k hk1]; exact (List.getElem?_eq_some_iff.1 hj).1
          have hlt := inside hjn hk1
          rw [List.getElem?_map, List.getElem?_range hlt]
          simp [(two_parts (r := k) hjn).1, (two_parts (r := k) hjn).2]

theorem src_nil {n : Nat} : Src R ρ w n [] (.slice none 0 0) := ⟨fun _ => ⟨_, _, rfl⟩, fun h => absurd rfl h⟩

/-- what an append leaves: the row, said cell by cell -/
theorem rows_two {R' : Nat → Prop} {ρ' : Loc} {w' : World} {n : Nat} {rows rows2 : List (List AV)} {c : Array Value} (hn : 0 < n)
    (h1 : ∀ (r : Nat) (row : List AV), rows[r]? = some row → row.length = n ∧ Cells R' ρ' w' c (r * n) row)
    (h2 : ∀ (r : Nat) (row : List AV), rows2[r]? = some row → row.length = n ∧ Cells R' ρ' w' c (rows.length * n + r * n) row) :
    ∀ (r : Nat) (row : List AV), (rows ++ rows2)[r]? = some row → row.length = n ∧ Cells R' ρ' w' c (r * n) row := by
  intro r row hr
  rw [List.getElem?_append] at hr
  split at hr
  · exact h1 r row hr
  · rename_i hge
    have := h2 _ row hr
    rw [← Nat.add_mul, show rows.length + (r - rows.length) = r by omega] at this
    exact this

end
end Go.Flat
end

section
/- Each operation of the evaluator does what the model's operation does. Part 8: append. -/
set_option linter.unusedSimpArgs false
set_option linter.unusedVariables false
namespace Go.Flat
open Go

section
variable {rf : Ref} {R : Nat → Prop} {ρ : Loc} {w : World} {mem : Mem} {slot : Nat}

theorem src_view (hm : MS rf R ρ mem w) {n : Nat} {x x' : AV} {vx : Value} {tb : List Nat} {g : List Bool} {rows2 : List (List AV)} {kx : Bool} (h : VR R ρ w x vx) (hv : viewFlat mem x = some (x', tb, g)) (hg : ∀ c ∈ g, c = true)
    (ha : addOf n x' = some (rows2, kx)) : Src R ρ w n rows2 vx := by
  cases h with
  | nsl => simp [viewFlat] at hv; obtain ⟨rfl, _, _⟩ := hv; simp [addOf] at ha; obtain ⟨rfl, _⟩ := ha; exact src_nil
  | @vsl0 kn esz rows a cap =>
    simp [viewFlat] at hv; obtain ⟨rfl, _, _⟩ := hv
    simp only [addOf] at ha
    cases hq : Nat.beq n esz with
    | false => simp [hq] at ha
    | true => simp [hq] at ha; obtain ⟨rfl, _⟩ := ha; exact ⟨fun _ => ⟨_, _, rfl⟩, fun h => absurd rfl h⟩
  | @vsl kn esz len rows x o cap vals hR hl h0 hrl hlf hcell hvr =>
    simp [viewFlat] at hv; obtain ⟨rfl, _, _⟩ := hv
    simp only [addOf] at ha
    cases hq : Nat.beq n esz with
    | false => simp [hq] at ha
    | true =>
      have := Nat.eq_of_beq_eq_true hq
      subst this
      simp [hq] at ha; obtain ⟨rfl, _⟩ := ha
      exact src_vsl (kn := kn) (.vsl vals hR hl h0 hrl hlf hcell hvr)
  | @lsl0 kn b et esz =>
    simp only [viewFlat] at hv
    cases hs : getSlot mem b with
    | none => simp [hs] at hv
    | some s =>
      obtain ⟨blk, fr⟩ := s
      cases blk with
      | one cs => simp [hs] at hv
      | many et' esz' fl rows =>
        cases fl with
        | false => simp [hs] at hv
        | true =>
          simp only [hs] at hv
          cases he : (Nat.beq et et' && Nat.beq esz esz') with
          | false => simp [he] at hv
          | true =>
            simp [he] at hv
            obtain ⟨rfl, _, _⟩ := hv
            simp only [addOf] at ha
            cases hq : Nat.beq n esz with
            | false => simp [hq] at ha
            | true => simp [hq] at ha; obtain ⟨rfl, _⟩ := ha; exact src_nil
  | @lsl kn b et esz len x cap c fr hb hlc hcm hh hsz =>
    simp only [viewFlat] at hv
    cases hs : getSlot mem b with
    | none => simp [hs] at hv
    | some s =>
      obtain ⟨blk, fr'⟩ := s
      have hB : BR R ρ w x blk := by
        rcases hm.blk b _ hs with ⟨y, h1, h2⟩ | ⟨h1, _⟩
        · rw [hb] at h1; cases h1; exact h2
        · rw [hb] at h1; cases h1
      cases blk with
      | one cs => simp [hs] at hv
      | many et' esz' fl rows =>
        cases fl with
        | false => simp [hs] at hv
        | true =>
          simp only [hs] at hv
          cases he : (Nat.beq et et' && Nat.beq esz esz') with
          | false => simp [he] at hv
          | true =>
            simp only [he, cond_true, Option.some.injEq, Prod.mk.injEq] at hv
            obtain ⟨rfl, rfl, rfl⟩ := hv
            simp only [Bool.and_eq_true] at he
            have he' := Nat.eq_of_beq_eq_true he.2
            subst he'
            have hle : len ≤ rows.length := Nat.le_of_ble_eq_true (hg _ (List.mem_singleton.2 rfl))
            simp only [addOf] at ha
            cases hq : Nat.beq n esz with
            | false => simp [hq] at ha
            | true =>
              have := Nat.eq_of_beq_eq_true hq
              subst this
              simp only [hq, cond_true, Option.some.injEq, Prod.mk.injEq] at ha
              obtain ⟨rfl, _⟩ := ha
              obtain ⟨c', h1, h0, h3, h4, h5⟩ := hB
              have hrow : ∀ r, r < len → ∃ row, rows[r]? = some row ∧ rows.getD r [] = row := fun r hr => ⟨rows[r]'(by omega), List.getElem?_eq_getElem (by omega), by simp [List.getD, List.getElem?_eq_getElem (show r < rows.length by omega)]⟩
              refine ⟨fun h => ?_, fun _ => ?_⟩
              · have : len = 0 := by simpa using h
                subst this
                exact ⟨_, _, rfl⟩
              · have hcs : len * n ≤ c'.size := Nat.le_trans (Nat.mul_le_mul_right _ hle) h3
                have hget : ∀ (r : Nat) (row : List AV) (j : Nat) (q : AV), r < len → rows[r]? = some row → row[j]? = some q → r * n + j < len * n ∧ q.leaf = true ∧ noLoc q = true ∧ ∃ u, c'[r * n + j]? = some u ∧ VR R ρ w q u := by
                  intro r row j q hr hrow hj
                  obtain ⟨k1, k2⟩ := h4 r row hrow
                  obtain ⟨q1, q2⟩ := k2 j q hj
                  exact ⟨inside (by rw [← k1]; exact (List.getElem?_eq_some_iff.1 hj).1) hr, q1, all_get (h5 rfl r row hrow) hj, q2⟩
                refine ⟨⟨x, 0, none⟩, cap, c'.toList.take (len * n), by simp, by simp; omega, ?_, ?_, ?_⟩
                · intro j u hj
                  rw [List.getElem?_take] at hj
                  split at hj
                  · rw [Addr.add_lit, Nat.zero_add, cell_of_row w x j c' et' (0, 0) h1]; simpa using hj
                  · cases hj
                · intro u hu
                  obtain ⟨j, hj⟩ := List.mem_iff_getElem?.1 hu
                  rw [List.getElem?_take] at hj
                  split at hj
                  · rename_i hjl
                    have hd : j / n < len := (Nat.div_lt_iff_lt_mul h0).2 hjl
                    have hmod : j % n < n := Nat.mod_lt _ h0
                    obtain ⟨row, k1, _⟩ := hrow _ hd
                    have hlen := (h4 _ row k1).1
                    obtain ⟨_, q1, _, u', q2, q3⟩ := hget (j / n) row (j % n) _ hd k1 (List.getElem?_eq_getElem (by omega))
                    rw [Nat.mul_comm, Nat.div_add_mod] at q2
                    have : u = u' := by simpa [q2] using hj.symm
                    subst this
                    exact q3.oneCell q1
                  · cases hj
                · intro r row hr
                  simp only [List.getElem?_map, Option.map_eq_some_iff] at hr
                  obtain ⟨k, hk, rfl⟩ := hr
                  obtain ⟨hk1, hke⟩ := range_get hk
                  subst hke
                  obtain ⟨row, k1, k2⟩ := hrow k hk1
                  rw [k2]
                  refine ⟨(h4 k row k1).1, h5 rfl k row k1, fun j q hj => ?_⟩
                  obtain ⟨q0, q1, _, u, q2, q3⟩ := hget k row j q hk1 k1 hj
                  refine ⟨q1, u, ?_, q3⟩
                  rw [List.getElem?_take, if_pos q0]
                  simpa using q2
  | @ptr b esz row off y h =>
    have : ∃ cs, x' = .vptr cs := by
      simp only [viewFlat] at hv
      cases hs : getSlot mem b with
      | none => simp [hs] at hv
      | some s =>
        obtain ⟨blk, fr⟩ := s
        cases blk with
        | one cs =>
          simp only [hs] at hv
          cases hq : (Nat.beq row 0 && cs.all noLoc) with
          | false => simp [hq] at hv
          | true => simp [hq] at hv; exact ⟨_, hv.1.symm⟩
        | many et esz' fl rows =>
          cases fl with
          | false => simp [hs] at hv
          | true =>
            simp only [hs] at hv
            cases he : Nat.beq esz esz' with
            | false => simp [he] at hv
            | true =>
              cases hr : rows[row]? with
              | none => simp [he, hr] at hv
              | some r => simp [he, hr] at hv; exact ⟨_, hv.1.symm⟩
    obtain ⟨cs, rfl⟩ := this
    simp [addOf] at ha
  | agg vs h1 h2 h3 =>
    rename_i cs
    simp only [viewFlat] at hv
    cases hq : cs.all noLoc with
    | false => simp [hq] at hv
    | true => simp [hq] at hv; obtain ⟨rfl, _⟩ := hv; simp [addOf] at ha
  | tup vs h1 h2 => simp [viewFlat] at hv
  | undef => simp [viewFlat] at hv
  | iface _ _ => simp [viewFlat] at hv
  | @clo f cs vs h1 h2 =>
    cases cs with
    | nil => simp [viewFlat] at hv; obtain ⟨rfl, _⟩ := hv; simp [addOf] at ha
    | cons y ys => simp [viewFlat] at hv
  | lit h => simp [viewFlat] at hv; obtain ⟨rfl, _⟩ := hv; simp [addOf] at ha
  | kb => simp [viewFlat] at hv; obtain ⟨rfl, _⟩ := hv; simp [addOf] at ha
  | ki h => simp [viewFlat] at hv; obtain ⟨rfl, _⟩ := hv; simp [addOf] at ha
  | vptr vals hx h2 h3 h4 => simp [viewFlat] at hv; obtain ⟨rfl, _⟩ := hv; simp [addOf] at ha

theorem Src.len {n : Nat} {rows : List (List AV)} {v : Value} (h : Src R ρ w n rows v) : ∃ ad c, v = .slice ad rows.length c := by
  by_cases h0 : rows = []
  · obtain ⟨ad, c, e⟩ := h.nil h0; subst h0; exact ⟨ad, c, e⟩
  · obtain ⟨ad, c, _, e, _⟩ := h.some h0; exact ⟨Option.some ad, c, e⟩

theorem firstCells_zero {P : Program} (size : Nat) (ad : Option Addr) (c : Nat) (w : World) : (Builtin.firstCells size 0 (.slice ad 0 c)).run P w = .ok #[] w := by
  cases ad with
  | none => simp [Builtin.firstCells]
  | some a => simp [Builtin.firstCells, loadCells, loadCellsFrom]

theorem run_append_zero {P : Program} {t ty e : TypeId} {n : Nat} (ht : P.underlying t = some (.slice e)) (hn : szOf P e = some n) (ad : Option Addr) (m cap : Nat) (hmc : m ≤ cap) (ad' : Option Addr) (c : Nat) (w : World) :
    (Builtin.append_ #[t, t] ty #[.slice ad m cap, .slice ad' 0 c]).run P w = .ok (.slice ad m cap) w := by
  have h1 := firstCells_zero (P := P) n ad' c w
  cases ad with
  | none => simp [Builtin.append_, run_underlying ht, run_sizeOf hn, Builtin.lenOf, hmc, h1]
  | some a => simp [Builtin.append_, run_underlying ht, run_sizeOf hn, Builtin.lenOf, hmc, h1, storeCells]

theorem cells_of_list {R' : Nat → Prop} {ρ' : Loc} {w' : World} {c : Array Value} {o : Nat} {row : List AV} {news : List Value} {k : Nat}
    (hc : ∀ (j : Nat) (u : Value), news[j]? = some u → c[o + j]? = some u)
    (h : ∀ (j : Nat) (q : AV), row[j]? = some q → q.leaf = true ∧ ∃ u, news[k + j]? = some u ∧ VR R' ρ' w' q u) : Cells R' ρ' w' c (o + k) row := by
  intro j q hj
  obtain ⟨q1, u, q2, q3⟩ := h j q hj
  exact ⟨q1, u, by rw [Nat.add_assoc]; exact hc _ _ q2, q3⟩

theorem elemOk_some {P : Program} {e : TypeId} {n : Nat} (h : elemOk P e n = true) : ∃ i z, P.info? e = some i ∧ i.zero = some z ∧ z.cells.size = n := by
  unfold elemOk at h
  cases hz : zeroA P e with
  | none => simp [hz] at h
  | some z =>
    simp only [hz, Bool.and_eq_true] at h
    obtain ⟨i, v, k1, k2, k3, k4⟩ := zero_pw (R := fun _ => True) (ρ := fun _ => none) (w := default) hz h.1
    exact ⟨i, v, k1, k2, by rw [k4.1]; exact Nat.eq_of_beq_eq_true h.2⟩

/-- a new row for what is appended -/
theorem append_new {P : Program} (hm : MS rf R ρ mem w) (hl : slot < mem.length) (hb : rf.base ≤ slot) (hρ : ρ slot = none) {el n cap : Nat} {kn : Bool} {rows rows2 : List (List AV)} {olds news : List Value} {zs : Array Value}
    (hn : 0 < n) (hlo : olds.length = rows.length * n) (hln : news.length = rows2.length * n) (hzs : zs.size = (cap - (rows.length + rows2.length)) * n) (hcap : rows.length + rows2.length ≤ cap) (hcm : cap ≤ maxLen)
    (h1 : ∀ (r : Nat) (row : List AV), rows[r]? = some row → row.length = n ∧ row.all noLoc = true ∧ ∀ (j : Nat) (q : AV), row[j]? = some q → q.leaf = true ∧ ∃ u, olds[r * n + j]? = some u ∧ VR R ρ w q u)
    (h2 : ∀ (r : Nat) (row : List AV), rows2[r]? = some row → row.length = n ∧ row.all noLoc = true ∧ ∀ (j : Nat) (q : AV), row[j]? = some q → q.leaf = true ∧ ∃ u, news[r * n + j]? = some u ∧ VR R ρ w q u) :
    let obj := Obj.cells (olds.toArray ++ news.toArray ++ zs) el
    MS rf R (ρ.upd slot w.heap.size) (mem.set slot (some ⟨.many el n true (rows ++ rows2), false⟩)) (w.drew.alloc obj) ∧ Post R ρ w R (ρ.upd slot w.heap.size) (w.drew.alloc obj) slot 1 ∧
      VR R (ρ.upd slot w.heap.size) (w.drew.alloc obj) (.lsl kn slot el n (rows.length + rows2.length)) (.slice (some ⟨w.heap.size, 0, none⟩) (rows.length + rows2.length) cap) := by
  intro obj
  have hmd : MS rf R ρ mem w.drew := hm.heap rfl ⟨rfl, rfl⟩
  have hold : ∀ x, R x → (w.drew.alloc obj).heap[x]? = w.heap[x]? := fun x hx => heap_alloc_old w.drew obj x (hm.Rlt x hx)
  have hsz : Sizes w (w.drew.alloc obj) := .alloc w.drew obj
  have hnew : (w.drew.alloc obj).heap[w.heap.size]? = some obj := heap_alloc_new w.drew obj
  have hlen : (olds.toArray ++ news.toArray ++ zs).size = cap * n := by
    simp only [Array.size_append, List.size_toArray, hlo, hln, hzs]
    rw [← Nat.add_mul, ← Nat.add_mul]
    congr 1
    omega
  have go : ∀ (j : Nat) (u : Value), olds[j]? = some u → (olds.toArray ++ news.toArray ++ zs)[0 + j]? = some u := by
    intro j u hj
    have hlt := (List.getElem?_eq_some_iff.1 hj).1
    rw [Nat.zero_add, Array.getElem?_append_left (by simp; omega), Array.getElem?_append_left (by simpa using hlt)]
    simpa using hj
  have gn : ∀ (j : Nat) (u : Value), news[j]? = some u → (olds.toArray ++ news.toArray ++ zs)[rows.length * n + j]? = some u := by
    intro j u hj
    have hlt := (List.getElem?_eq_some_iff.1 hj).1
    rw [Array.getElem?_append_left (by simp; omega), Array.getElem?_append_right (by simp; omega)]
    simp only [List.size_toArray, hlo]
    simpa using hj
  have hB : BR R (ρ.upd slot w.heap.size) (w.drew.alloc obj) w.heap.size (.many el n true (rows ++ rows2)) := by
    refine ⟨_, hnew, hn, ?_, rows_two hn (fun r row hr => ?_) (fun r row hr => ?_), fun _ r row hr => ?_⟩
    · rw [hlen, List.length_append]; exact Nat.mul_le_mul_right _ hcap
    · obtain ⟨k1, _, k3⟩ := h1 r row hr
      refine ⟨k1, ?_⟩
      have := cells_of_list (R' := R) (ρ' := ρ.upd slot w.heap.size) (w' := w.drew.alloc obj) (o := 0) go (fun j q hj => ⟨(k3 j q hj).1, (k3 j q hj).2.choose, (k3 j q hj).2.choose_spec.1, (k3 j q hj).2.choose_spec.2.mono (fun _ h => h) hold hsz (Loc.upd_old hρ)⟩)
      simpa using this
    · obtain ⟨k1, _, k3⟩ := h2 r row hr
      exact ⟨k1, cells_of_list (R' := R) (ρ' := ρ.upd slot w.heap.size) (w' := w.drew.alloc obj) gn (fun j q hj => ⟨(k3 j q hj).1, (k3 j q hj).2.choose, (k3 j q hj).2.choose_spec.1, (k3 j q hj).2.choose_spec.2.mono (fun _ h => h) hold hsz (Loc.upd_old hρ)⟩)⟩
    · rw [List.getElem?_append] at hr
      split at hr
      · exact (h1 r row hr).2.1
      · exact (h2 _ row hr).2.1
  refine ⟨hmd.alloc hl hb hρ hB, ⟨fun _ h => h, hold, hsz, Loc.upd_old hρ, fun b hb => by simp [Loc.upd, show b ≠ slot by omega]⟩, .lsl (by simp [Loc.upd]) hcap hcm hnew hlen⟩

theorem append_A {P : Program} (hm : MS rf R ρ mem w) (hl : slot < mem.length) (hb : rf.base ≤ slot) (hρ : ρ slot = none) {t ty el n : Nat} {kn : Bool} {rows2 : List (List AV)} {vx : Value}
    (hu : P.underlying t = some (.slice el)) (hn : szOf P el = some n) (hn0 : 0 < n) (hby : bytesOk P el = true) (hel : elemOk P el n = true) (src : Src R ρ w n rows2 vx) (hs : rows2.length < 16777216) :
    ∃ v' w' ρ', (Builtin.append_ #[t, t] ty #[.slice none 0 0, vx]).run P w = .ok v' w' ∧ MS rf R ρ' (mem.set slot (some ⟨.many el n true rows2, false⟩)) w' ∧ Post R ρ w R ρ' w' slot 1 ∧ VR R ρ' w' (.lsl kn slot el n rows2.length) v' := by
  obtain ⟨i, hi, hbytes⟩ := bytesOk_some hby
  obtain ⟨i', hi', hsize⟩ := szOf_some hn
  rw [hi] at hi'; cases hi'
  obtain ⟨i', z, hi', hz, hzs⟩ := elemOk_some hel
  rw [hi] at hi'; cases hi'
  by_cases h0 : rows2 = []
  · obtain ⟨ad, c, rfl⟩ := src.nil h0
    subst h0
    exact ⟨.slice none 0 0, w, ρ, run_append_zero hu hn none 0 0 (Nat.le_refl _) ad c w, hm.empty hl hρ, .refl R ρ w slot _, .lsl0⟩
  · obtain ⟨ad, c, news, rfl, hln, hnews, h1, hrows⟩ := src.some h0
    have hpos : 0 < rows2.length := List.length_pos_iff.2 h0
    have hb48 : rows2.length * i.bytes ≤ 281474976710656 := by
      have := Nat.mul_le_mul (Nat.le_of_lt hs) hbytes
      omega
    have hr := run_append_nil (P := P) w t ty el i z hu hi hz ad rows2.length c news (by rw [hsize]; exact hln) hnews hpos (by omega) hb48
    have hge := grownCap_ge w rows2.length 0 el
    have hcm : grownCap w rows2.length 0 el ≤ maxLen := grownCap_le_maxLen w rows2.length 0 el (by simp only [maxLen]; omega)
    have hnw := append_new (P := P) (kn := kn) hm hl hb hρ (rows := []) (rows2 := rows2) (olds := []) (news := news) (zs := Builtin.zeroCells z.cells (grownCap w rows2.length 0 el - rows2.length)) (el := el) (cap := grownCap w rows2.length 0 el)
      hn0 (by simp) hln (by rw [size_zeroCells, hzs]; simp) (by simpa using hge) hcm (fun r row hr => by simp at hr) hrows
    simp only [List.nil_append, List.length_nil, Nat.zero_add, Array.empty_append] at hnw
    exact ⟨_, _, _, hr, hnw⟩

theorem append_B {P : Program} (hm : MS rf R ρ mem w) (hl : slot < mem.length) (hb : rf.base ≤ slot) (hρ : ρ slot = none) {t ty el n b xx cap : Nat} {kn : Bool} {rows rows2 : List (List AV)} {vx : Value} {s0 : Slot} {c : Array Value}
    (hu : P.underlying t = some (.slice el)) (hn : szOf P el = some n) (hn0 : 0 < n) (hby : bytesOk P el = true) (hel : elemOk P el n = true) (src : Src R ρ w n rows2 vx) (hsm : rows.length + rows2.length < 16777216)
    (hs : getSlot mem b = some s0) (hf : s0.frozen = false) (hx : ρ b = some xx) (hlc : rows.length ≤ cap) (hcm : cap ≤ maxLen) (hh : w.heap[xx]? = some (.cells c el (0, 0))) (hcs : c.size = cap * n)
    (hrows : ∀ (r : Nat) (row : List AV), rows[r]? = some row → row.length = n ∧ Cells R ρ w c (r * n) row ∧ row.all noLoc = true) :
    ∃ v' w' ρ', (Builtin.append_ #[t, t] ty #[.slice (some ⟨xx, 0, none⟩) rows.length cap, vx]).run P w = .ok v' w' ∧ MS rf R ρ' ((mem.set b none).set slot (some ⟨.many el n true (rows ++ rows2), false⟩)) w' ∧ Post R ρ w R ρ' w' slot 1 ∧
      VR R ρ' w' (.lsl kn slot el n (rows.length + rows2.length)) v' := by
  obtain ⟨i, hi, hbytes⟩ := bytesOk_some hby
  obtain ⟨i', hi', hsize⟩ := szOf_some hn
  rw [hi] at hi'; cases hi'
  obtain ⟨i', z, hi', hz, hzs⟩ := elemOk_some hel
  rw [hi] at hi'; cases hi'
  have hup : ρ.upd slot xx slot = some xx := by simp [Loc.upd]
  have hrc : rows.length * n ≤ c.size := by rw [hcs]; exact Nat.mul_le_mul_right _ hlc
  have hnR : ∀ y, R y → y ≠ xx := fun y hy e => hm.nR b xx s0 hs hf hx (e ▸ hy)
  by_cases h0 : rows2 = []
  · obtain ⟨ad, c', rfl⟩ := src.nil h0
    subst h0
    have hB : BR R (ρ.upd slot xx) w xx (.many el n true (rows ++ [])) := by
      refine ⟨c, hh, hn0, by simpa using hrc, fun r row hr => ?_, fun _ r row hr => ?_⟩
      · rw [List.append_nil] at hr
        obtain ⟨k1, k2, _⟩ := hrows r row hr
        exact ⟨k1, k2.mono (fun _ h => h) (fun _ _ => rfl) (.refl w) (Loc.upd_old hρ)⟩
      · rw [List.append_nil] at hr; exact (hrows r row hr).2.2
    exact ⟨_, w, ρ.upd slot xx, run_append_zero hu hn (some ⟨xx, 0, none⟩) rows.length cap hlc ad c' w, hm.move hs hf hx hl hb hρ (fun _ _ => rfl) (.refl w) rfl hB,
      ⟨fun _ h => h, fun _ _ => rfl, .refl w, Loc.upd_old hρ, fun b hb => by simp [Loc.upd, show b ≠ slot by omega]⟩, .lsl hup (by simpa using hlc) hcm hh hcs⟩
  · obtain ⟨ad, c', news, rfl, hln, hnews, h1, hrows2⟩ := src.some h0
    have hpos : 0 < rows2.length := List.length_pos_iff.2 h0
    by_cases hroom : rows.length + rows2.length ≤ cap
    · have hfit : rows.length * i.size + news.length ≤ c.size := by
        rw [hsize, hln, hcs, ← Nat.add_mul]; exact Nat.mul_le_mul_right _ hroom
      have hr := run_append_room (P := P) w t ty el i hu hi xx rows.length cap c hh ad rows2.length c' news (by rw [hsize]; exact hln) hnews h1 hroom hfit
      rw [hsize] at hr
      let d : Array Value := (c.toList.take (rows.length * n) ++ news ++ c.toList.drop (rows.length * n + news.length)).toArray
      have hfit' : rows.length * n + news.length ≤ c.toList.length := by rw [hsize] at hfit; simpa using hfit
      have hd : ∀ j, d[j]? = if rows.length * n ≤ j ∧ j < rows.length * n + news.length then news[j - rows.length * n]? else c.toList[j]? := fun j => by
        have := get_put c.toList (rows.length * n) news hfit' j
        simpa [d] using this
      have hds : d.size = c.size := by simp [d]; simp at hfit'; omega
      have hsz := Sizes.setRow (c' := d) hh hds
      have hkeep : ∀ y, R y → (w.setRow xx d).heap[y]? = w.heap[y]? := fun y hy => setRow_other w xx y d (hnR y hy)
      have hB : BR R (ρ.upd slot xx) (w.setRow xx d) xx (.many el n true (rows ++ rows2)) := by
        refine ⟨d, setRow_heap w xx c d el (0, 0) hh, hn0, ?_, rows_two hn0 (fun r row hr => ?_) (fun r row hr => ?_), fun _ r row hr => ?_⟩
        · rw [hds, hcs, List.length_append]; exact Nat.mul_le_mul_right _ hroom
        · obtain ⟨k1, k2, _⟩ := hrows r row hr
          refine ⟨k1, fun j q hj => ?_⟩
          obtain ⟨q1, u, q2, q3⟩ := k2 j q hj
          have hjn : j < n := by rw [← k1]; exact (List.getElem?_eq_some_iff.1 hj).1
          have := inside hjn (List.getElem?_eq_some_iff.1 hr).1
          refine ⟨q1, u, ?_, q3.mono (fun _ h => h) hkeep hsz (Loc.upd_old hρ)⟩
          rw [hd, if_neg (by omega)]
          simpa using q2
        · obtain ⟨k1, _, k3⟩ := hrows2 r row hr
          refine ⟨k1, fun j q hj => ?_⟩
          obtain ⟨q1, u, q2, q3⟩ := k3 j q hj
          have := (List.getElem?_eq_some_iff.1 q2).1
          refine ⟨q1, u, ?_, q3.mono (fun _ h => h) hkeep hsz (Loc.upd_old hρ)⟩
          rw [hd, if_pos (by omega), show rows.length * n + r * n + j - rows.length * n = r * n + j by omega]
          exact q2
        · rw [List.getElem?_append] at hr
          split at hr
          · exact (hrows r row hr).2.2
          · exact (hrows2 _ row hr).2.1
      exact ⟨_, _, ρ.upd slot xx, hr, hm.move hs hf hx hl hb hρ (fun y hy => setRow_other w xx y d hy) hsz (setRow_size w xx d) hB,
        ⟨fun _ h => h, hkeep, hsz, Loc.upd_old hρ, fun b hb => by simp [Loc.upd, show b ≠ slot by omega]⟩, .lsl hup hroom hcm (setRow_heap w xx c d el (0, 0) hh) (hds.trans hcs)⟩
    · have hg : cap < rows.length + rows2.length := by omega
      have hb47 : (rows.length + rows2.length) * i.bytes ≤ 140737488355328 := by
        have := Nat.mul_le_mul (Nat.le_of_lt hsm) hbytes
        omega
      have holds : ∀ (j : Nat) (v : Value), (c.toList.take (rows.length * n))[j]? = some v → w.cell? ((⟨xx, 0, none⟩ : Addr).add j) = some v := by
        intro j v hj
        rw [List.getElem?_take] at hj
        split at hj
        · rw [Addr.add_lit, Nat.zero_add, cell_of_row w xx j c el (0, 0) hh]; simpa using hj
        · cases hj
      have hlo : (c.toList.take (rows.length * n)).length = rows.length * n := by simp; omega
      have hr := run_append_grow (P := P) w t ty el i z hu hi hz ⟨xx, 0, none⟩ rows.length cap (c.toList.take (rows.length * n)) (by rw [hsize]; exact hlo) holds ad rows2.length c' news (by rw [hsize]; exact hln) hnews hg (by omega) (growslice_fits hg hb47)
      have hge := grownCap_ge w (rows.length + rows2.length) cap el
      have hcm' : grownCap w (rows.length + rows2.length) cap el ≤ maxLen := grownCap_le_maxLen w _ cap el (by simp only [maxLen]; omega)
      have hnw := append_new (P := P) (kn := kn) (hm.drop b) (by simpa using hl) hb hρ (rows := rows) (rows2 := rows2) (olds := c.toList.take (rows.length * n)) (news := news) (zs := Builtin.zeroCells z.cells (grownCap w (rows.length + rows2.length) cap el - (rows.length + rows2.length))) (el := el)
        (cap := grownCap w (rows.length + rows2.length) cap el) hn0 hlo hln (by rw [size_zeroCells, hzs]) hge hcm'
        (fun r row hr => by
          obtain ⟨k1, k2, k3⟩ := hrows r row hr
          refine ⟨k1, k3, fun j q hj => ?_⟩
          obtain ⟨q1, u, q2, q3⟩ := k2 j q hj
          have hjn : j < n := by rw [← k1]; exact (List.getElem?_eq_some_iff.1 hj).1
          have := inside hjn (List.getElem?_eq_some_iff.1 hr).1
          exact ⟨q1, u, by rw [List.getElem?_take, if_pos this]; simpa using q2, q3⟩) hrows2
      exact ⟨_, _, _, hr, hnw⟩

theorem append_sim {P : Program} (hm : MS rf R ρ mem w) (hl : slot < mem.length) (hb : rf.base ≤ slot) (hρ : ρ slot = none) {t ty : TypeId} {s x : AV} {vs vx : Value} {e : Eff}
    (h1 : VR R ρ w s vs) (h2 : VR R ρ w x vx) (h : appendA P mem slot t s x = some e) (hc : ∀ c ∈ e.conds, c = true) :
    ∃ v' w' ρ', (Builtin.append_ #[t, t] ty #[vs, vx]).run P w = .ok v' w' ∧ MS rf R ρ' (applyU mem e.upd) w' ∧ Post R ρ w R ρ' w' slot 1 ∧ VR R ρ' w' e.v v' := by
  unfold appendA at h
  cases hu : P.underlying t with
  | none => simp [hu] at h
  | some d =>
    cases d with
    | slice el =>
      simp only [hu] at h
      cases hn : szOf P el with
      | none => simp [hn] at h
      | some n =>
        simp only [hn] at h
        cases hq : (Nat.beq n 0 || !bytesOk P el || !elemOk P el n) with
        | true => simp [hq] at h
        | false =>
          simp only [hq, cond_false] at h
          simp only [Bool.or_eq_false_iff, Bool.not_eq_false'] at hq
          obtain ⟨⟨hq1, hby⟩, hel⟩ := hq
          have hn0 : 0 < n := by
            rcases Nat.eq_zero_or_pos n with h | h
            · subst h; simp at hq1
            · exact h
          cases hv : viewFlat mem x with
          | none => simp [hv] at h
          | some p =>
            obtain ⟨x', tx, gx⟩ := p
            simp only [hv] at h
            cases hadd : addOf n x' with
            | none => simp [hadd] at h
            | some p2 =>
              obtain ⟨rows2, kx⟩ := p2
              simp only [hadd] at h
              cases h1 with
              | nsl =>
                simp only [Option.some.injEq] at h
                subst h
                have hsm : rows2.length < 16777216 := by simpa using hc _ (List.mem_cons_self)
                have src := src_view hm h2 hv (fun c hcg => hc c (List.mem_cons_of_mem _ hcg)) hadd
                simpa [applyU, apply1] using append_A (P := P) (ty := ty) (kn := kx) hm hl hb hρ hu hn hn0 hby hel src hsm
              | @lsl0 kn b et esz =>
                simp only at h
                cases hs : getSlot mem b with
                | none => simp [hs] at h
                | some s0 =>
                  obtain ⟨blk, fr⟩ := s0
                  cases blk with
                  | one cs => simp [hs] at h
                  | many et' esz' fl rows =>
                    cases fl with
                    | false => simp [hs] at h
                    | true =>
                      cases fr with
                      | true => simp [hs] at h
                      | false =>
                        simp only [hs] at h
                        cases hg : (Nat.beq el et && Nat.beq el et' && Nat.beq n esz && Nat.beq n esz') with
                        | false => simp [hg] at h
                        | true =>
                          simp only [hg, cond_true, Option.some.injEq] at h
                          subst h
                          have hrl : rows.length = 0 := by simpa using hc _ (List.mem_cons_self)
                          have hsm : 0 + rows2.length < 16777216 := by simpa using hc _ (List.mem_cons_of_mem _ List.mem_cons_self)
                          have src := src_view hm h2 hv (fun c hcg => hc c (List.mem_cons_of_mem _ (List.mem_cons_of_mem _ hcg))) hadd
                          have hr0 : rows = [] := List.eq_nil_of_length_eq_zero hrl
                          subst hr0
                          simp only [Nat.zero_add] at hsm
                          have := append_A (P := P) (ty := ty) (kn := kn && kx) (hm.drop b) (by simpa using hl) hb hρ hu hn hn0 hby hel src hsm
                          simpa [applyU, apply1] using this
              | @lsl kn b et esz len xx cap c fr0 hbx hlc hcm hh hcs =>
                simp only at h
                cases hs : getSlot mem b with
                | none => simp [hs] at h
                | some s0 =>
                  obtain ⟨blk, fr⟩ := s0
                  cases blk with
                  | one cs => simp [hs] at h
                  | many et' esz' fl rows =>
                    cases fl with
                    | false => simp [hs] at h
                    | true =>
                      cases fr with
                      | true => simp [hs] at h
                      | false =>
                        simp only [hs] at h
                        cases hg : (Nat.beq el et && Nat.beq el et' && Nat.beq n esz && Nat.beq n esz') with
                        | false => simp [hg] at h
                        | true =>
                          simp only [hg, cond_true, Option.some.injEq] at h
                          subst h
                          simp only [Bool.and_eq_true] at hg
                          have e1 := Nat.eq_of_beq_eq_true hg.1.1.1
                          have e2 := Nat.eq_of_beq_eq_true hg.1.1.2
                          have e3 := Nat.eq_of_beq_eq_true hg.1.2
                          have e4 := Nat.eq_of_beq_eq_true hg.2
                          subst e1 e2 e3 e4
                          have hrl : rows.length = len := by simpa using hc _ (List.mem_cons_self)
                          subst hrl
                          have hsm : rows.length + rows2.length < 16777216 := by simpa using hc _ (List.mem_cons_of_mem _ List.mem_cons_self)
                          have src := src_view hm h2 hv (fun c hcg => hc c (List.mem_cons_of_mem _ (List.mem_cons_of_mem _ hcg))) hadd
                          have hB : BR R ρ w xx (.many el n true rows) := by
                            rcases hm.blk b _ hs with ⟨y, k1, k2⟩ | ⟨k1, _⟩
                            · rw [hbx] at k1; cases k1; exact k2
                            · rw [hbx] at k1; cases k1
                          obtain ⟨c2, k1, _, _, k4, k5⟩ := hB
                          rw [hh] at k1
                          cases k1
                          have := append_B (P := P) (ty := ty) (kn := kn && kx) hm hl hb hρ hu hn hn0 hby hel src hsm hs rfl hbx hlc hcm hh hcs (fun r row hr => ⟨(k4 r row hr).1, (k4 r row hr).2, k5 rfl r row hr⟩)
                          simpa [applyU, apply1] using this
              | _ => simp at h
    | _ => simp [hu] at h

end
end Go.Flat
end

section
/- Each operation of the evaluator does what the model's operation does. Part 9: all of them. -/
set_option linter.unusedSimpArgs false
set_option linter.unusedVariables false
namespace Go.Flat
open Go

/-- what a call of a function comes to, whatever memory its arguments share: old memory stays -/
def PureOk (P : Program) (f : FuncId) (args : List AV) (r : AV) : Prop :=
  ∀ (w : World) (R : Nat → Prop) (vs : Array Value), (∀ x, R x → x < w.heap.size) → vs.size = args.length → (∀ (i : Nat) (a : AV), args[i]? = some a → VR R (fun _ => none) w a (vs.getD i undef)) →
    Calls P f vs w fun e w' => ∃ v, e = .returned v ∧ (∀ x, x < w.heap.size → w'.heap[x]? = w.heap[x]?) ∧ (w.heap.size ≤ w'.heap.size ∧ Side w w') ∧
      VR (fun x => R x ∨ (w.heap.size ≤ x ∧ x < w'.heap.size)) (fun _ => none) w' r v

/-- the call is one of a function with a body -/
def Callable (P : Program) (f : FuncId) : Prop := ∃ fn, P.funcs[f]? = some fn ∧ (fn.name == "runtime.NumGoroutine") = false ∧ fn.body.isSome = true

/-- a call that the model answers at once: no memory -/
def ExtOk (P : Program) (f : FuncId) (args : List AV) (r : AV) : Prop :=
  noRefs r = true ∧ ∀ (w : World) (R : Nat → Prop) (vs : Array Value), vs.size = args.length → (∀ (i : Nat) (a : AV), args[i]? = some a → VR R (fun _ => none) w a (vs.getD i undef)) →
    ∃ v, (callFunc f vs).run P w = .ok (.value v) w ∧ VR R (fun _ => none) w r v

/-- what a call of the evaluator's own leaves -/
structure PostB (R : Nat → Prop) (ρ : Loc) (w : World) (R' : Nat → Prop) (ρ' : Loc) (w' : World) (n : Nat) : Prop where
  hR : ∀ x, R x → R' x
  hk : ∀ x, R x → w'.heap[x]? = w.heap[x]?
  hs : Sizes w w'
  hρ : ∀ b, b < n → ρ' b = ρ b

/-- a contract of a call that writes to what it is handed -/
def MutOk (P : Program) (f : FuncId) (args : List AV) (mem : Mem) (r : AV) (mem' : Mem) : Prop :=
  ∀ (rf : Ref) (R : Nat → Prop) (ρ : Loc) (w : World) (vs : Array Value), MS rf R ρ mem w → vs.size = args.length → (∀ (i : Nat) (x : AV), args[i]? = some x → VR R ρ w x (vs.getD i undef)) →
    Calls P f vs w fun e w' => ∃ v R' ρ', e = .returned v ∧ MS rf R' ρ' mem' w' ∧ PostB R ρ w R' ρ' w' mem.length ∧ VR R' ρ' w' r v
/-- a call that reads some blocks and writes none -/
def ReadOk (P : Program) (g : FuncId) (run : List AV → List Nat × (List (Option Slot) → Option (AV × List Bool))) : Prop :=
  ∀ args mem r cs, (run args).2 ((run args).1.map (getSlot mem)) = some (r, cs) → (∀ c ∈ cs, c = true) → Callable P g ∧
    ∀ (rf : Ref) (R : Nat → Prop) (ρ : Loc) (w : World) (vs : Array Value), MS rf R ρ mem w → vs.size = args.length → (∀ (i : Nat) (x : AV), args[i]? = some x → VR R ρ w x (vs.getD i undef)) →
      Calls P g vs w fun e w' => ∃ v, e = .returned v ∧ (∀ x, x < w.heap.size → w'.heap[x]? = w.heap[x]?) ∧ (w.heap.size ≤ w'.heap.size ∧ Side w w') ∧ VR R ρ w r v
def OrcOk (C : Ctx) : Prop := (∀ f args r g, C.isOrc f = true → C.orc f args = some (r, g) → (∀ c ∈ g, c = true) → (Callable C.P f ∧ PureOk C.P f args r) ∨ ExtOk C.P f args r) ∧
  (∀ g run, C.wl g = some run → ∀ args mem r mem' cs, run args mem = some (r, mem', cs) → (∀ c ∈ cs, c = true) → Callable C.P g ∧ MutOk C.P g args mem r mem') ∧
  (∀ g run, C.rd g = some run → ReadOk C.P g run) ∧
  ∀ g args r m1 cs, C.nw g ≠ 0 → C.nwRun g args = some (r, m1, cs) → (∀ c ∈ cs, c = true) → Callable C.P g ∧ MutOk C.P g args [] r m1

theorem callFunc_run {P : Program} {f : FuncId} (h : Callable P f) (vs : Array Value) (w : World) : (callFunc f vs).run P w = .ok (.enter f vs) w := by
  obtain ⟨fn, h1, h2, h3⟩ := h
  obtain ⟨b, h3⟩ := Option.isSome_iff_exists.1 h3
  have h2' : ¬ fn.name = "runtime.NumGoroutine" := by simpa using h2
  simp [callFunc, h1, h2', h3]

section
variable {C : Ctx} {rf : Ref} {R : Nat → Prop} {ρ : Loc} {w : World} {mem : Mem} {slot : Nat} {a : Act} {o : Oper} {e : Eff} {f : Operand → AV}

theorem valO_some {x : Option AV} (h : valO x = some e) : ∃ v, x = some v ∧ e = .val v := by
  cases x with
  | none => simp [valO] at h
  | some v => simp [valO] at h; exact ⟨v, rfl, h.symm⟩

theorem detRes_some {P : Program} {kn : Bool} {s : Sem Value} (h : detRes P kn s = some e) : ∃ r v, det P s = some r ∧ ofRes kn r = some v ∧ e = .val v := by
  unfold detRes at h
  cases h1 : det P s with
  | none => simp [h1] at h
  | some r =>
    cases h2 : ofRes kn r with
    | none => simp [h1, h2] at h
    | some v => simp [h1, h2] at h; exact ⟨r, v, rfl, h2, h.symm⟩

/-- many blocks become shared -/
theorem MS.freeze (h : MS rf R ρ mem w) : ∀ (tb : List Nat) (m : Mem) (R' : Nat → Prop), MS rf R' ρ m w → (∀ b ∈ tb, ∀ s, getSlot mem b = some s → ∃ s', getSlot m b = some s' ∧ s'.blk = s.blk) → (∀ b ∈ tb, ∃ s, getSlot mem b = some s) →
    MS rf (fun x => R' x ∨ ∃ b ∈ tb, ρ b = some x) ρ (applyU m (freeze mem tb)) w
  | [], m, R', hm, _, _ => by
    simp only [Flat.freeze, applyU, List.foldl_nil]
    have e : (fun x => R' x ∨ ∃ b ∈ ([] : List Nat), ρ b = some x) = R' := by funext x; simp
    rw [e]; exact hm
  | b :: tb, m, R', hm, hk, hs => by
    obtain ⟨s, hb⟩ := hs b List.mem_cons_self
    obtain ⟨s', hb', hblk⟩ := hk b List.mem_cons_self s hb
    simp only [Flat.freeze, hb, applyU, List.foldl_cons, apply1]
    have h1 := hm.freeze1 hb'
    have he : ({ s' with frozen := true } : Slot) = { s with frozen := true } := by cases s; cases s'; simp_all
    rw [he] at h1
    have h2 := MS.freeze h tb _ _ h1 (fun b2 hb2 s2 hs2 => by
      by_cases e : b = b2
      · subst e
        rw [hb] at hs2; cases hs2
        exact ⟨{ s with frozen := true }, by rw [getSlot_set (getSlot_lt hb')]; simp, rfl⟩
      · obtain ⟨s3, k1, k2⟩ := hk b2 (List.mem_cons_of_mem _ hb2) s2 hs2
        exact ⟨s3, by rw [getSlot_set (getSlot_lt hb'), if_neg e]; exact k1, k2⟩) (fun b2 hb2 => hs b2 (List.mem_cons_of_mem _ hb2))
    have e : (fun x => R' x ∨ ∃ b' ∈ b :: tb, ρ b' = some x) = (fun x => (R' x ∨ ρ b = some x) ∨ ∃ b' ∈ tb, ρ b' = some x) := by
      funext x
      simp only [List.mem_cons, exists_eq_or_imp, or_assoc]
    rw [e]
    exact h2

/-- what the callee may see, cell by cell -/
theorem viewCells_VR (hm : MS rf R ρ mem w) : ∀ {cs vs : List AV} {tb : List Nat} {g : List Bool} {us : List Value}, viewCells mem cs = some (vs, tb, g) → (∀ c ∈ g, c = true) → us.length = cs.length →
    (∀ (i : Nat) (a : AV) (u : Value), cs[i]? = some a → us[i]? = some u → VR R ρ w a u) →
    vs.length = cs.length ∧ (∀ (i : Nat) (a : AV), vs[i]? = some a → a.leaf = true) ∧ (∀ (i : Nat) (a : AV) (u : Value), vs[i]? = some a → us[i]? = some u → VR (fun x => R x ∨ ∃ b ∈ tb, ρ b = some x) (fun _ => none) w a u) ∧ (∀ b ∈ tb, ∃ s, getSlot mem b = some s)
  | [], vs, tb, g, us, h, _, hl, _ => by
    simp [viewCells] at h
    obtain ⟨rfl, rfl, rfl⟩ := h
    exact ⟨rfl, fun i a hi => by simp at hi, fun i a u hi => by simp at hi, fun b hb => by simp at hb⟩
  | x :: args, vs, tb, g, us, h, hg, hl, hv => by
    simp only [viewCells] at h
    cases h1 : viewFlat mem x with
    | none => simp [h1] at h
    | some p =>
      obtain ⟨v, b1, g1⟩ := p
      simp only [h1] at h
      cases hlf : v.leaf with
      | false => simp [hlf] at h
      | true =>
      cases h2 : viewCells mem args with
      | none => simp [hlf, h2] at h
      | some p2 =>
        obtain ⟨vs2, b2, g2⟩ := p2
        simp only [hlf, cond_true, h2, Option.some.injEq, Prod.mk.injEq] at h
        obtain ⟨rfl, rfl, rfl⟩ := h
        cases us with
        | nil => simp at hl
        | cons u us =>
          obtain ⟨k1, k0, k2, k3⟩ := viewCells_VR hm (us := us) h2 (fun c hc => hg c (by simp [hc])) (by simpa using hl) (fun i a u hi hu => hv (i + 1) a u (by simpa using hi) (by simpa using hu))
          obtain ⟨m1, m2⟩ := viewFlat_VR hm (hv 0 x u rfl rfl) h1 (fun c hc => hg c (by simp [hc]))
          refine ⟨by simp [k1], fun i a hi => ?_, fun i a u' hi hu' => ?_, fun b hb => ?_⟩
          · cases i with
            | zero => simp at hi; subst hi; exact hlf
            | succ i => simp at hi; exact k0 i a hi
          · cases i with
            | zero =>
              simp at hi hu'
              subst hi hu'
              exact m1.mono (fun y hy => hy.imp id (fun ⟨b, hb, h⟩ => ⟨b, List.mem_append_left _ hb, h⟩)) (fun _ _ => rfl) (.refl w) (fun _ _ h => h)
            | succ i =>
              simp at hi hu'
              exact (k2 i a u' hi hu').mono (fun y hy => hy.imp id (fun ⟨b, hb, h⟩ => ⟨b, List.mem_append_right _ hb, h⟩)) (fun _ _ => rfl) (.refl w) (fun _ _ h => h)
          · rcases List.mem_append.1 hb with hb | hb
            · exact m2 b hb
            · exact k3 b hb

theorem viewTop_VR (hm : MS rf R ρ mem w) {a v : AV} {tb : List Nat} {g : List Bool} {u : Value} (h : VR R ρ w a u) (hv : viewTop mem a = some (v, tb, g)) (hg : ∀ c ∈ g, c = true) :
    VR (fun x => R x ∨ ∃ b ∈ tb, ρ b = some x) (fun _ => none) w v u ∧ (∀ b ∈ tb, ∃ s, getSlot mem b = some s) := by
  unfold viewTop at hv
  split at hv
  · rename_i cs
    cases h2 : viewCells mem cs with
    | none => simp [h2] at hv
    | some p2 =>
      obtain ⟨vs2, b2, g2⟩ := p2
      simp only [h2, Option.some.injEq, Prod.mk.injEq] at hv
      obtain ⟨rfl, rfl, rfl⟩ := hv
      cases h with
      | agg us h1 h3 h4 =>
        obtain ⟨k1, k0, k2, k3⟩ := viewCells_VR hm (us := us.toList) h2 hg (by simpa using h1) (fun i a u hi hu => by
          have := h4 i a hi
          rw [getD_some (by simpa using hu)] at this
          exact this)
        refine ⟨.agg us (by rw [k1]; exact h1) k0 (fun i c hc => ?_), k3⟩
        have hlt : i < us.size := by rw [h1, ← k1]; exact (List.getElem?_eq_some_iff.1 hc).1
        rw [getD_eq hlt]
        exact k2 i c us[i] hc (by simp [hlt])
  · exact viewFlat_VR hm h hv hg


theorem viewAll_VR (hm : MS rf R ρ mem w) : ∀ {args vs : List AV} {tb : List Nat} {g : List Bool} {us : List Value}, viewAll mem args = some (vs, tb, g) → (∀ c ∈ g, c = true) → us.length = args.length →
    (∀ (i : Nat) (a : AV) (u : Value), args[i]? = some a → us[i]? = some u → VR R ρ w a u) →
    vs.length = args.length ∧ (∀ (i : Nat) (a : AV) (u : Value), vs[i]? = some a → us[i]? = some u → VR (fun x => R x ∨ ∃ b ∈ tb, ρ b = some x) (fun _ => none) w a u) ∧ (∀ b ∈ tb, ∃ s, getSlot mem b = some s)
  | [], vs, tb, g, us, h, _, hl, _ => by
    simp [viewAll] at h
    obtain ⟨rfl, rfl, rfl⟩ := h
    exact ⟨rfl, fun i a u hi => by simp at hi, fun b hb => by simp at hb⟩
  | x :: args, vs, tb, g, us, h, hg, hl, hv => by
    simp only [viewAll] at h
    cases h1 : viewTop mem x with
    | none => simp [h1] at h
    | some p =>
      obtain ⟨v, b1, g1⟩ := p
      cases h2 : viewAll mem args with
      | none => simp [h1, h2] at h
      | some p2 =>
        obtain ⟨vs2, b2, g2⟩ := p2
        simp only [h1, h2, Option.some.injEq, Prod.mk.injEq] at h
        obtain ⟨rfl, rfl, rfl⟩ := h
        cases us with
        | nil => simp at hl
        | cons u us =>
          obtain ⟨k1, k2, k3⟩ := viewAll_VR hm (us := us) h2 (fun c hc => hg c (by simp [hc])) (by simpa using hl) (fun i a u hi hu => hv (i + 1) a u (by simpa using hi) (by simpa using hu))
          obtain ⟨m1, m2⟩ := viewTop_VR hm (hv 0 x u rfl rfl) h1 (fun c hc => hg c (by simp [hc]))
          refine ⟨by simp [k1], fun i a u' hi hu' => ?_, fun b hb => ?_⟩
          · cases i with
            | zero =>
              simp at hi hu'
              subst hi hu'
              exact m1.mono (fun y hy => hy.imp id (fun ⟨b, hb, h⟩ => ⟨b, List.mem_append_left _ hb, h⟩)) (fun _ _ => rfl) (.refl w) (fun _ _ h => h)
            | succ i =>
              simp at hi hu'
              exact (k2 i a u' hi hu').mono (fun y hy => hy.imp id (fun ⟨b, hb, h⟩ => ⟨b, List.mem_append_right _ hb, h⟩)) (fun _ _ => rfl) (.refl w) (fun _ _ h => h)
          · rcases List.mem_append.1 hb with hb | hb
            · exact m2 b hb
            · exact k3 b hb

/-- a callee that keeps old memory -/
theorem MS.callee (h : MS rf R ρ mem w) {w' : World} (hk : ∀ x, x < w.heap.size → w'.heap[x]? = w.heap[x]?) (hs : w.heap.size ≤ w'.heap.size) (hsd : Side w w') :
    MS rf (fun x => R x ∨ (w.heap.size ≤ x ∧ x < w'.heap.size)) ρ mem w' ∧ Sizes w w' := by
  have hsz : Sizes w w' := ⟨hsd, fun x c e f hx => ⟨c, f, by rw [hk x (Array.getElem?_eq_some_iff.1 hx).1]; exact hx, rfl⟩⟩
  refine ⟨{ blk := ?_, dom := h.dom, inj := h.inj, lt := fun b x hb => Nat.lt_of_lt_of_le (h.lt b x hb) hs, nold := h.nold, oldk := fun x hx => (hk x (h.oldlt x hx)).trans (h.oldk x hx), oldlt := fun x hx => Nat.lt_of_lt_of_le (h.oldlt x hx) hs, nR := ?_, Rlt := ?_, R0 := fun x hx => .inl (h.R0 x hx), Rn := fun x hx => hx.elim (h.Rn x) (fun e => .inr (fun ho => by have := h.oldlt x ho; omega)), R0k := fun x hx => (hk x (h.Rlt x (h.R0 x hx))).trans (h.R0k x hx), ρ0 := h.ρ0, szk := h.szk.trans hsz, size := Nat.le_trans h.size hs, base := h.base }, hsz⟩
  · intro b s hb
    exact (h.blk b s hb).imp (fun ⟨x, h1, h2⟩ => ⟨x, h1, h2.mono (hk x (h.lt b x h1)) (fun _ h => .inl h) (fun y hy => hk y (h.Rlt y hy)) hsz (fun _ _ h => h)⟩) id
  · intro b x s h1 h2 h3
    rintro (hR | ⟨hx, _⟩)
    · exact h.nR b x s h1 h2 h3 hR
    · have := h.lt b x h3; omega
  · rintro x (hx | ⟨_, hx⟩)
    · exact Nat.lt_of_lt_of_le (h.Rlt x hx) hs
    · exact hx

/-- values in which nothing refers to memory -/
theorem noRef_VR {R' : Nat → Prop} {ρ' : Loc} {w' : World} {x : AV} {v : Value} (hn : noRef x = true) (h : VR R ρ w x v) : VR R' ρ' w' x v := by
  cases h with
  | lit h => exact .lit h
  | kb => exact .kb
  | ki h => exact .ki h
  | nsl => exact .nsl
  | @clo f cs vs h1 h2 =>
    cases cs with
    | nil => exact .clo vs h1 (fun i c hc => by simp at hc)
    | cons y ys => simp [noRef] at hn
  | _ => simp [noRef] at hn
theorem noRef1_VR {R' : Nat → Prop} {ρ' : Loc} {w' : World} {x : AV} {v : Value} (hn : noRef1 x = true) (h : VR R ρ w x v) : VR R' ρ' w' x v := by
  cases h with
  | agg vs h1 h2 h3 => exact .agg vs h1 h2 (fun i c hc => noRef_VR (all_get hn hc) (h3 i c hc))
  | lit h => exact .lit h
  | kb => exact .kb
  | ki h => exact .ki h
  | nsl => exact .nsl
  | clo vs h1 h2 => exact noRef_VR hn (.clo vs h1 h2)
  | _ => simp [noRef1, noRef] at hn
theorem noRefs_VR {R' : Nat → Prop} {ρ' : Loc} {w' : World} {x : AV} {v : Value} (hn : noRefs x = true) (h : VR R ρ w x v) : VR R' ρ' w' x v := by
  cases h with
  | tup vs h1 h2 => exact .tup vs h1 (fun i c hc => noRef1_VR (all_get hn hc) (h2 i c hc))
  | agg vs h1 h2 h3 => exact noRef1_VR hn (.agg vs h1 h2 h3)
  | lit h => exact .lit h
  | kb => exact .kb
  | ki h => exact .ki h
  | nsl => exact .nsl
  | clo vs h1 h2 => exact noRef1_VR hn (.clo vs h1 h2)
  | _ => simp [noRefs, noRef1, noRef] at hn

theorem callA_sim {n : Nat} (hC : OrcOk C) (hm : MS rf R ρ mem w) {g : FuncId} {args : List AV} {vs : Array Value} (hl : vs.size = args.length) (hv : ∀ (i : Nat) (x : AV), args[i]? = some x → VR R ρ w x (vs.getD i undef))
    (hg : C.isOrc g = true) (h : callA C mem g args = some e) (hc : ∀ c ∈ e.conds, c = true) :
    (Callable C.P g ∧ Calls C.P g vs w fun en w' => ∃ v R', en = .returned v ∧ MS rf R' ρ (applyU mem e.upd) w' ∧ Post R ρ w R' ρ w' slot n ∧ VR R' ρ w' e.v v) ∨
      (∃ v, (callFunc g vs).run C.P w = .ok (.value v) w ∧ e.upd = [] ∧ VR R ρ w e.v v) := by
  unfold callA at h
  cases h1 : viewAll mem args with
  | none => simp [h1] at h
  | some p =>
    obtain ⟨vs', tb, gv⟩ := p
    simp only [h1] at h
    cases h2 : C.orc g vs' with
    | none => simp [h2] at h
    | some q =>
      obtain ⟨r, gr⟩ := q
      simp only [h2] at h
      have hcond : ∀ c ∈ gv ++ gr, c = true := by
        cases hn : noRefs r <;> simp [hn] at h <;> subst h <;> exact hc
      obtain ⟨k1, k2, k3⟩ := viewAll_VR hm (us := vs.toList) h1 (fun c hc' => hcond c (by simp [hc'])) (by simpa using hl) (fun i x u hi hu => by
        have := hv i x hi
        rw [getD_some (by simpa using hu)] at this
        exact this)
      have hargs : ∀ (i : Nat) (x : AV), vs'[i]? = some x → VR (fun x => R x ∨ ∃ b ∈ tb, ρ b = some x) (fun _ => none) w x (vs.getD i undef) := fun i x hi => by
        have hlt : i < vs.size := by rw [hl, ← k1]; exact (List.getElem?_eq_some_iff.1 hi).1
        rw [getD_eq hlt]
        exact k2 i x vs[i] hi (by simp [hlt])
      rcases hC.1 g vs' r gr hg h2 (fun c hc' => hcond c (by simp [hc'])) with ⟨hcal, hpure⟩ | ⟨hnr, hext⟩
      rotate_left
      · obtain ⟨v, e1, e2⟩ := hext w (fun x => R x ∨ ∃ b ∈ tb, ρ b = some x) vs (by rw [k1]; exact hl) hargs
        simp [hnr] at h
        subst h
        exact .inr ⟨v, e1, rfl, noRefs_VR hnr e2⟩
      refine .inl ⟨hcal, ?_⟩
      have hcall := hpure w (fun x => R x ∨ ∃ b ∈ tb, ρ b = some x) vs (by
        rintro x (hx | ⟨b, _, hb⟩)
        · exact hm.Rlt x hx
        · exact hm.lt b x hb) (by rw [k1]; exact hl) hargs
      refine hcall.mono fun en w' hw' => ?_
      obtain ⟨v, rfl, hk, ⟨hs, hsd⟩, hvr⟩ := hw'
      cases hn : noRefs r with
      | true =>
        simp [hn] at h
        subst h
        obtain ⟨m1, m2⟩ := hm.callee hk hs hsd
        exact ⟨v, _, rfl, m1, ⟨fun _ h => .inl h, fun x hx => hk x (hm.Rlt x hx), m2, fun _ _ h => h, fun _ _ => rfl⟩, noRefs_VR hn hvr⟩
      | false =>
        simp [hn] at h
        subst h
        have hf := MS.freeze hm tb mem R hm (fun b hb s hs => ⟨s, hs, rfl⟩) k3
        obtain ⟨m1, m2⟩ := hf.callee hk hs hsd
        refine ⟨v, _, rfl, m1, ⟨fun _ h => .inl (.inl h), fun x hx => hk x (hm.Rlt x hx), m2, fun _ _ h => h, fun _ _ => rfl⟩, ?_⟩
        exact hvr.mono (fun _ h => h) (fun _ _ => rfl) (.refl w') (fun _ _ h => by cases h)

theorem parts_ok {parts : Array (Nat × Operand)} (hv : ∀ x, VR R ρ w (f x) (a.eval x)) :
    (parts.toList.map fun (p : Nat × Operand) => (p.1, f p.2)).length = (parts.map fun (p : Nat × Operand) => (p.1, a.eval p.2)).toList.length ∧
    ∀ (i : Nat) (p : Nat × AV) (q : Nat × Value), (parts.toList.map fun (p : Nat × Operand) => (p.1, f p.2))[i]? = some p → (parts.map fun (p : Nat × Operand) => (p.1, a.eval p.2)).toList[i]? = some q → p.1 = q.1 ∧ VR R ρ w p.2 q.2 := by
  refine ⟨by simp, fun i p q h1 h2 => ?_⟩
  simp only [List.getElem?_map, Option.map_eq_some_iff] at h1
  obtain ⟨x, hx, rfl⟩ := h1
  have h2' : (Option.map (fun (p : Nat × Operand) => (p.1, a.eval p.2)) parts.toList[i]?) = some q := by simpa using h2
  rw [hx] at h2'
  simp at h2'
  subst h2'
  exact ⟨rfl, hv _⟩

theorem intsK_some {k : IntKind} : ∀ {l : List AV} {vs : List Value}, intsK k l = some vs → vs.length = l.length ∧ ∀ (i : Nat) (x : AV), l[i]? = some x → ∃ n, vs[i]? = some (.int k n) ∧ leafV x = some (.int k n)
  | [], vs, h => by simp [intsK] at h; subst h; exact ⟨rfl, fun i x hx => by simp at hx⟩
  | y :: l, vs, h => by
    simp only [intsK] at h
    cases hy : leafV y with
    | none => simp [hy] at h
    | some v =>
      cases v with
      | int k' n =>
        simp only [hy] at h
        cases hk : decide (k = k') with
        | false => simp [hk] at h
        | true =>
          have := of_decide_eq_true hk
          subst this
          cases hr : intsK k l with
          | none => simp [hr] at h
          | some r =>
            simp [hr] at h
            subst h
            have ih := intsK_some hr
            refine ⟨by simp [ih.1], fun i x hx => ?_⟩
            cases i with
            | zero => simp at hx; subst hx; exact ⟨n, rfl, hy⟩
            | succ i => simp at hx; simpa using ih.2 i x hx
      | _ => simp [hy] at h

theorem ints_eq (hv : ∀ x, VR R ρ w (f x) (a.eval x)) {k : IntKind} {args : Array Operand} {vs : List Value} (h : intsK k (args.toList.map f) = some vs) : args.map a.eval = vs.toArray ∧ ∀ v ∈ vs, ∃ n, v = .int k n ∧ inK k n = true := by
  obtain ⟨h1, h2⟩ := intsK_some h
  have key : ∀ i (hi : i < args.size), ∃ n, vs[i]? = some (.int k n) ∧ a.eval args[i] = .int k n ∧ inK k n = true := by
    intro i hi
    obtain ⟨n, k1, k2⟩ := h2 i (f args[i]) (by simp [hi])
    have := (hv args[i]).leafV k2
    refine ⟨n, k1, this.symm, ?_⟩
    have hh := hv args[i]
    rw [← this] at hh
    cases hfa : f args[i] <;> rw [hfa] at k2 hh <;> simp [leafV] at k2
    · subst k2; cases hh with | lit h => exact h
    · obtain ⟨rfl, rfl⟩ := k2; cases hh with | ki h => exact h
  refine ⟨?_, fun v hv' => ?_⟩
  · apply Array.ext
    · simp [h1]
    · intro i hi _
      obtain ⟨n, k1, k2, _⟩ := key i (by simpa using hi)
      simp only [Array.getElem_map, k2, List.getElem_toArray]
      have := List.getElem?_eq_some_iff.1 k1
      exact this.2.symm
  · obtain ⟨i, hi⟩ := List.mem_iff_getElem?.1 hv'
    have hlt : i < args.size := by
      have := (List.getElem?_eq_some_iff.1 hi).1
      simpa [h1] using this
    obtain ⟨n, k1, _, k3⟩ := key i hlt
    rw [hi] at k1
    cases k1
    exact ⟨n, rfl, k3⟩

theorem fold_num {P : Program} {k : IntKind} (g : Value → Value → Sem Value) (hg : ∀ x y v, inK k x = true → inK k y = true → det P (g (.int k x) (.int k y)) = some v → ∃ n, v = .int k n ∧ inK k n = true) :
    ∀ (l : List Value) (x : Int) (v : Value), inK k x = true → (∀ u ∈ l, ∃ n, u = .int k n ∧ inK k n = true) → det P (l.foldlM g (.int k x)) = some v → ∃ n, v = .int k n ∧ inK k n = true
  | [], x, v, hx, _, h => by
    have := det_pure h
    exact ⟨x, this.symm, hx⟩
  | u :: l, x, v, hx, hl, h => by
    obtain ⟨y, rfl, hy⟩ := hl u List.mem_cons_self
    rw [List.foldlM_cons] at h
    obtain ⟨z, h1, h2⟩ := det_bind P _ _ _ h
    obtain ⟨n, rfl, hn⟩ := hg x y z hx hy h1
    exact fold_num g hg l n v hn (fun u hu => hl u (List.mem_cons_of_mem _ hu)) h2

theorem max_num {P : Program} {k : IntKind} {vs : List Value} {v : Value} (hv : ∀ u ∈ vs, ∃ n, u = .int k n ∧ inK k n = true) (h : det P (Builtin.max_ #[] 0 vs.toArray) = some v) : okNum v := by
  unfold Builtin.max_ at h
  cases vs with
  | nil => exact (det_stuck h).elim
  | cons u vs =>
    obtain ⟨n, rfl, hn⟩ := hv u List.mem_cons_self
    obtain ⟨m, rfl, hm⟩ := fold_num Builtin.max2 (fun x y v hx hy h => by
      have := det_pure h
      subst this
      refine ⟨_, rfl, ?_⟩
      split
      · exact hy
      · exact hx) vs n v hn (fun u hu => hv u (List.mem_cons_of_mem _ hu)) h
    exact hm

theorem min_num {P : Program} {k : IntKind} {vs : List Value} {v : Value} (hv : ∀ u ∈ vs, ∃ n, u = .int k n ∧ inK k n = true) (h : det P (Builtin.min_ #[] 0 vs.toArray) = some v) : okNum v := by
  unfold Builtin.min_ at h
  cases vs with
  | nil => exact (det_stuck h).elim
  | cons u vs =>
    obtain ⟨n, rfl, hn⟩ := hv u List.mem_cons_self
    obtain ⟨m, rfl, hm⟩ := fold_num Builtin.min2 (fun x y v hx hy h => by
      have := det_pure h
      subst this
      refine ⟨_, rfl, ?_⟩
      split
      · exact hy
      · exact hx) vs n v hn (fun u hu => hv u (List.mem_cons_of_mem _ hu)) h
    exact hm

theorem lenA_run {P : Program} {t ty : TypeId} {x r : AV} {v : Value} (hx : VR R ρ w x v) (h : lenA x = some r) (d : TypeDesc) (hu : P.underlying t = some d) (hs : ∃ el, d = .slice el) :
    ∃ u, (Builtin.len_ #[t] ty #[v]).run P w = .ok u w ∧ VR R ρ w r u := by
  obtain ⟨el, rfl⟩ := hs
  have key : ∀ ad n c, (Builtin.len_ #[t] ty #[.slice ad n c]).run P w = .ok (.int .i64 n) w := fun ad n c => by
    simp [Builtin.len_, run_underlying hu, goInt]
  have fits : ∀ (n : Nat), n ≤ maxLen → inK .i64 (n : Int) = true := fun n hn => by
    rw [inK_iff]
    simp only [maxLen] at hn
    simp only [IntKind.min, IntKind.max, IntKind.signed, IntKind.bits, if_true]
    omega
  have fin : ∀ (kn : Bool) (n : Nat), n ≤ maxLen → VR R ρ w (bif kn then .ki .i64 n else .lit (.int .i64 n)) (.int .i64 n) := fun kn n hn => by
    cases kn
    · exact .lit (fits n hn)
    · exact .ki (fits n hn)
  cases hx with
  | nsl => simp [lenA] at h; subst h; exact ⟨_, key _ _ _, .ki (fits 0 (by simp [maxLen]))⟩
  | vsl0 => simp [lenA] at h; subst h; exact ⟨_, key _ _ _, fin _ 0 (by simp [maxLen])⟩
  | vsl vals hR hl h0 hrl hlf hcell hvr => simp [lenA] at h; subst h; exact ⟨_, key _ _ _, fin _ _ hl.1⟩
  | lsl0 => simp [lenA] at h; subst h; exact ⟨_, key _ _ _, fin _ 0 (by simp [maxLen])⟩
  | lsl h1 h2 h3 h4 h5 => simp [lenA] at h; subst h; exact ⟨_, key _ _ _, fin _ _ (by omega)⟩
  | _ => simp [lenA] at h

theorem sliceFrom_run {P : Program} {t : TypeId} {x lo : AV} {vx vlo : Value} {e : Eff} (hx : VR R ρ w x vx) (hlo : VR R ρ w lo vlo) (h : sliceFromA P t x lo = some e) (hc : ∀ c ∈ e.conds, c = true) :
    ∃ v, (Instr.sliceAt t vx (some vlo) none none).run P w = .ok v w ∧ e.upd = [] ∧ VR R ρ w e.v v := by
  unfold sliceFromA at h
  cases hu : P.underlying t with
  | none => simp [hu] at h
  | some d =>
    cases d with
    | slice el =>
      simp only [hu] at h
      cases hs : szOf P el with
      | none => simp [hs] at h
      | some n =>
        simp only [hs] at h
        cases hx with
        | vsl0 =>
          rename_i kn esz rows a' cap
          cases hlo with
          | ki hk =>
            rename_i k z
            cases k <;> simp only at h <;> try (cases h; done)
            cases hq : (Nat.beq n esz && decide (0 ≤ z)) with
            | false => simp [hq] at h
            | true =>
              simp only [hq, cond_true, Option.some.injEq] at h
              subst h
              have h1 := hc _ (by simp [Eff.val]; rfl)
              simp only [Bool.and_eq_true, decide_eq_true_eq] at hq h1
              have hz : z = 0 := by omega
              subst hz
              refine ⟨_, ?_, rfl, VR.vsl0 (cap := cap - 0) (a := if cap = 0 then a' else a'.map (·.add (0 * n)))⟩
              simp [Instr.sliceAt, Instr.slice, Instr.sliceBounds, Instr.sliceBound, asIntOf, run_underlying hu, run_sizeOf hs]
          | _ => simp at h
        | vsl vals hR hl h0 hrl hlf hcell hvr =>
          rename_i kn esz len rows xb o cap
          cases hlo with
          | ki hk =>
            rename_i k z
            cases k <;> simp only at h <;> try (cases h; done)
            cases hq : (Nat.beq n esz && decide (0 ≤ z)) with
            | false => simp [hq] at h
            | true =>
              simp only [hq, cond_true, Option.some.injEq] at h
              subst h
              have h1 := hc _ (by simp [Eff.val]; rfl)
              simp only [Bool.and_eq_true, decide_eq_true_eq] at hq h1
              obtain ⟨hq1, hq2⟩ := hq
              have := Nat.eq_of_beq_eq_true hq1
              subst this
              obtain ⟨zn, rfl⟩ := Int.eq_ofNat_of_zero_le hq2
              have hle : zn ≤ len := by omega
              refine ⟨.slice (if cap = zn then some ⟨xb, o, none⟩ else (some ⟨xb, o, none⟩ : Option Addr).map (·.add (zn * n))) (len - zn) (cap - zn), ?_, rfl, ?_⟩
              · simp [Instr.sliceAt, Instr.slice, Instr.sliceBounds, Instr.sliceBound, asIntOf, run_underlying hu, run_sizeOf hs, hle]
              · simp only [Eff.val, Int.toNat_natCast]
                by_cases hz : len - zn = 0
                · rw [hz]; exact .vsl0
                · have hcz : ¬ cap = zn := by omega
                  simp only [hcz, if_false, Option.map_some, Addr.add_lit]
                  refine .vsl (fun r j => vals (r + zn) j) hR (by omega) h0 (fun r hr => hrl _ (by omega)) (fun r j c hr hj => hlf _ j c (by omega) hj) (fun r j c hr hj => ?_) (fun r j c hr hj => hvr _ j c (by omega) hj)
                  have := hcell _ j c (by omega : r + zn < len) hj
                  rw [Nat.add_mul] at this
                  rw [← this]
                  congr 2
                  omega
          | _ => simp at h
        | _ => simp at h
    | _ => simp [hu] at h

end
end Go.Flat
end

section
/- A call that reads and writes what it reaches: over the whole memory it does what its contract says of that part. -/
set_option linter.unusedSimpArgs false
set_option linter.unusedVariables false
namespace Go.Flat
open Go
section
variable {C : Ctx} {rf : Ref} {R : Nat → Prop} {ρ : Loc} {w : World} {mem : Mem} {slot : Nat} {e : Eff}

theorem renL_leaf (σ : Nat → Nat) (a : AV) : (renL σ a).leaf = a.leaf := by cases a <;> rfl
theorem all_getL {α : Type} {p : α → Bool} {l : List α} (h : l.all p = true) {i : Nat} {c : α} (hc : l[i]? = some c) : p c = true :=
  List.all_eq_true.1 h c (List.mem_of_getElem? hc)

theorem okP_noLoc {p : Nat → Bool} {a : AV} (h : okP p a = true) (h1 : renL (fun b => b + 1) a = a) : noLoc a = true := by
  cases a <;> simp_all [okP, noLoc, renL]
  rename_i f cs
  cases cs <;> simp_all [okP, noLoc]

theorem VR.reP {p : Nat → Bool} {τ : Nat → Nat} {ρ' : Loc} {a : AV} {v : Value} (h : VR R ρ w a v) (hk : okP p a = true) (hρ : ∀ b x, p b = true → ρ b = some x → ρ' (τ b) = some x) : VR R ρ' w (renL τ a) v := by
  cases a with
  | ptr b e r o =>
    cases h with
    | ptr h => exact .ptr (hρ _ _ hk h)
  | lsl kn b et esz len =>
    cases h with
    | lsl0 => exact .lsl0
    | lsl h1 h2 h3 h4 h5 => exact .lsl (hρ _ _ hk h1) h2 h3 h4 h5
  | _ => exact VR.anyLoc h (okP_noLoc hk rfl)

theorem VR.reP1 {p : Nat → Bool} {τ : Nat → Nat} {ρ' : Loc} {a : AV} {v : Value} (h : VR R ρ w a v) (hk : okP1 p a = true) (hρ : ∀ b x, p b = true → ρ b = some x → ρ' (τ b) = some x) : VR R ρ' w (ren1 τ a) v := by
  cases a with
  | agg cs =>
    cases h with
    | agg vs h1 h2 h3 =>
      refine .agg vs (by simpa using h1) (fun i c hc => ?_) (fun i c hc => ?_)
      · rw [List.getElem?_map] at hc
        simp only [Option.map_eq_some_iff] at hc
        obtain ⟨c0, hc0, rfl⟩ := hc
        rw [renL_leaf]; exact h2 i c0 hc0
      · rw [List.getElem?_map] at hc
        simp only [Option.map_eq_some_iff] at hc
        obtain ⟨c0, hc0, rfl⟩ := hc
        exact (h3 i c0 hc0).reP (all_getL hk hc0) hρ
  | clo f cs =>
    cases h with
    | clo vs h1 h2 =>
      refine .clo vs (by simpa using h1) (fun i c hc => ?_)
      rw [List.getElem?_map] at hc
      simp only [Option.map_eq_some_iff] at hc
      obtain ⟨c0, hc0, rfl⟩ := hc
      exact (h2 i c0 hc0).reP (all_getL hk hc0) hρ
  | iface t v =>
    cases h with
    | iface h1 h2 => exact .iface (by rw [renL_leaf]; exact h1) (h2.reP hk hρ)
  | tup vs => simp [okP1, okP] at hk
  | _ => exact h.reP hk hρ

theorem BR.reP {p : Nat → Bool} {τ : Nat → Nat} {ρ' : Loc} {s : Slot} {x : Nat} (h : BR R ρ w x s.blk) (hk : slotP p (some s) = true) (hρ : ∀ b x, p b = true → ρ b = some x → ρ' (τ b) = some x) : BR R ρ' w x (renBlk τ s.blk) := by
  obtain ⟨b, fr⟩ := s
  cases b with
  | one cs =>
    obtain ⟨c, e, h1, h2, h3⟩ := h
    refine ⟨c, e, h1, by simpa using h2, fun j a ha => ?_⟩
    rw [List.getElem?_map] at ha
    simp only [Option.map_eq_some_iff] at ha
    obtain ⟨a0, ha0, rfl⟩ := ha
    obtain ⟨k1, v, k2, k3⟩ := h3 j a0 ha0
    exact ⟨by rw [renL_leaf]; exact k1, v, k2, k3.reP (all_getL hk ha0) hρ⟩
  | many et esz fl rows =>
    cases fl with
    | true =>
      obtain ⟨c, h1, h2, h3, h4, h5⟩ := h
      refine ⟨c, h1, h2, h3, fun r row hr => ⟨(h4 r row hr).1, fun j a ha => ?_⟩, h5⟩
      obtain ⟨k1, v, k2, k3⟩ := (h4 r row hr).2 j a ha
      exact ⟨k1, v, k2, k3.anyLoc (all_getL (h5 rfl r row hr) ha)⟩
    | false =>
      obtain ⟨c, h1, h2, h3, h4, h5⟩ := h
      refine ⟨c, h1, h2, by simpa using h3, fun r row hr => ?_, fun h => by cases h⟩
      rw [List.getElem?_map] at hr
      simp only [Option.map_eq_some_iff] at hr
      obtain ⟨row0, hr0, rfl⟩ := hr
      obtain ⟨j1, j2⟩ := h4 r row0 hr0
      refine ⟨by simpa using j1, fun j a ha => ?_⟩
      rw [List.getElem?_map] at ha
      simp only [Option.map_eq_some_iff] at ha
      obtain ⟨a0, ha0, rfl⟩ := ha
      obtain ⟨k1, v, k2, k3⟩ := j2 j a0 ha0
      exact ⟨by rw [renL_leaf]; exact k1, v, k2, k3.reP (all_getL (all_getL hk hr0) ha0) hρ⟩

theorem renBlk_empty {σ : Nat → Nat} {b : Blk} : emptyMany (renBlk σ b) ↔ emptyMany b := by
  cases b with
  | one cs => exact Iff.rfl
  | many et esz fl rows => cases fl <;> simp [renBlk, emptyMany]


theorem nodupB_inj : ∀ {l : List Nat}, nodupB l = true → ∀ {i j b : Nat}, l[i]? = some b → l[j]? = some b → i = j
  | [], _, i, j, b, h, _ => by simp at h
  | c :: l, hn, i, j, b, hi, hj => by
    simp only [nodupB, Bool.and_eq_true, Bool.not_eq_true'] at hn
    have hnot : ∀ k, l[k]? = some c → False := fun k hk => by
      have : l.any (Nat.beq c) = true := List.any_eq_true.2 ⟨c, List.mem_of_getElem? hk, Nat.beq_refl c⟩
      rw [hn.1] at this; cases this
    cases i with
    | zero =>
      cases j with
      | zero => rfl
      | succ j => simp at hi hj; subst hi; exact (hnot j hj).elim
    | succ i =>
      cases j with
      | zero => simp at hi hj; subst hj; exact (hnot i hi).elim
      | succ j => simp at hi hj; exact congrArg _ (nodupB_inj hn.2 hi hj)
theorem idxOf_get {b : Nat} : ∀ {l : List Nat}, l.any (Nat.beq b) = true → l[idxOf b l]? = some b
  | [], h => by simp at h
  | c :: l, h => by
    unfold idxOf
    cases hq : Nat.beq c b with
    | true => simp only [cond_true]; rw [Nat.eq_of_beq_eq_true hq]; rfl
    | false =>
      simp only [cond_false]
      have : l.any (Nat.beq b) = true := by
        simp only [List.any_cons, Bool.or_eq_true] at h
        rcases h with h | h
        · have := Nat.eq_of_beq_eq_true h; subst this; simp at hq
        · exact h
      simpa using idxOf_get this


def downTo (k : Nat) (σ : Nat → Nat) (ρ : Loc) : Loc := fun i => if i < k then ρ (σ i) else none

theorem inL_mem {bs : List Nat} {b : Nat} : inL bs b = true ↔ b ∈ bs := by
  unfold inL
  rw [List.any_eq_true]
  exact ⟨fun ⟨x, h1, h2⟩ => by have := Nat.eq_of_beq_eq_true h2; subst this; exact h1, fun h => ⟨b, h, Nat.beq_refl b⟩⟩
theorem nthB_idx {bs : List Nat} {b : Nat} (h : inL bs b = true) : idxOf b bs < bs.length ∧ nthB bs (idxOf b bs) = b := by
  have h1 := idxOf_get (b := b) (l := bs) h
  have hlt := (List.getElem?_eq_some_iff.1 h1).1
  refine ⟨hlt, ?_⟩
  unfold nthB
  rw [List.getD, h1]; rfl
theorem nthB_get {bs : List Nat} {i : Nat} (h : i < bs.length) : bs[i]? = some (nthB bs i) := by
  unfold nthB; simp [List.getD, h]

theorem puts_get (F : Option Slot → Option Slot) : ∀ (bs : List Nat) (m1 : Mem) (mem : Mem), m1.length = bs.length → nodupB bs = true → (∀ b ∈ bs, b < mem.length) →
    (∀ i, i < bs.length → getSlot (applyU mem ((bs.zip m1).map fun x => W1.put x.1 (F x.2))) (nthB bs i) = F (m1.getD i none)) ∧
    (∀ b, b ∉ bs → getSlot (applyU mem ((bs.zip m1).map fun x => W1.put x.1 (F x.2))) b = getSlot mem b)
  | [], m1, mem, _, _, _ => ⟨fun i hi => by simp at hi, fun b _ => by simp [applyU]⟩
  | b0 :: bs, [], mem, h, _, _ => by simp at h
  | b0 :: bs, s :: m1, mem, h, hn, hlt => by
    simp only [nodupB, Bool.and_eq_true, Bool.not_eq_true'] at hn
    have hnot : b0 ∉ bs := fun hm => by
      have : bs.any (Nat.beq b0) = true := inL_mem.2 hm
      rw [hn.1] at this; cases this
    have hb0 := hlt b0 List.mem_cons_self
    obtain ⟨k1, k2⟩ := puts_get F bs m1 (mem.set b0 (F s)) (by simpa using h) hn.2 (fun b hb => by rw [List.length_set]; exact hlt b (List.mem_cons_of_mem _ hb))
    have e : applyU mem (((b0 :: bs).zip (s :: m1)).map fun x => W1.put x.1 (F x.2)) = applyU (mem.set b0 (F s)) ((bs.zip m1).map fun x => W1.put x.1 (F x.2)) := rfl
    rw [e]
    refine ⟨fun i hi => ?_, fun b hb => ?_⟩
    · cases i with
      | zero =>
        show getSlot _ b0 = F s
        rw [k2 b0 hnot, getSlot_set hb0, if_pos rfl]
      | succ i => exact k1 i (by simpa using hi)
    · rw [k2 b (fun h => hb (List.mem_cons_of_mem _ h)), getSlot_set hb0, if_neg (fun e => hb (by rw [← e]; exact List.mem_cons_self))]

theorem VR.reR {p : Nat → Bool} {τ : Nat → Nat} {ρ' : Loc} {a : AV} {v : Value} (h : VR R ρ w a v) (hk : resP p a = true) (hρ : ∀ b x, p b = true → ρ b = some x → ρ' (τ b) = some x) : VR R ρ' w (renR τ a) v := by
  cases a with
  | tup vs0 =>
    cases h with
    | tup vs h1 h2 =>
      refine .tup vs (by simpa using h1) (fun i c hc => ?_)
      rw [List.getElem?_map] at hc
      simp only [Option.map_eq_some_iff] at hc
      obtain ⟨c0, hc0, rfl⟩ := hc
      exact (h2 i c0 hc0).reP1 (all_getL hk hc0) hρ
  | _ => exact h.reP1 hk hρ

theorem mutA_sim {n : Nat} (hC : OrcOk C) (hm : MS rf R ρ mem w) {g : FuncId} {args : List AV} {vs : Array Value} (hl : vs.size = args.length) (hv : ∀ (i : Nat) (x : AV), args[i]? = some x → VR R ρ w x (vs.getD i undef))
    (h : mutA C mem g args = some e) (hc : ∀ c ∈ e.conds, c = true) :
    Callable C.P g ∧ Calls C.P g vs w fun en w' => ∃ v R', en = .returned v ∧ MS rf R' ρ (applyU mem e.upd) w' ∧ Post R ρ w R' ρ w' slot n ∧ VR R' ρ w' e.v v := by
  unfold mutA at h
  cases hrun : C.wl g with
  | none => simp [hrun] at h
  | some run =>
  simp only [hrun] at h
  generalize hbs : closeOf mem args = bs at h
  cases hck : (nodupB bs && (args.all (okP1 (inL bs)) && (bs.map (getSlot mem)).all fun s => s.isSome && slotP (inL bs) s)) with
  | false => simp only [hck, cond_false] at h; cases h
  | true =>
  simp only [hck, cond_true] at h
  simp only [Bool.and_eq_true] at hck
  obtain ⟨hn, hargs, hslots⟩ := hck
  cases hr : run (args.map (ren1 fun b => idxOf b bs)) ((bs.map (getSlot mem)).map fun s => s.map (renSlot fun b => idxOf b bs)) with
  | none => simp only [hr] at h; cases h
  | some q =>
  obtain ⟨r, m1, cs⟩ := q
  simp only [hr] at h
  cases hck2 : (Nat.beq m1.length bs.length && (resP (fun b => Nat.blt b bs.length) r && m1.all fun s => s.isSome && slotP (fun b => Nat.blt b bs.length) s)) with
  | false => simp only [hck2, cond_false] at h; cases h
  | true =>
  simp only [hck2, cond_true, Option.some.injEq] at h
  subst h
  simp only [Bool.and_eq_true] at hck2
  obtain ⟨hlen, hres, hm1⟩ := hck2
  have hlen := Nat.eq_of_beq_eq_true hlen
  obtain ⟨hcal, hmut⟩ := hC.2.1 g run hrun _ _ r m1 cs hr hc
  refine ⟨hcal, ?_⟩
  have hslot : ∀ i, i < bs.length → ∃ s, getSlot mem (nthB bs i) = some s ∧ slotP (inL bs) (some s) = true := fun i hi => by
    have := all_getL hslots (i := i) (c := getSlot mem (nthB bs i)) (by rw [List.getElem?_map, nthB_get hi]; rfl)
    cases hs : getSlot mem (nthB bs i) with
    | none => rw [hs] at this; simp at this
    | some s => rw [hs] at this; simp at this; exact ⟨s, rfl, this⟩
  have hmem : ∀ i, i < bs.length → nthB bs i ∈ bs := fun i hi => List.mem_of_getElem? (nthB_get hi)
  have hltm : ∀ b ∈ bs, b < mem.length := fun b hb => by
    obtain ⟨h1, h2⟩ := nthB_idx (inL_mem.2 hb)
    obtain ⟨s, hs, _⟩ := hslot _ h1
    rw [h2] at hs
    exact getSlot_lt hs
  have hinj : ∀ i j, i < bs.length → j < bs.length → nthB bs i = nthB bs j → i = j := fun i j hi hj hij => nodupB_inj hn (nthB_get hi) (by rw [hij]; exact nthB_get hj)
  generalize hmem0 : ((bs.map (getSlot mem)).map fun s => s.map (renSlot fun b => idxOf b bs)) = mem0 at hr hmut
  have hk0 : mem0.length = bs.length := by rw [← hmem0]; simp
  have hget0 : ∀ i, i < bs.length → getSlot mem0 i = (getSlot mem (nthB bs i)).map (renSlot fun b => idxOf b bs) := fun i hi => by
    obtain ⟨s, hs, _⟩ := hslot i hi
    have e1 : mem0[i]? = some (some (renSlot (fun b => idxOf b bs) s)) := by
      rw [← hmem0, List.getElem?_map, List.getElem?_map, nthB_get hi]
      simp [hs]
    unfold getSlot
    rw [e1]
    unfold getSlot at hs
    rw [hs]; rfl
  have hρ0 : ∀ i, i < bs.length → downTo bs.length (nthB bs) ρ i = ρ (nthB bs i) := fun i hi => by simp [downTo, hi]
  have hρ1 : ∀ i x, downTo bs.length (nthB bs) ρ i = some x → i < bs.length ∧ ρ (nthB bs i) = some x := fun i x hi => by
    unfold downTo at hi
    split at hi
    · rename_i h1; exact ⟨h1, hi⟩
    · cases hi
  have fwd : ∀ b x, inL bs b = true → ρ b = some x → downTo bs.length (nthB bs) ρ (idxOf b bs) = some x := fun b x hb hx => by
    obtain ⟨h1, h2⟩ := nthB_idx hb
    rw [hρ0 _ h1, h2]; exact hx
  have hm0 : MS ⟨w, downTo bs.length (nthB bs) ρ, R, fun x => x < w.heap.size ∧ ∀ i, i < bs.length → ρ (nthB bs i) ≠ some x, bs.length⟩ R (downTo bs.length (nthB bs) ρ) mem0 w :=
    { blk := fun i s0 hs0 => by
        have hi : i < bs.length := by rw [← hk0]; exact getSlot_lt hs0
        obtain ⟨s, h1, h2⟩ := hslot i hi
        rw [hget0 i hi, h1] at hs0
        simp only [Option.map_some, Option.some.injEq] at hs0
        subst hs0
        rw [hρ0 i hi]
        rcases hm.blk _ s h1 with ⟨x, k1, k2⟩ | ⟨k1, k2⟩
        · exact .inl ⟨x, k1, k2.reP h2 fwd⟩
        · exact .inr ⟨k1, renBlk_empty.2 k2⟩
      dom := fun i x hi => by rw [hk0]; exact (hρ1 i x hi).1
      inj := fun i j x s s' _ _ h1 h2 => by
        obtain ⟨a1, a2⟩ := hρ1 i x h1
        obtain ⟨b1, b2⟩ := hρ1 j x h2
        obtain ⟨s1, c1, _⟩ := hslot i a1
        obtain ⟨s2, c2, _⟩ := hslot j b1
        exact hinj i j a1 b1 (hm.inj _ _ x s1 s2 c1 c2 a2 b2)
      lt := fun i x hi => hm.lt _ x (hρ1 i x hi).2
      nold := fun i x s _ hi ho => by
        obtain ⟨a1, a2⟩ := hρ1 i x hi
        exact ho.2 i a1 a2
      oldk := fun x _ => rfl
      oldlt := fun x hx => hx.1
      nR := fun i x s0 hs0 hf hi => by
        obtain ⟨a1, a2⟩ := hρ1 i x hi
        obtain ⟨s, h1, _⟩ := hslot i a1
        rw [hget0 i a1, h1] at hs0
        simp only [Option.map_some, Option.some.injEq] at hs0
        subst hs0
        exact hm.nR _ x s h1 hf a2
      Rlt := hm.Rlt
      R0 := fun x hx => hx
      Rn := fun x hx => .inl hx
      R0k := fun x _ => rfl
      ρ0 := fun b _ => rfl
      szk := .refl w
      size := Nat.le_refl _
      base := by rw [hk0]; exact Nat.le_refl _ }
  obtain ⟨p1, p2⟩ := puts_get (fun s => s.map (renSlot (nthB bs))) bs m1 mem hlen hn hltm
  refine (hmut _ R _ w vs hm0 (by rw [hl]; simp) (fun i a0 hi => ?_)).mono fun en w' h' => ?_
  · rw [List.getElem?_map] at hi
    simp only [Option.map_eq_some_iff] at hi
    obtain ⟨a, ha, rfl⟩ := hi
    exact (hv i a ha).reP1 (all_getL hargs ha) fwd
  · obtain ⟨v, R', ρ0', e1, ms1, pb, v1⟩ := h'
    have hback : ∀ b x, Nat.blt b bs.length = true → ρ0' b = some x → ρ (nthB bs b) = some x := fun b x hb hx => by
      rw [Nat.blt_eq] at hb
      rw [pb.hρ b (by rw [hk0]; exact hb), hρ0 b hb] at hx
      exact hx
    have hold : ∀ x, rf.Old x → x < w.heap.size ∧ ∀ i, i < bs.length → ρ (nthB bs i) ≠ some x := fun x hx => ⟨hm.oldlt x hx, fun i hi hc => by
      obtain ⟨s, h1, _⟩ := hslot i hi
      exact hm.nold _ x s h1 hc hx⟩
    have away : ∀ b s x, getSlot mem b = some s → ρ b = some x → b ∉ bs → (x < w.heap.size ∧ ∀ i, i < bs.length → ρ (nthB bs i) ≠ some x) := fun b s x hs hx hb => ⟨hm.lt b x hx, fun i hi hc => by
      obtain ⟨s1, h1, _⟩ := hslot i hi
      exact hb (by rw [hm.inj b (nthB bs i) x s s1 hs h1 hx hc]; exact hmem i hi)⟩
    have split : ∀ b s', getSlot (applyU mem ((bs.zip m1).map fun x => W1.put x.1 (x.2.map (renSlot (nthB bs))))) b = some s' →
        (∃ i s0, i < bs.length ∧ b = nthB bs i ∧ getSlot m1 i = some s0 ∧ s' = renSlot (nthB bs) s0 ∧ slotP (fun b => Nat.blt b bs.length) (some s0) = true) ∨ (b ∉ bs ∧ getSlot mem b = some s') := fun b s' hs' => by
      by_cases hb : b ∈ bs
      · obtain ⟨h1, h2⟩ := nthB_idx (inL_mem.2 hb)
        have h3 := p1 _ h1
        rw [h2] at h3
        rw [hs'] at h3
        have hlt1 : idxOf b bs < m1.length := by rw [hlen]; exact h1
        have h4 : m1[idxOf b bs]? = some (m1.getD (idxOf b bs) none) := by simp [List.getD, hlt1]
        cases h5 : m1.getD (idxOf b bs) none with
        | none => rw [h5] at h3; simp at h3
        | some s0 =>
          rw [h5] at h3 h4
          simp only [Option.map_some, Option.some.injEq] at h3
          have h6 := all_getL hm1 h4
          simp only [Option.isSome_some, Bool.true_and] at h6
          exact .inl ⟨_, s0, h1, h2.symm, by unfold getSlot; rw [h4], h3, h6⟩
      · rw [p2 b hb] at hs'
        exact .inr ⟨hb, hs'⟩
    have pre_slot : ∀ b s', getSlot (applyU mem ((bs.zip m1).map fun x => W1.put x.1 (x.2.map (renSlot (nthB bs))))) b = some s' → ∃ s, getSlot mem b = some s := fun b s' hs' => by
      rcases split b s' hs' with ⟨i, s0, hi, rfl, _⟩ | ⟨_, h2⟩
      · obtain ⟨s, h1, _⟩ := hslot i hi
        exact ⟨s, h1⟩
      · exact ⟨s', h2⟩
    have hlenU : (applyU mem ((bs.zip m1).map fun x => W1.put x.1 (x.2.map (renSlot (nthB bs))))).length = mem.length := by
      have key : ∀ (u : Upd) (m : Mem), (applyU m u).length = m.length := fun u => by
        induction u with
        | nil => intro m; rfl
        | cons x u ih =>
          intro m
          show (applyU (apply1 m x) u).length = _
          rw [ih]
          unfold apply1
          cases x with
          | put b s => simp
          | cells b off vs => simp only; split <;> simp
      exact key _ _
    refine ⟨v, R', e1, ?_, ⟨pb.hR, pb.hk, pb.hs, fun _ _ h => h, fun _ _ => rfl⟩, v1.reR hres hback⟩
    exact
      { blk := fun b s' hs' => by
          rcases split b s' hs' with ⟨i, s0, hi, rfl, h1, rfl, h3⟩ | ⟨hb, h2⟩
          · rcases ms1.blk i s0 h1 with ⟨x, k1, k2⟩ | ⟨k1, k2⟩
            · exact .inl ⟨x, hback i x (by rw [Nat.blt_eq]; exact hi) k1, k2.reP h3 hback⟩
            · refine .inr ⟨?_, renBlk_empty.2 k2⟩
              have := pb.hρ i (by rw [hk0]; exact hi)
              rw [hρ0 i hi] at this
              rw [← this]; exact k1
          · rcases hm.blk b s' h2 with ⟨x, k1, k2⟩ | ⟨k1, k2⟩
            · exact .inl ⟨x, k1, k2.mono (ms1.oldk x (away b s' x h2 k1 hb)) pb.hR pb.hk pb.hs (fun _ _ h => h)⟩
            · exact .inr ⟨k1, k2⟩
        dom := fun b x hb => by rw [hlenU]; exact hm.dom b x hb
        inj := fun b b' x s s' hs hs' => by
          obtain ⟨s1, h1⟩ := pre_slot b s hs
          obtain ⟨s2, h2⟩ := pre_slot b' s' hs'
          exact hm.inj b b' x s1 s2 h1 h2
        lt := fun b x hb => Nat.lt_of_lt_of_le (hm.lt b x hb) ms1.size
        nold := fun b x s hs => by
          obtain ⟨s1, h1⟩ := pre_slot b s hs
          exact hm.nold b x s1 h1
        oldk := fun x hx => (ms1.oldk x (hold x hx)).trans (hm.oldk x hx)
        oldlt := fun x hx => Nat.lt_of_lt_of_le (hm.oldlt x hx) ms1.size
        nR := fun b x s' hs' hf hx => by
          rcases split b s' hs' with ⟨i, s0, hi, rfl, h1, rfl, h3⟩ | ⟨hb, h2⟩
          · refine ms1.nR i x s0 h1 hf ?_
            rw [pb.hρ i (by rw [hk0]; exact hi), hρ0 i hi]
            exact hx
          · intro hR
            rcases ms1.Rn x hR with h3 | h3
            · exact hm.nR b x s' h2 hf hx h3
            · exact h3 (away b s' x h2 hx hb)
        Rlt := ms1.Rlt
        R0 := fun x hx => pb.hR x (hm.R0 x hx)
        Rn := fun x hx => by
          rcases ms1.Rn x hx with h3 | h3
          · exact hm.Rn x h3
          · exact .inr fun ho => h3 (hold x ho)
        R0k := fun x hx => (pb.hk x (hm.R0 x hx)).trans (hm.R0k x hx)
        ρ0 := hm.ρ0
        szk := hm.szk.trans pb.hs
        size := Nat.le_trans hm.size ms1.size
        base := by rw [hlenU]; exact hm.base }
theorem readA_sim {n : Nat} (hC : OrcOk C) (hm : MS rf R ρ mem w) {g : FuncId} {args : List AV} {vs : Array Value} (hl : vs.size = args.length) (hv : ∀ (i : Nat) (x : AV), args[i]? = some x → VR R ρ w x (vs.getD i undef))
    (h : readA C mem g args = some e) (hc : ∀ c ∈ e.conds, c = true) :
    Callable C.P g ∧ Calls C.P g vs w fun en w' => ∃ v R', en = .returned v ∧ MS rf R' ρ (applyU mem e.upd) w' ∧ Post R ρ w R' ρ w' slot n ∧ VR R' ρ w' e.v v := by
  unfold readA at h
  cases hrd : C.rd g with
  | none => simp only [hrd] at h; exact mutA_sim hC hm hl hv h hc
  | some run =>
    simp only [hrd] at h
    cases hr : (run args).2 ((run args).1.map (getSlot mem)) with
    | none => simp [hr] at h
    | some q =>
      obtain ⟨r, cs⟩ := q
      simp only [hr, Option.some.injEq] at h
      subst h
      obtain ⟨hcal, hcall⟩ := hC.2.2.1 g run hrd args mem r cs hr hc
      refine ⟨hcal, (hcall rf R ρ w vs hm hl hv).mono fun en w' h' => ?_⟩
      obtain ⟨v, e1, hk, ⟨hs, hsd⟩, hvr⟩ := h'
      obtain ⟨m1, m2⟩ := hm.callee hk hs hsd
      have hk' : ∀ x, R x → w'.heap[x]? = w.heap[x]? := fun x hx => hk x (hm.Rlt x hx)
      exact ⟨v, _, e1, m1, ⟨fun _ h => .inl h, hk', m2, fun _ _ h => h, fun _ _ => rfl⟩, hvr.mono (fun _ h => .inl h) hk' m2 (fun _ _ h => h)⟩
theorem renL_id (a : AV) : renL (fun b => b) a = a := by cases a <;> rfl
theorem ren1_id (a : AV) : ren1 (fun b => b) a = a := by
  have h : ∀ l : List AV, l.map (renL fun b => b) = l := fun l => by
    rw [List.map_congr_left (g := id) (fun x _ => renL_id x), List.map_id]
  cases a <;> simp only [ren1, renL_id, h] <;> rfl
theorem nthB_range {slot n i : Nat} (h : i < n) : nthB ((List.range n).map (slot + ·)) i = slot + i := by
  simp [nthB, List.getD, h]
theorem range_nodup (slot : Nat) (n : Nat) : nodupB ((List.range n).map (slot + ·)) = true := by
  have key : ∀ (m a : Nat), nodupB ((List.range' a m).map (slot + ·)) = true := fun m => by
    induction m with
    | zero => intro a; rfl
    | succ m ih =>
      intro a
      rw [List.range'_succ, List.map_cons, nodupB, ih (a + 1), Bool.and_true, Bool.not_eq_true', List.any_eq_false]
      intro b hb
      obtain ⟨c, hc, rfl⟩ := List.mem_map.1 hb
      have hc := List.mem_range'_1.1 hc
      intro h
      have := Nat.eq_of_beq_eq_true h
      omega
  rw [List.range_eq_range']
  exact key n 0
theorem newA_sim {k : Nat} (hC : OrcOk C) (hm : MS rf R ρ mem w) {g : FuncId} {args : List AV} {vs : Array Value} (hl : vs.size = args.length) (hv : ∀ (i : Nat) (x : AV), args[i]? = some x → VR R ρ w x (vs.getD i undef))
    (hn : C.nw g ≠ 0) (hk : C.nw g = k) (hsl : slot + k ≤ mem.length ∧ rf.base ≤ slot ∧ ∀ b, slot ≤ b → b < slot + k → ρ b = none) (h : newA C slot g args = some e) (hc : ∀ c ∈ e.conds, c = true) :
    Callable C.P g ∧ Calls C.P g vs w fun en w' => ∃ v R' ρ', en = .returned v ∧ MS rf R' ρ' (applyU mem e.upd) w' ∧ Post R ρ w R' ρ' w' slot k ∧ VR R' ρ' w' e.v v := by
  obtain ⟨hsl1, hsl2, hsl3⟩ := hsl
  unfold newA at h
  cases hr : C.nwRun g args with
  | none => simp only [hr] at h; cases h
  | some q =>
  obtain ⟨r, m1, cs⟩ := q
  simp only [hr] at h
  cases hck : (args.all (okP1 fun _ => false) && (Nat.ble m1.length (C.nw g) && (resP (fun b => Nat.blt b m1.length) r && m1.all fun s => s.isSome && slotP (fun b => Nat.blt b m1.length) s))) with
  | false => simp only [hck, cond_false] at h; cases h
  | true =>
  simp only [hck, cond_true, Option.some.injEq] at h
  simp only [Bool.and_eq_true] at hck
  obtain ⟨hargs, hlen, hres, hm1⟩ := hck
  have hlen := Nat.le_of_ble_eq_true hlen
  rw [hk] at hlen
  generalize hnl : m1.length = n at *
  have hbn : ∀ i, i < n → nthB ((List.range n).map (slot + ·)) i = slot + i := fun i hi => nthB_range hi
  have hbm : ∀ b, b ∈ (List.range n).map (slot + ·) ↔ slot ≤ b ∧ b < slot + n := fun b => by
    rw [List.mem_map]
    constructor
    · rintro ⟨c, hc, rfl⟩
      have := List.mem_range.1 hc
      omega
    · intro hb
      exact ⟨b - slot, List.mem_range.2 (by omega), by omega⟩
  obtain ⟨p1, p2⟩ := puts_get (fun s => s.map (renSlot (nthB ((List.range n).map (slot + ·))))) ((List.range n).map (slot + ·)) m1 mem (by simp [hnl]) (range_nodup slot n) (fun b hb => by have := (hbm b).1 hb; omega)
  simp only [List.length_map, List.length_range] at p1
  subst h
  obtain ⟨hcal, hmut⟩ := hC.2.2.2 g args r m1 cs hn hr hc
  refine ⟨hcal, ?_⟩
  have hm0 : MS ⟨w, fun _ => none, R, fun x => x < w.heap.size, 0⟩ R (fun _ => none) [] w :=
    { blk := fun i s hs => by simp [getSlot] at hs
      dom := fun i x hi => by cases hi
      inj := fun i j x s s' hs => by simp [getSlot] at hs
      lt := fun i x hi => by cases hi
      nold := fun i x s hs => by simp [getSlot] at hs
      oldk := fun x _ => rfl
      oldlt := fun x hx => hx
      nR := fun i x s hs => by simp [getSlot] at hs
      Rlt := hm.Rlt
      R0 := fun x hx => hx
      Rn := fun x hx => .inl hx
      R0k := fun x _ => rfl
      ρ0 := fun b _ => rfl
      szk := .refl w
      size := Nat.le_refl _
      base := Nat.le_refl _ }
  refine (hmut _ R _ w vs hm0 hl (fun i a hi => ?_)).mono fun en w' h' => ?_
  · have := (hv i a hi).reP1 (τ := fun b => b) (ρ' := fun _ => none) (all_getL hargs hi) (fun b x hb => by cases hb)
    rwa [ren1_id] at this
  · obtain ⟨v, R', ρ0', e1, ms1, pb, v1⟩ := h'
    generalize hρd : (fun b => if slot ≤ b ∧ b < slot + n then ρ0' (b - slot) else ρ b : Loc) = ρ'
    have hin : ∀ i, i < n → ρ' (slot + i) = ρ0' i := fun i hi => by
      rw [← hρd]
      show (if _ then _ else _) = _
      rw [if_pos (by omega), Nat.add_sub_cancel_left]
    have hout : ∀ b, ¬ (slot ≤ b ∧ b < slot + n) → ρ' b = ρ b := fun b hb => by
      rw [← hρd]
      show (if _ then _ else _) = _
      rw [if_neg hb]
    have hup : ∀ b x, ρ b = some x → ρ' b = some x := fun b x hb => by
      rw [hout b (fun hh => by rw [hsl3 b hh.1 (by omega)] at hb; cases hb)]
      exact hb
    have fwd : ∀ b x, Nat.blt b n = true → ρ0' b = some x → ρ' (nthB ((List.range n).map (slot + ·)) b) = some x := fun b x hb hx => by
      rw [Nat.blt_eq] at hb
      rw [hbn b hb, hin b hb]; exact hx
    have split : ∀ b s', getSlot (applyU mem ((((List.range n).map (slot + ·)).zip m1).map fun x => W1.put x.1 (x.2.map (renSlot (nthB ((List.range n).map (slot + ·))))))) b = some s' →
        (∃ i s0, i < n ∧ b = slot + i ∧ getSlot m1 i = some s0 ∧ s' = renSlot (nthB ((List.range n).map (slot + ·))) s0 ∧ slotP (fun b => Nat.blt b n) (some s0) = true) ∨ (¬ (slot ≤ b ∧ b < slot + n) ∧ getSlot mem b = some s') := fun b s' hs' => by
      by_cases hb : slot ≤ b ∧ b < slot + n
      · obtain ⟨i, rfl⟩ := Nat.exists_eq_add_of_le hb.1
        have hi : i < n := by omega
        have h3 := p1 i hi
        rw [hbn i hi, hs'] at h3
        have h4 : m1[i]? = some (m1.getD i none) := by simp [List.getD, hnl, hi]
        cases h5 : m1.getD i none with
        | none => rw [h5] at h3; simp at h3
        | some s0 =>
          rw [h5] at h3 h4
          simp only [Option.map_some, Option.some.injEq] at h3
          have h6 := all_getL hm1 h4
          simp only [Option.isSome_some, Bool.true_and] at h6
          exact .inl ⟨i, s0, hi, rfl, by unfold getSlot; rw [h4], h3, h6⟩
      · rw [p2 b (fun hh => hb ((hbm b).1 hh))] at hs'
        exact .inr ⟨hb, hs'⟩
    have hlenU : (applyU mem ((((List.range n).map (slot + ·)).zip m1).map fun x => W1.put x.1 (x.2.map (renSlot (nthB ((List.range n).map (slot + ·))))))).length = mem.length := by
      have key : ∀ (u : Upd) (m : Mem), (applyU m u).length = m.length := fun u => by
        induction u with
        | nil => intro m; rfl
        | cons x u ih =>
          intro m
          show (applyU (apply1 m x) u).length = _
          rw [ih]
          unfold apply1
          cases x with
          | put b s => simp
          | cells b off vs => simp only; split <;> simp
      exact key _ _
    refine ⟨v, R', ρ', e1, ?_, ⟨pb.hR, pb.hk, pb.hs, hup, fun b hb => hout b (by omega)⟩, v1.reR hres fwd⟩
    exact
      { blk := fun b s' hs' => by
          rcases split b s' hs' with ⟨i, s0, hi, rfl, h1, rfl, h3⟩ | ⟨hb, h2⟩
          · rcases ms1.blk i s0 h1 with ⟨x, k1, k2⟩ | ⟨k1, k2⟩
            · exact .inl ⟨x, by rw [hin i hi]; exact k1, k2.reP h3 fwd⟩
            · exact .inr ⟨by rw [hin i hi]; exact k1, renBlk_empty.2 k2⟩
          · rcases hm.blk b s' h2 with ⟨x, k1, k2⟩ | ⟨k1, k2⟩
            · exact .inl ⟨x, hup b x k1, k2.mono (ms1.oldk x (hm.lt b x k1)) pb.hR pb.hk pb.hs hup⟩
            · exact .inr ⟨by rw [hout b hb]; exact k1, k2⟩
        dom := fun b x hb => by
          rw [hlenU]
          by_cases hh : slot ≤ b ∧ b < slot + n
          · omega
          · rw [hout b hh] at hb; exact hm.dom b x hb
        inj := fun b b' x s s' hs hs' h1 h2 => by
          rcases split b s hs with ⟨i, s0, hi, rfl, a1, _⟩ | ⟨hb, a2⟩ <;> rcases split b' s' hs' with ⟨j, s1, hj, rfl, b1, _⟩ | ⟨hb', b2⟩
          · rw [hin i hi] at h1
            rw [hin j hj] at h2
            rw [ms1.inj i j x s0 s1 a1 b1 h1 h2]
          · rw [hin i hi] at h1
            rw [hout b' hb'] at h2
            exact absurd (hm.lt b' x h2) (ms1.nold i x s0 a1 h1)
          · rw [hin j hj] at h2
            rw [hout b hb] at h1
            exact absurd (hm.lt b x h1) (ms1.nold j x s1 b1 h2)
          · rw [hout b hb] at h1
            rw [hout b' hb'] at h2
            exact hm.inj b b' x s s' a2 b2 h1 h2
        lt := fun b x hb => by
          by_cases hh : slot ≤ b ∧ b < slot + n
          · obtain ⟨i, rfl⟩ := Nat.exists_eq_add_of_le hh.1
            rw [hin i (by omega)] at hb
            exact ms1.lt i x hb
          · rw [hout b hh] at hb
            exact Nat.lt_of_lt_of_le (hm.lt b x hb) ms1.size
        nold := fun b x s hs hb ho => by
          rcases split b s hs with ⟨i, s0, hi, rfl, a1, _⟩ | ⟨hh, a2⟩
          · rw [hin i hi] at hb
            exact ms1.nold i x s0 a1 hb (hm.oldlt x ho)
          · rw [hout b hh] at hb
            exact hm.nold b x s a2 hb ho
        oldk := fun x hx => (ms1.oldk x (hm.oldlt x hx)).trans (hm.oldk x hx)
        oldlt := fun x hx => Nat.lt_of_lt_of_le (hm.oldlt x hx) ms1.size
        nR := fun b x s' hs' hf hx => by
          rcases split b s' hs' with ⟨i, s0, hi, rfl, h1, rfl, h3⟩ | ⟨hb, h2⟩
          · refine ms1.nR i x s0 h1 hf ?_
            rw [← hin i hi]
            exact hx
          · rw [hout b hb] at hx
            intro hR
            rcases ms1.Rn x hR with h3 | h3
            · exact hm.nR b x s' h2 hf hx h3
            · exact h3 (hm.lt b x hx)
        Rlt := ms1.Rlt
        R0 := fun x hx => pb.hR x (hm.R0 x hx)
        Rn := fun x hx => by
          rcases ms1.Rn x hx with h3 | h3
          · exact hm.Rn x h3
          · exact .inr fun ho => h3 (hm.oldlt x ho)
        R0k := fun x hx => (pb.hk x (hm.R0 x hx)).trans (hm.R0k x hx)
        ρ0 := fun b hb => by rw [hout b (by omega)]; exact hm.ρ0 b hb
        szk := hm.szk.trans pb.hs
        size := Nat.le_trans hm.size ms1.size
        base := by rw [hlenU]; exact hm.base }
/-- a call that reads, or that makes blocks -/
theorem restA_sim {k : Nat} (hC : OrcOk C) (hm : MS rf R ρ mem w) {fo : Operand} {g : FuncId} {args : List AV} {vs : Array Value} (hl : vs.size = args.length) (hv : ∀ (i : Nat) (x : AV), args[i]? = some x → VR R ρ w x (vs.getD i undef))
    (hk : ∀ g', newOf C fo = some g' → C.nw g' = k ∧ k ≠ 0) (hsl : k ≠ 0 → slot + k ≤ mem.length ∧ rf.base ≤ slot ∧ ∀ b, slot ≤ b → b < slot + k → ρ b = none) (h : restA C mem slot fo g args = some e) (hc : ∀ c ∈ e.conds, c = true) :
    Callable C.P g ∧ Calls C.P g vs w fun en w' => ∃ v R' ρ', en = .returned v ∧ MS rf R' ρ' (applyU mem e.upd) w' ∧ Post R ρ w R' ρ' w' slot k ∧ VR R' ρ' w' e.v v := by
  unfold restA at h
  cases hn : newOf C fo with
  | none =>
    simp only [hn] at h
    obtain ⟨h1, h2⟩ := readA_sim (slot := slot) (n := k) hC hm hl hv h hc
    exact ⟨h1, h2.mono fun en w' ⟨v, R', k1, k2, k3, k4⟩ => ⟨v, R', ρ, k1, k2, k3, k4⟩⟩
  | some g' =>
    simp only [hn] at h
    obtain ⟨h1, h2⟩ := hk g' hn
    cases hq : Nat.beq g' g with
    | false => simp only [hq, cond_false] at h; cases h
    | true =>
      have := Nat.eq_of_beq_eq_true hq
      subst this
      simp only [hq, cond_true] at h
      exact newA_sim hC hm hl hv (by rw [h1]; exact h2) h1 (hsl h2) h hc
end
end Go.Flat
end
