/- What is proved in the end: SolverHits returns true whatever the input, and its input reads as it did; no condition.
This text: C54, C55, C56, C57. -/
import Derived.Test.YtldnfpgemlgbmaaGreatM12

section
/- Contract: one iteration of a contact, over a whole table. -/
set_option linter.unusedSimpArgs false
set_option linter.unusedVariables false
namespace Go.Flat
open Go

theorem con_cells (c : Contact) : (rContact.cells c).all (fun c => c.leaf && noLoc c) = true := rfl
theorem conL_cells (c : Contact) (k : Nat) : (conL c k).all (fun c => c.leaf && noLoc c) = true := rfl
theorem fitsL_con {c : Contact} {k : Nat} (h : c.M.L.len = k) : FitsL (rContact.cells c) (conL c k) := by
  subst h
  have r : ∀ x : AV, Fits x x := fun x => Fits.refl x
  exact .cons (r _) rfl rfl (.cons (r _) rfl rfl (.cons (r _) rfl rfl (.cons (r _) rfl rfl (.cons (r _) rfl rfl (.cons (r _) rfl rfl (.cons (Fits.vslk true) rfl rfl (FitsL.refl_of rfl)))))))
theorem fitsL_noc {c : Contact} {k : Nat} (h : c.M.L.len = k) : FitsL (conL c k) (rContact.cells c) := by
  subst h
  have r : ∀ x : AV, Fits x x := fun x => Fits.refl x
  exact .cons (r _) rfl rfl (.cons (r _) rfl rfl (.cons (r _) rfl rfl (.cons (r _) rfl rfl (.cons (r _) rfl rfl (.cons (r _) rfl rfl (.cons (Fits.vslk false) rfl rfl (FitsL.refl_of rfl)))))))
theorem FitsL.cf {cs cs' : List AV} (h : FitsL cs cs') : CFits cs cs' := ⟨h.1, fun i c c' hc hc' => ⟨(h.2 i c c' hc hc').1, (h.2 i c c' hc hc').2.1⟩⟩
theorem MutOk.post {P : Program} {f : FuncId} {args : List AV} {mem mem' mem'' : Mem} {r : AV} (h : MutOk P f args mem r mem') (hf : MFits mem' mem'') : MutOk P f args mem r mem'' := fun rf R ρ w vs hm hl hv => (h rf R ρ w vs hm hl hv).mono fun e w' h' => by
  obtain ⟨v, R', ρ', e1, m1, p1, v1⟩ := h'
  exact ⟨v, R', ρ', e1, m1.fits hf, p1, v1⟩

/-- a table, a contact, and the table's bodies -/
def memTC (l : List Body) (c : List AV) : Mem := some ⟨.many N.t_pworked 1 false (ptrsT 2 l.length), false⟩ :: some ⟨.one c, false⟩ :: memB l
def rowsH (n i j : Nat) : List (List AV) := (List.range n).map fun r => [.ptr (if r = i then 2 else if r = j then 3 else 4 + r) 27 0 0]
def sgH (i j : Nat) : Nat → Nat
  | 0 => 0
  | 1 => 1
  | 2 => i + 2
  | 3 => j + 2
  | k + 4 => k + 2
theorem memH_slot {rows : List (List AV)} {c : List AV} {a b : Body} {k : Nat} {s : Slot} (h : getSlot (memH rows c a b) k = some s) :
    (k = 0 ∧ s = ⟨.many N.t_pworked 1 false rows, false⟩) ∨ (k = 1 ∧ s = ⟨.one c, false⟩) ∨ (k = 2 ∧ s = ⟨.one (rBody.cells a), false⟩) ∨ (k = 3 ∧ s = ⟨.one (rBody.cells b), false⟩) := by
  have h := getSlot_some h
  rcases k with _ | _ | _ | _ | _ | _ | _ | _ | _ | k
  · cases h; exact .inl ⟨rfl, rfl⟩
  · cases h; exact .inr (.inl ⟨rfl, rfl⟩)
  · cases h; exact .inr (.inr (.inl ⟨rfl, rfl⟩))
  · cases h; exact .inr (.inr (.inr ⟨rfl, rfl⟩))
  all_goals cases h
theorem rowsH_ren (n i j : Nat) (hij : i ≠ j) : (rowsH n i j).map (fun r => r.map (renL (sgH i j))) = ptrsT 2 n := by
  apply List.ext_getElem?
  intro k
  rw [ptrs_get, List.getElem?_map, rowsH, List.getElem?_map, rng_get]
  by_cases hk : k < n
  · simp only [hk, if_true, Option.map_some]
    by_cases h1 : k = i
    · subst h1; simp [renL, sgH]; omega
    · by_cases h2 : k = j
      · subst h2; simp [renL, sgH, h1]; omega
      · have e : 4 + k = k + 4 := by omega
        simp only [h1, h2, if_false, e, List.map_cons, List.map_nil, renL, sgH]
        rw [Nat.add_comm]
  · simp [hk]
theorem rowsH_below (n i j : Nat) (hn : n ≤ 5) : okRows9 (rowsH n i j) = true := by
  unfold okRows9
  rw [List.all_eq_true]
  intro r hr
  obtain ⟨k, hk, rfl⟩ := List.mem_map.1 hr
  have hk := List.mem_range.1 hk
  simp only [List.all_cons, List.all_nil, Bool.and_true, locBelow, Nat.blt_eq]
  split
  · omega
  · split <;> omega
theorem memTC_slot {l : List Body} {c : List AV} {k : Nat} (h : k < l.length) : getSlot (memTC l c) (k + 2) = some ⟨.one (rBody.cells (bAt l k)), false⟩ := by
  apply getSlot_of
  show (memB l)[k]? = _
  rw [memB_get]
  simp [bAt, List.getD, h]
theorem tableC_frame {f : FuncId} (l : List Body) (i j : Nat) (c0 c1 : List AV) (a' b' : Body) (hn : l.length ≤ 5) (hi : i < l.length) (hj : j < l.length) (hij : i ≠ j)
    (hc0 : c0.all (fun c => c.leaf && noLoc c) = true) (hc1 : c1.all (fun c => c.leaf && noLoc c) = true)
    (h : MutOk N.P f [tblA l.length, .ptr 1 15 0 0] (memH (rowsH l.length i j) c0 (bAt l i) (bAt l j)) (.tup []) (memH (rowsH l.length i j) c1 a' b')) :
    MutOk N.P f [tblA l.length, .ptr 1 15 0 0] (memTC l c0) (.tup []) (memTC ((l.set i a').set j b') c1) := by
  have hrow : Slot.mk (.many N.t_pworked 1 false (ptrsT 2 l.length)) false = renSlot (sgH i j) ⟨.many N.t_pworked 1 false (rowsH l.length i j), false⟩ := by
    show _ = Slot.mk (.many _ _ false ((rowsH l.length i j).map fun r => r.map (renL (sgH i j)))) false
    rw [rowsH_ren _ _ _ hij]
  have hone : ∀ cs : List AV, cs.all (fun c => c.leaf && noLoc c) = true → renSlot (sgH i j) ⟨.one cs, false⟩ = ⟨.one cs, false⟩ := fun cs h => by
    show Slot.mk (.one (cs.map _)) false = _
    rw [ren_cells h]
  have honeB : ∀ cs : List AV, cs.all (fun c => c.leaf && noLoc c) = true → BFits (.one cs) (renBlk (sgH i j) (.one cs)) := fun cs h => by
    show BFits _ (.one (cs.map _))
    rw [ren_cells h]
    exact (FitsL.refl_of h).cf
  have hsb : slotBelow 9 (some ⟨.many N.t_pworked 1 false (rowsH l.length i j), false⟩) = true := rowsH_below _ _ _ hn
  refine MutOk.frame3 h (sgH i j) rfl rfl (fun k k' s s' h1 h2 h3 => ?_) (fun k s0 h0 => ?_) rfl (fun k a a0 hk hk0 => ?_) (fun b s' hs' => ?_) ?_
  · rcases memH_slot h1 with ⟨rfl, _⟩ | ⟨rfl, _⟩ | ⟨rfl, _⟩ | ⟨rfl, _⟩ <;> rcases memH_slot h2 with ⟨rfl, _⟩ | ⟨rfl, _⟩ | ⟨rfl, _⟩ | ⟨rfl, _⟩ <;> simp [sgH] at h3 ⊢ <;> omega
  · rcases memH_slot h0 with ⟨rfl, rfl⟩ | ⟨rfl, rfl⟩ | ⟨rfl, rfl⟩ | ⟨rfl, rfl⟩
    · refine ⟨⟨.many N.t_pworked 1 false (ptrsT 2 l.length), false⟩, rfl, rfl, ?_, hsb⟩
      have e : renBlk (sgH i j) (.many N.t_pworked 1 false (rowsH l.length i j)) = .many N.t_pworked 1 false (ptrsT 2 l.length) := (congrArg Slot.blk hrow).symm
      rw [e]
      exact ⟨rfl, rfl, rfl, fun k c c' hc hc' => by rw [hc] at hc'; cases hc'; exact ptrs_noflat _ _ k c hc, fun h => by cases h⟩
    · exact ⟨⟨.one c0, false⟩, rfl, rfl, honeB _ hc0, below_cells hc0⟩
    · exact ⟨_, memTC_slot hi, rfl, honeB _ (body_cells _), below_cells (body_cells _)⟩
    · exact ⟨_, memTC_slot hj, rfl, honeB _ (body_cells _), below_cells (body_cells _)⟩
  · rcases k with _ | _ | k
    · cases hk; cases hk0; exact ⟨Fits.refl _, rfl⟩
    · cases hk; cases hk0; exact ⟨Fits.refl _, rfl⟩
    · cases hk
  · have hs0 := getSlot_some hs'
    rcases b with _ | _ | b
    · have hs0 : some (some (Slot.mk (.many N.t_pworked 1 false (ptrsT 2 ((l.set i a').set j b').length)) false)) = some (some s') := hs0
      rw [List.length_set, List.length_set, hrow] at hs0
      cases hs0
      exact .inl ⟨0, _, _, rfl, rfl, rfl, rfl, hsb⟩
    · have hs0 : some (some (Slot.mk (.one c1) false)) = some (some s') := hs0
      cases hs0
      exact .inl ⟨1, _, _, rfl, rfl, rfl, (hone _ hc1).symm, below_cells hc1⟩
    · have hs0 : (memB ((l.set i a').set j b'))[b]? = some (some s') := hs0
      rw [memB_get, setAB_get b hi hj hij] at hs0
      by_cases h1 : b = j
      · subst h1
        simp at hs0
        refine .inl ⟨3, _, _, rfl, rfl, rfl, ?_, below_cells (body_cells b')⟩
        rw [hone _ (body_cells b')]; exact hs0.symm
      · by_cases h2 : b = i
        · subst h2
          simp [h1] at hs0
          refine .inl ⟨2, _, _, rfl, rfl, rfl, ?_, below_cells (body_cells a')⟩
          rw [hone _ (body_cells a')]; exact hs0.symm
        · rw [if_neg h1, if_neg h2] at hs0
          refine .inr ⟨fun k s0 hk => ?_, ?_⟩
          · rcases memH_slot hk with ⟨rfl, _⟩ | ⟨rfl, _⟩ | ⟨rfl, _⟩ | ⟨rfl, _⟩ <;> simp [sgH] <;> omega
          · apply getSlot_of
            show (memB l)[b]? = _
            rw [memB_get]; exact hs0
  · simp [memTC, memB]

/-! two bodies that are not there -/
def memH0 (rows : List (List AV)) (c : List AV) : Mem := [some ⟨.many N.t_pworked 1 false rows, false⟩, some ⟨.one c, false⟩, none, none, none, none, none, none, none]
theorem memH0_slot {rows : List (List AV)} {c : List AV} {k : Nat} {s : Slot} (h : getSlot (memH0 rows c) k = some s) : (k = 0 ∧ s = ⟨.many N.t_pworked 1 false rows, false⟩) ∨ (k = 1 ∧ s = ⟨.one c, false⟩) := by
  have h := getSlot_some h
  rcases k with _ | _ | _ | _ | _ | _ | _ | _ | _ | k
  · cases h; exact .inl ⟨rfl, rfl⟩
  · cases h; exact .inr ⟨rfl, rfl⟩
  all_goals cases h
theorem tableC_frame0 {f : FuncId} (l : List Body) (c0 : List AV) (hn : l.length ≤ 5) (hc0 : c0.all (fun c => c.leaf && noLoc c) = true)
    (h : MutOk N.P f [tblA l.length, .ptr 1 15 0 0] (memH0 (rowsH l.length l.length (l.length + 1)) c0) (.tup []) (memH0 (rowsH l.length l.length (l.length + 1)) c0)) :
    MutOk N.P f [tblA l.length, .ptr 1 15 0 0] (memTC l c0) (.tup []) (memTC l c0) := by
  have hrow : Slot.mk (.many N.t_pworked 1 false (ptrsT 2 l.length)) false = renSlot (sgH l.length (l.length + 1)) ⟨.many N.t_pworked 1 false (rowsH l.length l.length (l.length + 1)), false⟩ := by
    show _ = Slot.mk (.many _ _ false ((rowsH l.length l.length (l.length + 1)).map fun r => r.map (renL (sgH l.length (l.length + 1))))) false
    rw [rowsH_ren _ _ _ (by omega)]
  have hsb : slotBelow 9 (some ⟨.many N.t_pworked 1 false (rowsH l.length l.length (l.length + 1)), false⟩) = true := rowsH_below _ _ _ hn
  have hren : c0.map (renL (sgH l.length (l.length + 1))) = c0 := ren_cells hc0
  refine MutOk.frame3 h (sgH l.length (l.length + 1)) rfl rfl (fun k k' s s' h1 h2 h3 => ?_) (fun k s0 h0 => ?_) rfl (fun k a a0 hk hk0 => ?_) (fun b s' hs' => ?_) rfl
  · rcases memH0_slot h1 with ⟨rfl, _⟩ | ⟨rfl, _⟩ <;> rcases memH0_slot h2 with ⟨rfl, _⟩ | ⟨rfl, _⟩ <;> simp [sgH] at h3 ⊢
  · rcases memH0_slot h0 with ⟨rfl, rfl⟩ | ⟨rfl, rfl⟩
    · refine ⟨⟨.many N.t_pworked 1 false (ptrsT 2 l.length), false⟩, rfl, rfl, ?_, hsb⟩
      have e : renBlk (sgH l.length (l.length + 1)) (.many N.t_pworked 1 false (rowsH l.length l.length (l.length + 1))) = .many N.t_pworked 1 false (ptrsT 2 l.length) := (congrArg Slot.blk hrow).symm
      rw [e]
      exact ⟨rfl, rfl, rfl, fun k c c' hc hc' => by rw [hc] at hc'; cases hc'; exact ptrs_noflat _ _ k c hc, fun h => by cases h⟩
    · refine ⟨⟨.one c0, false⟩, rfl, rfl, ?_, below_cells hc0⟩
      show BFits _ (.one (c0.map _))
      rw [hren]
      exact (FitsL.refl_of hc0).cf
  · rcases k with _ | _ | k
    · cases hk; cases hk0; exact ⟨Fits.refl _, rfl⟩
    · cases hk; cases hk0; exact ⟨Fits.refl _, rfl⟩
    · cases hk
  · rcases b with _ | _ | b
    · have hs0 := getSlot_some hs'
      have hs0 : some (some (Slot.mk (.many N.t_pworked 1 false (ptrsT 2 l.length)) false)) = some (some s') := hs0
      rw [hrow] at hs0
      cases hs0
      exact .inl ⟨0, _, _, rfl, rfl, rfl, rfl, hsb⟩
    · have hs0 := getSlot_some hs'
      have hs0 : some (some (Slot.mk (.one c0) false)) = some (some s') := hs0
      cases hs0
      refine .inl ⟨1, _, _, rfl, rfl, rfl, ?_, below_cells hc0⟩
      show _ = Slot.mk (.one (c0.map _)) false
      rw [hren]
    · refine .inr ⟨fun k s0 hk => ?_, hs'⟩
      rcases memH0_slot hk with ⟨rfl, _⟩ | ⟨rfl, _⟩ <;> simp [sgH]
noncomputable abbrev ChitN : Ctx := ctxL N.P t_hit [] [m_apart, m_slide] [rNo] h0 nn
theorem hit_no (n : Nat) (rows : List (List AV)) (c : Contact) : runC ChitN 60 N.solver_table_hit [tblA n, .ptr 1 15 0 0] (memH0 rows (rContact.cells c)) =
    gd (notOk n c.A c.B) (.node (okRows9 rows && true) (.leaf (.tup [], memH0 rows (rContact.cells c))) (.fail 9)) := by kernel_rfl
end Go.Flat
end

section
/- Contract: one iteration of a contact, as a call on a table and a contact. -/
set_option linter.unusedSimpArgs false
set_option linter.unusedVariables false
namespace Go.Flat
open Go

/-- what stands behind one touch: the bodies and the impulses -/
structure HR where
  a : Body
  b : Body
  p : Num
  r : Num
def hit2 (a b : Body) (x n : Vec) (p r : Num) : HR := bif !((slK a b x (vPerp n)).V != 0) then ⟨a, b, p, r⟩ else
  ⟨pA a x (vPerp n) (nSub (rNext a b x (vPerp n) p r) r), pB b x (vPerp n) (nSub (rNext a b x (vPerp n) p r) r), p, rNext a b x (vPerp n) p r⟩
def hit1 (a b : Body) (x n : Vec) (p r : Num) : HR := bif !((slK a b x n).V != 0) then ⟨a, b, p, r⟩ else
  hit2 (pA a x n (nSub (pNext a b x n p) p)) (pB b x n (nSub (pNext a b x n p) p)) x n (pNext a b x n p) r
theorem gs2_holds {α : Type} {Q : α → Prop} {a b : Body} {t : Tree α} (h : t.holds Q) : (gs2 a b t).holds Q := holds_gd (okS_true _) (holds_gd (okS_true _) h)
theorem gs4_holds {α : Type} {Q : α → Prop} {a b : Body} {t : Tree α} (h : t.holds Q) : (gs4 a b t).holds Q := gs2_holds (gs2_holds h)
theorem hitTree_holds {α : Type} {Q : α → Prop} {a b : Body} {x n : Vec} {p r : Num} {K : Body → Body → Num → Num → Tree α} (h : (K (hit1 a b x n p r).a (hit1 a b x n p r).b (hit1 a b x n p r).p (hit1 a b x n p r).r).holds Q) : (hitTree a b x n p r K).holds Q := by
  unfold hit1 hit2 at h
  unfold hitTree
  refine gs4_holds ⟨fun h1 => ?_, fun h1 => gs2_holds (gs4_holds ⟨fun h2 => ?_, fun h2 => gs2_holds ?_⟩)⟩
  · rw [h1] at h; exact h
  · rw [h1] at h; simp only [cond_false] at h; rw [h2] at h; exact h
  · rw [h1] at h; simp only [cond_false] at h; rw [h2] at h; exact h
structure HC where
  a : Body
  b : Body
  c : Contact
def with0 (c : Contact) (q : HR) : Contact := { c with P0 := q.p, R0 := q.r }
def with01 (c : Contact) (q s : HR) : Contact := { c with P0 := q.p, R0 := q.r, P1 := s.p, R1 := s.r }
def q0 (a b : Body) (c : Contact) : HR := hit1 a b (c.M.L.at' 0).At c.M.N c.P0 c.R0
def q1 (a b : Body) (c : Contact) : HR := hit1 (q0 a b c).a (q0 a b c).b (c.M.L.at' 1).At c.M.N c.P1 c.R1
def sHit (a b : Body) (c : Contact) : HC := match c.M.L.len with
  | 0 => ⟨a, b, c⟩
  | 1 => ⟨(q0 a b c).a, (q0 a b c).b, with0 c (q0 a b c)⟩
  | _ => ⟨(q1 a b c).a, (q1 a b c).b, with01 c (q0 a b c) (q1 a b c)⟩
def sHitL (l : List Body) (c : Contact) : List Body := bif apartB l.length c.A c.B then (l.set c.A.toNat (sHit (bAt l c.A.toNat) (bAt l c.B.toNat) c).a).set c.B.toNat (sHit (bAt l c.A.toNat) (bAt l c.B.toNat) c).b else l
def sHitC (l : List Body) (c : Contact) : Contact := bif apartB l.length c.A c.B then (sHit (bAt l c.A.toNat) (bAt l c.B.toNat) c).c else c
theorem sHitL_len (l : List Body) (c : Contact) : (sHitL l c).length = l.length := by
  unfold sHitL
  cases apartB l.length c.A c.B <;> simp
theorem sHit_M (a b : Body) (c : Contact) : (sHit a b c).c.M = c.M := by
  unfold sHit
  split <;> rfl
theorem sHitC_M (l : List Body) (c : Contact) : (sHitC l c).M = c.M := by
  unfold sHitC
  cases apartB l.length c.A c.B
  · rfl
  · exact sHit_M _ _ _
theorem rowsH_two {n i j : Nat} (hn : n ≤ 5) (hi : i < n) (hj : j < n) (hij : i ≠ j) : twoOk n (rowsH n i j) i j 2 3 = true := by
  have hr : ∀ k, k < n → (rowsH n i j)[k]? = some [.ptr (if k = i then 2 else if k = j then 3 else 4 + k) 27 0 0] := fun k hk => by
    rw [rowsH, List.getElem?_map, rng_get, if_pos hk]; rfl
  unfold twoOk
  simp only [Bool.and_eq_true, decide_eq_true_eq, bne_iff_ne]
  refine ⟨Nat.ble_eq_true_of_le hn, ?_, ?_, by omega, by omega, by omega, by omega, by omega, ?_, ?_⟩
  · have : (rowsH n i j).length = n := by simp [rowsH]
    rw [this]; exact Nat.beq_refl n
  · rw [List.all_eq_true]
    intro r hr
    obtain ⟨k, hk, rfl⟩ := List.mem_map.1 hr
    rfl
  · have e : ((i : Int)).toNat = i := by omega
    rw [e]; unfold rowB; rw [hr i hi, if_pos rfl]; rfl
  · have e : ((j : Int)).toNat = j := by omega
    rw [e]; unfold rowB; rw [hr j hj, if_neg (fun e => hij e.symm), if_pos rfl]; rfl
theorem hit_run (n : Nat) (rows : List (List AV)) (a b : Body) (c : Contact) : ∀ k, k < 7 → runC Chit 60 N.solver_table_hit [tblA n, .ptr 1 15 0 0] (memH rows (conL c k) a b) = hitRes n rows a b c k :=
  all7 (hit_run0 n rows a b c) (hit_run1 n rows a b c) (hit_run2 n rows a b c) (hit_run3 n rows a b c) (hit_run4 n rows a b c) (hit_run5 n rows a b c) (hit_run6 n rows a b c)
theorem leafH_holds {n i j : Nat} (hn : n ≤ 5) (c : Contact) (k : Nat) (a b : Body) : (leafH (rowsH n i j) c k a b).holds (· = (.tup [], memH (rowsH n i j) (conL c k) a b)) := holds_yes (by rw [rowsH_below n i j hn]; rfl) rfl
theorem hitRes_holds {n i j : Nat} (hn : n ≤ 5) (a b : Body) (c : Contact) (h2 : twoOk n (rowsH n i j) c.A c.B 2 3 = true) :
    (hitRes n (rowsH n i j) a b c c.M.L.len).holds (· = (.tup [], memH (rowsH n i j) (conL (sHit a b c).c c.M.L.len) (sHit a b c).a (sHit a b c).b)) := by
  unfold hitRes sHit
  generalize hk : c.M.L.len = k
  rcases k with _ | _ | k
  · exact holds_gd h2 (leafH_holds hn c 0 a b)
  · exact holds_gd h2 (hitTree_holds (leafH_holds hn (with0 c (q0 a b c)) 1 (q0 a b c).a (q0 a b c).b))
  · exact holds_gd h2 (hitTree_holds (hitTree_holds (leafH_holds hn (with01 c (q0 a b c) (q1 a b c)) (k + 2) (q1 a b c).a (q1 a b c).b)))
theorem mfits_con {rows : List (List AV)} {c : Contact} {k : Nat} {a b : Body} (h : c.M.L.len = k) (hrows : ∀ (r : Nat) (row : List AV), rows[r]? = some row → row.all AV.leaf = true) : MFits (memH rows (conL c k) a b) (memH rows (rContact.cells c) a b) := by
  refine ⟨rfl, fun t s' hs' => ?_⟩
  rcases memH_slot hs' with ⟨rfl, rfl⟩ | ⟨rfl, rfl⟩ | ⟨rfl, rfl⟩ | ⟨rfl, rfl⟩
  · exact ⟨_, rfl, rfl, rfl, rfl, rfl, fun i c c' hc hc' => by rw [hc] at hc'; cases hc'; exact CFits.refl (hrows i c hc), fun h => by cases h⟩
  · exact ⟨_, rfl, rfl, (fitsL_noc h).cf⟩
  · exact ⟨_, rfl, rfl, CFits.refl rfl⟩
  · exact ⟨_, rfl, rfl, CFits.refl rfl⟩
theorem mfits_con' {rows : List (List AV)} {c : Contact} {k : Nat} {a b : Body} (h : c.M.L.len = k) (hrows : ∀ (r : Nat) (row : List AV), rows[r]? = some row → row.all AV.leaf = true) : MFits (memH rows (rContact.cells c) a b) (memH rows (conL c k) a b) := by
  refine ⟨rfl, fun t s' hs' => ?_⟩
  rcases memH_slot hs' with ⟨rfl, rfl⟩ | ⟨rfl, rfl⟩ | ⟨rfl, rfl⟩ | ⟨rfl, rfl⟩
  · exact ⟨_, rfl, rfl, rfl, rfl, rfl, fun i c c' hc hc' => by rw [hc] at hc'; cases hc'; exact CFits.refl (hrows i c hc), fun h => by cases h⟩
  · exact ⟨_, rfl, rfl, (fitsL_con h).cf⟩
  · exact ⟨_, rfl, rfl, CFits.refl rfl⟩
  · exact ⟨_, rfl, rfl, CFits.refl rfl⟩
theorem rowsH_leaf (n i j : Nat) : ∀ (r : Nat) (row : List AV), (rowsH n i j)[r]? = some row → row.all AV.leaf = true := fun r row h => by
  obtain ⟨k, _, rfl⟩ := List.mem_map.1 (List.mem_of_getElem? h)
  rfl
theorem notOk_of {n : Nat} {A B : Int} (hv : apartB n A B = false) : notOk n A B = true := by
  cases hq : notOk n A B with
  | true => rfl
  | false =>
    exfalso
    simp only [notOk, Bool.or_eq_false_iff, decide_eq_false_iff_not, beq_eq_false_iff_ne] at hq
    obtain ⟨q1, q2, q3⟩ := hq
    have : apartB n A B = true := by
      simp only [apartB, Bool.and_eq_true, decide_eq_true_eq, bne_iff_ne]
      split at q1 <;> split at q2 <;> exact ⟨by omega, by omega, by omega, by omega, q3⟩
    rw [hv] at this; cases this
theorem k_hit (l : List Body) (c : Contact) (hn : l.length ≤ 5) (hk : c.M.L.len ≤ 6) : MutOk N.P N.solver_table_hit [tblA l.length, .ptr 1 15 0 0] (memTC l (rContact.cells c)) (.tup []) (memTC (sHitL l c) (rContact.cells (sHitC l c))) := by
  have okl : ∀ e ∈ [m_apart, m_slide], e.ok N.P := mall_cons mo_apart (mall_cons mo_slide mall_nil)
  cases hv : apartB l.length c.A c.B with
  | true =>
    have hv' := hv
    simp only [apartB, Bool.and_eq_true, decide_eq_true_eq, bne_iff_ne] at hv'
    obtain ⟨v1, v2, v3, v4, v5⟩ := hv'
    have hi : c.A.toNat < l.length := by omega
    have hj : c.B.toNat < l.length := by omega
    have hij : c.A.toNat ≠ c.B.toNat := by omega
    have h2 := rowsH_two hn hi hj hij
    have eA : ((c.A.toNat : Nat) : Int) = c.A := by omega
    have eB : ((c.B.toNat : Nat) : Int) = c.B := by omega
    rw [eA, eB] at h2
    unfold sHitL sHitC
    rw [hv]
    simp only [cond_true]
    refine tableC_frame l c.A.toNat c.B.toNat _ _ _ _ hn hi hj hij (con_cells c) (con_cells _) ?_
    have key := (mut_of_treeC (t := t_hit) (m := []) (l := [m_apart, m_slide]) (rs := [rTwo 2 3]) (hints := h0) (nils := nn) ok_hit mall_nil okl (rall_cons (two_read 2 3) rall_nil) named mixed 60 N.solver_table_hit _ _ _ _ _
      (hit_run l.length (rowsH l.length c.A.toNat c.B.toNat) (bAt l c.A.toNat) (bAt l c.B.toNat) c c.M.L.len (by omega)) (hitRes_holds hn (bAt l c.A.toNat) (bAt l c.B.toNat) c h2)).2
    exact (key.fits rfl (fun i a a0 h1 h2 => by rw [h1] at h2; cases h2; exact Fits.refl _) (mfits_con' rfl (rowsH_leaf _ _ _))).post (mfits_con (congrArg (fun m : Mani => m.L.len) (sHit_M _ _ _)) (rowsH_leaf _ _ _))
  | false =>
    unfold sHitL sHitC
    rw [hv]
    simp only [cond_false]
    refine tableC_frame0 l _ hn (con_cells c) ?_
    exact (mut_of_treeC (t := t_hit) (m := []) (l := [m_apart, m_slide]) (rs := [rNo]) (hints := h0) (nils := nn) ok_hit mall_nil okl (rall_cons no_read rall_nil) named mixed 60 N.solver_table_hit _ _ _ _ _
      (hit_no l.length _ c) (holds_gd (notOk_of hv) (holds_yes (by rw [rowsH_below _ _ _ hn]; rfl) rfl))).2
/-- a call on a table and a contact -/
def mentTC (f : FuncId) (N0 : Nat) (ok : List Body → Contact → Bool) (specL : List Body → Contact → List Body) (specC : List Body → Contact → Contact) : Ment := ⟨f, fun args mem => match args, mem with
  | [.lsl _ 0 t 1 n, .ptr 1 15 0 0], some ⟨.many t' 1 _ rows, false⟩ :: some ⟨.one cs, false⟩ :: bl =>
    bif Nat.beq t N.t_pworked && (Nat.beq t' N.t_pworked && (isPtrs 2 rows && (Nat.beq rows.length n && (Nat.beq bl.length n && Nat.ble n N0)))) then
      (match decB bl with
      | some (l, g) => (match rContact.dec cs with
        | some (c, h) => some (.tup [], memTC (shown l.length (specL l c)) (rContact.cells (specC l c)), ok l c :: (g ++ h))
        | none => none)
      | none => none) else none
  | _, _ => none⟩
theorem mentTC_ok {f : FuncId} {N0 : Nat} {ok : List Body → Contact → Bool} {specL : List Body → Contact → List Body} {specC : List Body → Contact → Contact} (hc : Callable N.P f) (hlen : ∀ l y, (specL l y).length = l.length)
    (h : ∀ l c, l.length ≤ N0 → ok l c = true → MutOk N.P f [tblA l.length, .ptr 1 15 0 0] (memTC l (rContact.cells c)) (.tup []) (memTC (specL l c) (rContact.cells (specC l c)))) : (mentTC f N0 ok specL specC).ok N.P := fun args mem v mem' cs hr hg => by
  unfold mentTC at hr
  simp only at hr
  split at hr
  · rename_i kn t n t' fl rows cc bl
    cases hck : (Nat.beq t N.t_pworked && (Nat.beq t' N.t_pworked && (isPtrs 2 rows && (Nat.beq rows.length n && (Nat.beq bl.length n && Nat.ble n N0))))) with
    | false => simp only [hck, cond_false] at hr; cases hr
    | true =>
      simp only [hck, cond_true] at hr
      simp only [Bool.and_eq_true] at hck
      obtain ⟨q1, q2, q3, q4, q5, q6⟩ := hck
      have q1 := Nat.eq_of_beq_eq_true q1
      have q2 := Nat.eq_of_beq_eq_true q2
      have q3 := isPtrs_eq q3
      have q4 := Nat.eq_of_beq_eq_true q4
      have q5 := Nat.eq_of_beq_eq_true q5
      have q6 := Nat.le_of_ble_eq_true q6
      subst q1 q2
      cases h1 : decB bl with
      | none => simp [h1] at hr
      | some q =>
        obtain ⟨l, g⟩ := q
        cases h2 : rContact.dec cc with
        | none => simp [h1, h2] at hr
        | some q =>
          obtain ⟨y, h'⟩ := q
          simp only [h1, h2, Option.some.injEq, Prod.mk.injEq] at hr
          rw [shown_eq (hlen l y)] at hr
          obtain ⟨rfl, rfl, rfl⟩ := hr
          obtain ⟨k1, k2⟩ := decB_ok h1 (fun c hc => hg c (by simp [hc]))
          have d1 := rContact.ok _ _ _ h2 (fun c hc => hg c (by simp [hc]))
          have hn : l.length = n := by omega
          have key := h l y (by omega) (hg _ List.mem_cons_self)
          refine ⟨hc, key.fits rfl (fun i a a0 ha ha0 => ?_) ⟨?_, fun b s' hs' => ?_⟩, ?_⟩
          · rcases i with _ | _ | i
            · simp at ha ha0
              subst ha ha0
              rw [hn]
              intro R ρ w v hv
              cases hv with
              | lsl0 => exact .lsl0
              | lsl h1 h2 h3 h4 h5 => exact .lsl h1 h2 h3 h4 h5
            · cases ha; cases ha0; exact Fits.refl _
            · cases ha
          · simp [memTC, memB, k1]
          · have hs' := getSlot_some hs'
            rcases b with _ | _ | b
            · have hs' : some (some (Slot.mk (.many N.t_pworked 1 false (ptrsT 2 l.length)) false)) = some (some s') := hs'
              cases hs'
              refine ⟨⟨.many N.t_pworked 1 fl rows, false⟩, rfl, rfl, rfl, rfl, ?_, fun i c c' hc hc' => ?_, fun h => by cases h⟩
              · rw [ptrs_len]; omega
              · rw [q3, q4, ← hn] at hc
                rw [hc] at hc'
                cases hc'
                exact ptrs_noflat _ _ i c hc
            · have hs' : some (some (Slot.mk (.one (rContact.cells y)) false)) = some (some s') := hs'
              cases hs'
              exact ⟨⟨.one cc, false⟩, rfl, rfl, d1.cf⟩
            · obtain ⟨s, e1, e2, e3⟩ := k2 b s' hs'
              exact ⟨s, getSlot_of e1, e2, e3⟩
          · simp only [memTC, memB, List.length_cons, List.length_map, hlen]
            omega
  · cases hr
def m_hit : Ment := mentTC N.solver_table_hit 5 (fun _ c => Nat.ble c.M.L.len 6) sHitL sHitC
theorem mo_hit : m_hit.ok N.P := mentTC_ok (callB_ok (by kernel_rfl)) sHitL_len fun l c hn hk => k_hit l c hn (Nat.le_of_ble_eq_true hk)
end Go.Flat
end

section
/- Contract: Hit. -/
set_option linter.unusedSimpArgs false
set_option linter.unusedVariables false
namespace Go.Flat
open Go

noncomputable abbrev Clay : Ctx := ctxL N.P [e_Copy] [] [] [] h0 nn
noncomputable def n_lay : Nent := nentR Clay 60 N.solver_lay 6
theorem no_lay : n_lay.ok N.P := nentR_ok (C := Clay) (ctxL_ok (all_cons o_Copy all_nil) mall_nil rall_nil) (ctxL_muts mall_nil) named mixed 60 N.solver_lay 6
noncomputable abbrev Clist : Ctx := ctxL N.P [] [] [] [] h0 nn
noncomputable def m_list : Ment := mentV Clist 60 N.solver_table_list
theorem mo_list : m_list.ok N.P := mentV_ok (C := Clist) (ctxL_ok all_nil mall_nil rall_nil) (ctxL_muts mall_nil) named mixed 60 N.solver_table_list
noncomputable abbrev CHit : Ctx := ctxW N.P [e_own] [] [m_hit, m_list] [] [n_lay] h0 nn
def condsHit (n : Nat) (l : Nat → Body) (c : Contact) : List Bool := condsLay n l ++ (c.small :: okTs c.M.L :: Nat.ble c.M.L.len 6 :: (okSs n l ++ (okTs c.M.L :: condsList n)))
def HitT (n : Nat) (l : Nat → Body) (c : Contact) : Tree AV := guards (condsHit n l c) (.leaf (.tup [.vsl true 27 n (fun r => (rowsOf n (sHitL (lstN n l) c)).getD r []), .agg (rContact.cells (sHitC (lstN n l) c))]))
theorem hit0r (l : Nat → Body) (c : Contact) : runF CHit 60 N.solver_Hit [.vsl true 27 0 (fun i => rBody.cells (l i)), c.av] = HitT 0 l c := by kernel_rfl
theorem hit1r (l : Nat → Body) (c : Contact) : runF CHit 60 N.solver_Hit [.vsl true 27 1 (fun i => rBody.cells (l i)), c.av] = HitT 1 l c := by kernel_rfl
theorem hit2r (l : Nat → Body) (c : Contact) : runF CHit 60 N.solver_Hit [.vsl true 27 2 (fun i => rBody.cells (l i)), c.av] = HitT 2 l c := by kernel_rfl
theorem hit3r (l : Nat → Body) (c : Contact) : runF CHit 60 N.solver_Hit [.vsl true 27 3 (fun i => rBody.cells (l i)), c.av] = HitT 3 l c := by kernel_rfl
theorem hit4r (l : Nat → Body) (c : Contact) : runF CHit 60 N.solver_Hit [.vsl true 27 4 (fun i => rBody.cells (l i)), c.av] = HitT 4 l c := by kernel_rfl
theorem hit5r (l : Nat → Body) (c : Contact) : runF CHit 60 N.solver_Hit [.vsl true 27 5 (fun i => rBody.cells (l i)), c.av] = HitT 5 l c := by kernel_rfl
theorem hit_all {n : Nat} (hn : n ≤ 5) (l : Nat → Body) (c : Contact) : runF CHit 60 N.solver_Hit [.vsl true 27 n (fun i => rBody.cells (l i)), c.av] = HitT n l c := by
  rcases n with _ | _ | _ | _ | _ | _ | n
  · exact hit0r l c
  · exact hit1r l c
  · exact hit2r l c
  · exact hit3r l c
  · exact hit4r l c
  · exact hit5r l c
  · omega
theorem condsHit_true {n : Nat} {l : Nat → Body} {c : Contact} (h2 : ∀ i, i < n → (l i).small = true) (hk : c.M.L.len ≤ 6) : ∀ b ∈ condsHit n l c, b = true := fun b hb => by
  unfold condsHit at hb
  rcases List.mem_append.1 hb with hb | hb
  · exact lay_true h2 b hb
  rcases List.mem_cons.1 hb with rfl | hb
  · exact smallN_of (by omega)
  rcases List.mem_cons.1 hb with rfl | hb
  · exact okTs_true _
  rcases List.mem_cons.1 hb with rfl | hb
  · exact Nat.ble_eq_true_of_le hk
  rcases List.mem_append.1 hb with hb | hb
  · exact okSs_true b hb
  rcases List.mem_cons.1 hb with rfl | hb
  · exact okTs_true _
  · exact list_true b hb
def sHitR (l : Sl Body) (c : Contact) : AV := .tup [rBody.encS (slN l.len (sHitL (lstN l.len l.at') c)), (sHitC (lstN l.len l.at') c).av]
theorem c_Hit (l : Sl Body) (c : Contact) (h : okPart l c = true) : Con N.P N.solver_Hit [rBody.encS l, c.av] (sHitR l c) := by
  simp only [okPart, Bool.and_eq_true, smallAll] at h
  obtain ⟨h1, ⟨_, h2⟩, h3⟩ := h
  have hn := Nat.le_of_ble_eq_true h1
  have key := con_treeW (P := N.P) (t := [e_own]) (m := []) (l := [m_hit, m_list]) (rs := []) (ns := [n_lay]) (hints := h0) (nils := nn) (all_cons o_own all_nil) mall_nil (mall_cons mo_hit (mall_cons mo_list mall_nil)) rall_nil (nall_cons no_lay nall_nil) named mixed (f := N.solver_Hit) (by kernel_rfl)
    (args := [.vsl true 27 l.len (fun i => rBody.cells (l.at' i)), c.av]) (r := sHitR l c) rfl 60 _ (hit_all hn l.at' c) fun _ => holds_guards (condsHit_true (fun i hi => allN_iff.1 h2 i hi) (Nat.le_of_ble_eq_true h3)) (Fits.tup2 (fits_rowsN _ _) (Fits.refl _))
  exact Con.args (args' := [.vsl true 27 l.len (fun i => rBody.cells (l.at' i)), c.av]) rfl (fits2 (Fits.vslk true) (Fits.refl _)) key
def e_Hit : Ent := entC2 N.solver_Hit rBody.cSl rContact.agg okPart sHitR
theorem o_Hit : e_Hit.ok N.P := entC2_ok c_Hit
end Go.Flat
end

section
/- The reference's Hit: its runs at known indexes. -/
set_option linter.unusedSimpArgs false
set_option linter.unusedVariables false
namespace Go.Flat
open Go

noncomputable abbrev Cbod : Ctx := ctxL N.P [e_rCopy] [] [] [] h0 nn
noncomputable def n_bodies : Nent := nentR Cbod 60 N.ref05_bodies 1
theorem no_bodies : n_bodies.ok N.P := nentR_ok (C := Cbod) (ctxL_ok (all_cons o_rCopy all_nil) mall_nil rall_nil) (ctxL_muts mall_nil) named mixed 60 N.ref05_bodies 1
def t_rHit : List Ent := [e_rContact, e_rApart, e_rPerp, e_rHeft, e_rAddN, e_rSpeed, e_rVSub, e_rVDot, e_rNeg, e_rDiv, e_rMax, e_rSub, e_rPush, e_rScale, e_rough, e_rMul, e_rClamp]
theorem ok_rHit : ∀ e ∈ t_rHit, e.ok N.P := all_cons o_rContact (all_cons o_rApart (all_cons o_rPerp (all_cons o_rHeft (all_cons o_rAddN (all_cons o_rSpeed (all_cons o_rVSub (all_cons o_rVDot (all_cons o_rNeg (all_cons o_rDiv (all_cons o_rMax (all_cons o_rSub (all_cons o_rPush (all_cons o_rScale (all_cons o_rough (all_cons o_rMul (all_cons o_rClamp all_nil))))))))))))))))
noncomputable abbrev CrH : Ctx := ctxW N.P t_rHit [] [] [] [n_bodies] h0 nn

def gT (t : Tree AV) : Tree AV := gd true t
def oS (b : Body) (t : Tree AV) : Tree AV := gd (okS b.Shp.Pts) t
def smS (b : Body) (t : Tree AV) : Tree AV := gd b.small (oS b t)
def pairT (a b : Body) (t : Tree AV) : Tree AV := gT (smS a (gT (gT (gT (smS b (gT (gT t)))))))
def rTouch2 (a b : Body) (x n : Vec) (p r : Num) (K : Body → Body → Num → Num → Tree AV) : Tree AV :=
  gT (oS a (gT (oS b (.node ((slK a b x (vPerp n)).V == 0) (K a b p r) (gT (oS b (gT (oS a (pairT a b
    (K (pA a x (vPerp n) (nSub (rNext a b x (vPerp n) p r) r)) (pB b x (vPerp n) (nSub (rNext a b x (vPerp n) p r) r)) p (rNext a b x (vPerp n) p r)))))))))))
def rTouch1 (a b : Body) (x n : Vec) (p r : Num) (K : Body → Body → Num → Num → Tree AV) : Tree AV :=
  gT (oS a (gT (oS b (.node ((slK a b x n).V == 0) (K a b p r) (gT (oS b (gT (oS a (pairT a b
    (rTouch2 (pA a x n (nSub (pNext a b x n p) p)) (pB b x n (nSub (pNext a b x n p) p)) x n (pNext a b x n p) r K))))))))))
def rTouchT (len i : Nat) (a b : Body) (x n : Vec) (p r : Num) (K : Body → Body → Num → Num → Tree AV) (K0 : Tree AV) : Tree AV :=
  .node (decide ((i : Int) < (len : Int))) (gd (decide ((0 : Int) ≤ i) && decide ((i : Int) < (len : Int))) (rTouch1 a b x n p r K)) K0
def leafHR (n : Nat) (L : List Body) (c : Contact) : Tree AV := gd true (.leaf (.tup [.vsl true 27 n (fun r => (rowsOf n L).getD r []), .agg (rContact.cells c)]))
def withAB (c : Contact) (i j : Int) : Contact := { c with A := i, B := j }
def rHitT (n i j : Nat) (l : Nat → Body) (c : Contact) : Tree AV := guards (condsR n l ++ [c.small, okTs c.M.L]) (.node (!apartB n i j) (leafHR n (lstN n l) (withAB c i j))
  (rTouchT c.M.L.len 0 (bAt (lstN n l) i) (bAt (lstN n l) j) (c.M.L.at' 0).At c.M.N c.P0 c.R0 (fun a b p r =>
    rTouchT c.M.L.len 1 a b (c.M.L.at' 1).At c.M.N c.P1 c.R1 (fun a' b' p' r' => .node (decide ((2 : Int) < (c.M.L.len : Int)))
        (leafHR n (((lstN n l).set i a').set j b') (withAB { c with P0 := p, R0 := r, P1 := p', R1 := r' } i j)) (leafHR n (((lstN n l).set i a').set j b') (withAB { c with P0 := p, R0 := r, P1 := p', R1 := r' } i j)))
      (leafHR n (((lstN n l).set i a).set j b) (withAB { c with P0 := p, R0 := r } i j)))
    (leafHR n (lstN n l) (withAB c i j))))
abbrev RHitP (n i j : Nat) : Prop := ∀ (l : Nat → Body) (c : Contact), runF CrH 60 N.ref05_Hit [.vsl true 27 n (fun i => rBody.cells (l i)), .agg (conAB c i j)] = rHitT n i j l c
end Go.Flat
end
