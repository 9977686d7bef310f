/- What is proved in the end: SolverTotals returns true whatever the input, and its input reads as it did; no condition.
This text: FlatDraw, FlatDraw2, FlatDraw3, FlatSound, FlatExec, FlatGc. -/
import Derived.Test.YtldnfpgemlgbmaaM2

section
/- A region that draws its order: what is not ordered may be swapped. -/
set_option linter.unusedSimpArgs false
set_option linter.unusedVariables false
namespace Go.Flat
open Go

/-! ### what an operation reads and writes -/

/-- two memories agree on a range -/
def agree (m m' : Mem) (r : Rng) : Prop :=
  getSlot m r.1 = getSlot m' r.1 ∨
  (r.2.2 ≠ 0 ∧ ∃ cs cs' fr, getSlot m r.1 = some ⟨.one cs, fr⟩ ∧ getSlot m' r.1 = some ⟨.one cs', fr⟩ ∧ cs.length = cs'.length ∧ ∀ j, r.2.1 ≤ j → j < r.2.1 + r.2.2 → cs[j]? = cs'[j]?)

theorem agree_whole {m m' : Mem} {b : Nat} (h : agree m m' (whole b)) : getSlot m b = getSlot m' b := by
  rcases h with h | ⟨h, _⟩
  · exact h
  · exact absurd rfl h

theorem takeN_congr : ∀ (n : Nat) (l l' : List AV), (∀ j, j < n → l[j]? = l'[j]?) → takeN n l = takeN n l'
  | 0, l, l', _ => by simp [takeN]
  | n + 1, [], [], _ => rfl
  | n + 1, a :: l, [], h => by have := h 0 (by omega); simp at this
  | n + 1, [], a :: l, h => by have := h 0 (by omega); simp at this
  | n + 1, a :: l, b :: l', h => by
    have h0 := h 0 (by omega)
    simp at h0
    subst h0
    simp only [takeN]
    rw [takeN_congr n l l' (fun j hj => by have := h (j + 1) (by omega); simpa using this)]

theorem behind_local {m m' : Mem} {n : Nat} {a : AV} {cs : List AV} {g : List Rng} (h : behind m n a = some (cs, g)) (hn : n ≠ 0) (ha : ∀ r ∈ g, agree m m' r) :
    ∃ cs', behind m' n a = some (cs', g) ∧ ∀ j, j < n → cs[j]? = cs'[j]? := by
  cases a with
  | vptr c => simp [behind] at h; obtain ⟨rfl, rfl⟩ := h; exact ⟨c, rfl, fun _ _ => rfl⟩
  | ptr b esz row off =>
    simp only [behind] at h
    cases hs : getSlot m b with
    | none => simp [hs] at h
    | some s =>
      obtain ⟨blk, fr⟩ := s
      cases blk with
      | one c =>
        simp only [hs] at h
        cases hr : Nat.beq row 0 with
        | false => simp [hr] at h
        | true =>
          simp [hr] at h
          obtain ⟨rfl, rfl⟩ := h
          rcases ha _ List.mem_cons_self with h1 | ⟨_, c1, c2, fr', h1, h2, h3, h4⟩
          · simp only at h1
            rw [hs] at h1
            exact ⟨c.drop off, by simp [behind, ← h1, hr], fun _ _ => rfl⟩
          · simp only at h1 h2 h4
            rw [hs] at h1
            cases h1
            refine ⟨c2.drop off, by simp [behind, h2, hr], fun j hj => ?_⟩
            rw [List.getElem?_drop, List.getElem?_drop]
            exact h4 _ (by omega) (by omega)
      | many et esz' fl rows =>
        simp only [hs] at h
        cases he : Nat.beq esz esz' with
        | false => simp [he] at h
        | true =>
          cases hr : rows[row]? with
          | none => simp [he, hr] at h
          | some r =>
            simp [he, hr] at h
            obtain ⟨rfl, rfl⟩ := h
            have h1 := agree_whole (ha _ List.mem_cons_self)
            rw [hs] at h1
            exact ⟨r.drop off, by simp [behind, ← h1, he, hr], fun _ _ => rfl⟩
  | _ => simp [behind] at h

theorem loadA_local {P : Program} {m m' : Mem} {t : TypeId} {a v : AV} {g : List Rng} (h : loadA P m t a = some (v, g)) (ha : ∀ r ∈ g, agree m m' r) : loadA P m' t a = some (v, g) := by
  unfold loadA at h ⊢
  cases ht : aggT P t with
  | none => simp [ht] at h
  | some b =>
    cases b with
    | true =>
      simp only [ht] at h ⊢
      cases hn : szOf P t with
      | none => simp [hn] at h
      | some n =>
        simp only [hn] at h ⊢
        cases hb : behind m n a with
        | none => simp [hb] at h
        | some p =>
          obtain ⟨cs, g'⟩ := p
          simp only [hb] at h
          cases hk : takeN n cs with
          | none => simp [hk] at h
          | some l =>
            simp [hk] at h
            obtain ⟨rfl, rfl⟩ := h
            by_cases hn0 : n = 0
            · subst hn0
              simp [takeN] at hk
              subst hk
              -- a range of length 0 is the whole block
              cases a with
              | vptr c => simp [behind] at hb; obtain ⟨rfl, rfl⟩ := hb; simp [behind, takeN]
              | ptr b esz row off =>
                have hb2 := hb
                simp only [behind] at hb
                cases hs : getSlot m b with
                | none => simp [hs] at hb
                | some s =>
                  have hg : (b, off, 0) ∈ g' ∨ whole b ∈ g' := by
                    obtain ⟨blk, fr⟩ := s
                    cases blk with
                    | one c =>
                      simp only [hs] at hb
                      cases hr : Nat.beq row 0 with
                      | false => simp [hr] at hb
                      | true => simp [hr] at hb; left; rw [← hb.2]; simp
                    | many et esz' fl rows =>
                      simp only [hs] at hb
                      cases he : Nat.beq esz esz' with
                      | false => simp [he] at hb
                      | true =>
                        cases hr : rows[row]? with
                        | none => simp [he, hr] at hb
                        | some r => simp [he, hr] at hb; right; rw [← hb.2]; simp
                  have hsame : getSlot m b = getSlot m' b := by
                    rcases hg with hg | hg
                    · rcases ha _ hg with h1 | ⟨h1, _⟩
                      · exact h1
                      · exact absurd rfl h1
                    · exact agree_whole (ha _ hg)
                  have : behind m' 0 (.ptr b esz row off) = behind m 0 (.ptr b esz row off) := by simp only [behind, hsame]
                  rw [this, hb2]
                  simp [takeN]
              | _ => simp [behind] at hb
            · obtain ⟨cs', h1, h2⟩ := behind_local hb hn0 ha
              rw [h1]
              simp only
              rw [← takeN_congr n cs cs' h2, hk]
    | false =>
      simp only [ht] at h ⊢
      cases hb : behind m 1 a with
      | none => simp [hb] at h
      | some p =>
        obtain ⟨cs, g'⟩ := p
        cases cs with
        | nil => simp [hb] at h
        | cons c cs =>
          simp [hb] at h
          obtain ⟨rfl, rfl⟩ := h
          obtain ⟨cs', h1, h2⟩ := behind_local hb (by omega) ha
          rw [h1]
          have := h2 0 (by omega)
          cases cs' with
          | nil => simp at this
          | cons c' cs' => simp at this; subst this; rfl

theorem storeA_local {P : Program} {m m' : Mem} {t : TypeId} {a x : AV} {e : Eff} (h : storeA P m t a x = some e) (ha : ∀ r ∈ e.reads ++ e.writes, agree m m' r) : storeA P m' t a x = some e := by
  cases a with
  | ptr b esz row off =>
    simp only [storeA] at h ⊢
    cases hn : szOf P t with
    | none => simp [hn] at h
    | some n =>
      simp only [hn] at h ⊢
      cases hg : (Nat.beq x.cells.length n && x.cells.all AV.leaf && !Nat.beq n 0) with
      | false => simp [hg] at h
      | true =>
        simp only [hg, cond_true] at h ⊢
        cases hs : getSlot m b with
        | none => simp [hs] at h
        | some s =>
          obtain ⟨blk, fr⟩ := s
          cases fr with
          | true => cases blk <;> simp [hs] at h
          | false =>
            cases blk with
            | one cs =>
              simp only [hs] at h
              cases hq : (Nat.beq row 0 && Nat.ble (off + n) cs.length) with
              | false => simp [hq] at h
              | true =>
                simp [hq] at h
                subst h
                rcases ha (b, off, n) (by simp) with h1 | ⟨_, c1, c2, fr', h1, h2, h3, _⟩
                · simp only at h1
                  rw [hs] at h1
                  simp [← h1, hq]
                · simp only at h1 h2
                  rw [hs] at h1
                  cases h1
                  simp [h2, ← h3, hq]
            | many et esz' fl rows =>
              have hw : whole b ∈ e.reads ++ e.writes := by
                simp only [hs] at h
                cases he : Nat.beq esz esz' with
                | false => simp [he] at h
                | true =>
                  simp only [he, cond_true] at h
                  cases hw : (Nat.beq off 0 && Nat.beq n esz) with
                  | true => simp [hw] at h; subst h; simp
                  | false =>
                    simp only [hw, cond_false] at h
                    cases hr : rows[row]? with
                    | none => simp [hr] at h
                    | some r =>
                      simp only [hr] at h
                      cases hb : Nat.ble (off + n) r.length with
                      | false => simp [hb] at h
                      | true => simp [hb] at h; subst h; simp
              have h1 := agree_whole (ha _ hw)
              rw [← h1]
              exact h
  | _ => simp [storeA] at h

theorem viewFlat_local {m m' : Mem} {a v : AV} {tb : List Nat} {g : List Bool} (h : viewFlat m a = some (v, tb, g)) (ha : ∀ b ∈ tb, getSlot m b = getSlot m' b) : viewFlat m' a = some (v, tb, g) := by
  cases a with
  | ptr b esz row off =>
    have hb : b ∈ tb := by
      simp only [viewFlat] at h
      cases hs : getSlot m b with
      | none => simp [hs] at h
      | some s =>
        obtain ⟨blk, fr⟩ := s
        cases blk with
        | one cs =>
          simp only [hs] at h
          cases hq : (Nat.beq row 0 && cs.all noLoc) with
          | false => simp [hq] at h
          | true => simp [hq] at h; rw [← h.2.1]; simp
        | many et esz' fl rows =>
          cases fl with
          | false => simp [hs] at h
          | true =>
            simp only [hs] at h
            cases he : Nat.beq esz esz' with
            | false => simp [he] at h
            | true =>
              cases hr : rows[row]? with
              | none => simp [he, hr] at h
              | some r => simp [he, hr] at h; rw [← h.2.1]; simp
    simp only [viewFlat] at h ⊢
    rw [← ha b hb]
    exact h
  | lsl kn b et esz len =>
    have hb : b ∈ tb := by
      simp only [viewFlat] at h
      cases hs : getSlot m b with
      | none => simp [hs] at h
      | some s =>
        obtain ⟨blk, fr⟩ := s
        cases blk with
        | one cs => simp [hs] at h
        | many et' esz' fl rows =>
          cases fl with
          | false => simp [hs] at h
          | true =>
            simp only [hs] at h
            cases he : (Nat.beq et et' && Nat.beq esz esz') with
            | false => simp [he] at h
            | true => simp [he] at h; rw [← h.2.1]; simp
    simp only [viewFlat] at h ⊢
    rw [← ha b hb]
    exact h
  | clo f cs => cases cs <;> exact h
  | _ => exact h

theorem viewCells_local {m m' : Mem} : ∀ {args vs : List AV} {tb : List Nat} {g : List Bool}, viewCells m args = some (vs, tb, g) → (∀ b ∈ tb, getSlot m b = getSlot m' b) → viewCells m' args = some (vs, tb, g)
  | [], vs, tb, g, h, _ => h
  | x :: args, vs, tb, g, h, ha => by
    simp only [viewCells] at h ⊢
    cases h1 : viewFlat m x with
    | none => simp [h1] at h
    | some p =>
      obtain ⟨v, b1, g1⟩ := p
      simp only [h1] at h
      cases hlf : v.leaf with
      | false => simp [hlf] at h
      | true =>
      cases h2 : viewCells m args with
      | none => simp [hlf, h2] at h
      | some p2 =>
        obtain ⟨vs2, b2, g2⟩ := p2
        simp only [hlf, cond_true, h2, Option.some.injEq, Prod.mk.injEq] at h
        obtain ⟨rfl, rfl, rfl⟩ := h
        rw [viewFlat_local h1 (fun b hb => ha b (by simp [hb])), viewCells_local h2 (fun b hb => ha b (by simp [hb]))]
        simp [hlf]

theorem viewTop_local {m m' : Mem} {a v : AV} {tb : List Nat} {g : List Bool} (h : viewTop m a = some (v, tb, g)) (ha : ∀ b ∈ tb, getSlot m b = getSlot m' b) : viewTop m' a = some (v, tb, g) := by
  cases a with
  | agg cs =>
    simp only [viewTop] at h ⊢
    cases h2 : viewCells m cs with
    | none => simp [h2] at h
    | some p2 =>
      obtain ⟨vs2, b2, g2⟩ := p2
      simp only [h2, Option.some.injEq, Prod.mk.injEq] at h
      obtain ⟨rfl, rfl, rfl⟩ := h
      rw [viewCells_local h2 ha]
  | _ => simp only [viewTop] at h ⊢; exact viewFlat_local h ha

theorem viewAll_local {m m' : Mem} : ∀ {args vs : List AV} {tb : List Nat} {g : List Bool}, viewAll m args = some (vs, tb, g) → (∀ b ∈ tb, getSlot m b = getSlot m' b) → viewAll m' args = some (vs, tb, g)
  | [], vs, tb, g, h, _ => h
  | x :: args, vs, tb, g, h, ha => by
    simp only [viewAll] at h ⊢
    cases h1 : viewTop m x with
    | none => simp [h1] at h
    | some p =>
      obtain ⟨v, b1, g1⟩ := p
      cases h2 : viewAll m args with
      | none => simp [h1, h2] at h
      | some p2 =>
        obtain ⟨vs2, b2, g2⟩ := p2
        simp only [h1, h2, Option.some.injEq, Prod.mk.injEq] at h
        obtain ⟨rfl, rfl, rfl⟩ := h
        rw [viewTop_local h1 (fun b hb => ha b (by simp [hb])), viewAll_local h2 (fun b hb => ha b (by simp [hb]))]

theorem freeze_local {m m' : Mem} : ∀ (tb : List Nat), (∀ b ∈ tb, getSlot m b = getSlot m' b) → freeze m tb = freeze m' tb
  | [], _ => rfl
  | b :: tb, h => by
    simp only [Flat.freeze]
    rw [h b List.mem_cons_self, freeze_local tb (fun b hb => h b (List.mem_cons_of_mem _ hb))]

theorem callA_local {C : Ctx} {m m' : Mem} {g : FuncId} {args : List AV} {e : Eff} (h : callA C m g args = some e) (ha : ∀ r ∈ e.reads ++ e.writes, agree m m' r) : callA C m' g args = some e := by
  unfold callA at h ⊢
  cases h1 : viewAll m args with
  | none => simp [h1] at h
  | some p =>
    obtain ⟨vs, tb, gv⟩ := p
    simp only [h1] at h
    have htb : ∀ b ∈ tb, getSlot m b = getSlot m' b := by
      intro b hb
      refine agree_whole (ha _ ?_)
      cases h2 : C.orc g vs with
      | none => simp [h2] at h
      | some q =>
        obtain ⟨r, gr⟩ := q
        cases hn : noRefs r <;> simp [h2, hn] at h <;> subst h <;> simp <;> first | exact .inl ⟨b, hb, rfl⟩ | exact ⟨b, hb, rfl⟩
    rw [viewAll_local h1 htb]
    simp only
    rw [← freeze_local tb htb]
    exact h

theorem appendA_local {P : Program} {m m' : Mem} {slot : Nat} {t : TypeId} {s x : AV} {e : Eff} (h : appendA P m slot t s x = some e) (ha : ∀ r ∈ e.reads ++ e.writes, agree m m' r) : appendA P m' slot t s x = some e := by
  unfold appendA at h ⊢
  cases hu : P.underlying t with
  | none => simp [hu] at h
  | some d =>
    cases d with
    | slice el =>
      simp only [hu] at h ⊢
      cases hn : szOf P el with
      | none => simp [hn] at h
      | some n =>
        simp only [hn] at h ⊢
        cases hq : (Nat.beq n 0 || !bytesOk P el || !elemOk P el n) with
        | true => simp [hq] at h
        | false =>
          simp only [hq, cond_false] at h ⊢
          cases hv : viewFlat m x with
          | none => simp [hv] at h
          | some p =>
            obtain ⟨x', tx, gx⟩ := p
            simp only [hv] at h
            cases hadd : addOf n x' with
            | none => simp [hadd] at h
            | some p2 =>
              obtain ⟨rows2, kx⟩ := p2
              simp only [hadd] at h
              cases s with
              | nsl =>
                simp only [Option.some.injEq] at h
                subst h
                rw [viewFlat_local hv (fun b hb => agree_whole (ha _ (by simp; exact .inl ⟨b, hb, rfl⟩)))]
                simp [hadd]
              | lsl kn b et n' len =>
                simp only at h
                cases hs : getSlot m b with
                | none => simp [hs] at h
                | some s0 =>
                  obtain ⟨blk, fr⟩ := s0
                  cases blk with
                  | one cs => simp [hs] at h
                  | many et' n'' fl rows =>
                    cases fl with
                    | false => simp [hs] at h
                    | true =>
                      cases fr with
                      | true => simp [hs] at h
                      | false =>
                        simp only [hs] at h
                        cases hg : (Nat.beq el et && Nat.beq el et' && Nat.beq n n' && Nat.beq n n'') with
                        | false => simp [hg] at h
                        | true =>
                          simp only [hg, cond_true, Option.some.injEq] at h
                          subst h
                          have h1 := agree_whole (ha (whole b) (by simp))
                          rw [hs] at h1
                          rw [viewFlat_local hv (fun b hb => agree_whole (ha _ (by simp; exact .inl ⟨b, hb, rfl⟩)))]
                          simp [hadd, ← h1, hg]
              | _ => simp at h
    | _ => simp [hu] at h

/-- an operation sees no more of memory than it says -/
theorem simple_local {C : Ctx} {m m' : Mem} {slot : Nat} {f : Operand → AV} {o : Oper} {e : Eff} (h : simple C m slot f o = some e) (ha : ∀ r ∈ e.reads ++ e.writes, agree m m' r) : simple C m' slot f o = some e := by
  cases hop : o.op with
  | load t x =>
    simp only [simple, hop] at h ⊢
    cases hl : loadA C.P m t (f x) with
    | none => simp [hl] at h
    | some p =>
      obtain ⟨v, g⟩ := p
      simp [hl] at h
      subst h
      rw [loadA_local hl (fun r hr => ha r (by simp [hr]))]
  | store t x y =>
    simp only [simple, hop] at h ⊢
    exact storeA_local h ha
  | call cl =>
    obtain ⟨callee, args, argTypes⟩ := cl
    cases callee with
    | invoke r m => simp [simple, hop] at h
    | builtin b =>
      cases b with
      | append =>
        simp only [simple, hop] at h ⊢
        cases hA : args.toList with
        | nil => simp [hA] at h
        | cons x xs =>
          cases xs with
          | nil => simp [hA] at h
          | cons y ys =>
            cases ys with
            | cons z zs => simp [hA] at h
            | nil =>
              cases hT : argTypes.toList with
              | nil => simp [hA, hT] at h
              | cons t ts =>
                cases ts with
                | nil => simp [hA, hT] at h
                | cons t' ts' =>
                  cases ts' with
                  | cons t'' ts'' => simp [hA, hT] at h
                  | nil =>
                    simp only [hA, hT, List.map_cons, List.map_nil] at h ⊢
                    cases hb : Nat.beq t t' with
                    | false => simp [hb] at h
                    | true =>
                      simp only [hb, cond_true] at h ⊢
                      exact appendA_local h ha
      | _ => simpa only [simple, hop] using h
    | value g =>
      simp only [simple, hop] at h ⊢
      cases hfx : f g <;> simp only [hfx] at h ⊢ <;> try (cases h; done)
      rename_i fid cap
      cases hq : C.isOrc fid with
      | false => simp [hq] at h
      | true =>
        simp only [hq, cond_true] at h ⊢
        exact callA_local h ha
  | typeAssert x xt t ok => cases ok <;> simpa only [simple, hop] using h
  | slice t x lo hi mx => cases lo <;> cases hi <;> cases mx <;> simpa only [simple, hop] using h
  | _ => simpa only [simple, hop] using h

end Go.Flat
end

section
/- A region that draws its order: writes that do not meet may be swapped. -/
set_option linter.unusedSimpArgs false
set_option linter.unusedVariables false
namespace Go.Flat
open Go

theorem bifE {α : Type} {c : Bool} {x : Option α} {e : α} {p : Prop} (h : (bif c then x else none) = some e) (k : x = some e → p) : p := by
  cases c with
  | true => exact k h
  | false => cases h

theorem blt2 {a b c d : Nat} (h : (Nat.blt a b && Nat.blt c d) = false) : ¬ (a < b ∧ c < d) := fun ⟨x, y⟩ => by
  have h1 : Nat.blt a b = true := by rw [Nat.blt_eq]; exact x
  have h2 : Nat.blt c d = true := by rw [Nat.blt_eq]; exact y
  rw [h1, h2] at h
  cases h

def rngOf : W1 → Rng
  | .put b _ => whole b
  | .cells b off vs => (b, off, vs.length)

theorem freeze_rng (mem : Mem) : ∀ (tb : List Nat), ∀ u ∈ freeze mem tb, rngOf u ∈ tb.map whole
  | [], u, hu => by simp [Flat.freeze] at hu
  | b :: tb, u, hu => by
    simp only [Flat.freeze] at hu
    cases hs : getSlot mem b with
    | none => simp only [hs] at hu; exact List.mem_cons_of_mem _ (freeze_rng mem tb u hu)
    | some s =>
      simp only [hs, List.mem_cons] at hu
      rcases hu with rfl | hu
      · exact List.mem_cons_self
      · exact List.mem_cons_of_mem _ (freeze_rng mem tb u hu)

theorem val_upd {v : AV} {g : List Bool} {e : Eff} (h : some (Eff.val v g) = some e) : e.upd = [] := by cases h; rfl

theorem bif_upd {c : Bool} {a e : Eff} (ha : a.upd = []) (h : (bif c then some a else none) = some e) : e.upd = [] := by
  cases c with
  | false => simp at h
  | true => simp at h; rw [← h]; exact ha
theorem valO_upd {x : Option AV} {e : Eff} (h : valO x = some e) : e.upd = [] := by obtain ⟨v, _, rfl⟩ := valO_some h; rfl
theorem detRes_upd {P : Program} {kn : Bool} {s : Sem Value} {e : Eff} (h : detRes P kn s = some e) : e.upd = [] := by obtain ⟨_, v, _, _, rfl⟩ := detRes_some h; rfl

theorem storeA_rng {P : Program} {m : Mem} {t : TypeId} {a x : AV} {e : Eff} (h : storeA P m t a x = some e) : ∀ u ∈ e.upd, rngOf u ∈ e.writes := by
  cases a with
  | ptr b esz row off =>
    simp only [storeA] at h
    cases hn : szOf P t with
    | none => simp [hn] at h
    | some n =>
      simp only [hn] at h
      cases hg : (Nat.beq x.cells.length n && x.cells.all AV.leaf && !Nat.beq n 0) with
      | false => simp [hg] at h
      | true =>
        simp only [hg, cond_true] at h
        simp only [Bool.and_eq_true] at hg
        have hl := Nat.eq_of_beq_eq_true hg.1.1
        cases hs : getSlot m b with
        | none => simp [hs] at h
        | some s =>
          obtain ⟨blk, fr⟩ := s
          cases fr with
          | true => cases blk <;> simp [hs] at h
          | false =>
            cases blk with
            | one cs =>
              simp only [hs] at h
              cases hq : (Nat.beq row 0 && Nat.ble (off + n) cs.length) with
              | false => simp [hq] at h
              | true => simp [hq] at h; subst h; intro u hu; simp at hu; subst hu; simp [rngOf, hl]
            | many et esz' fl rows =>
              simp only [hs] at h
              cases he : Nat.beq esz esz' with
              | false => simp [he] at h
              | true =>
                simp only [he, cond_true] at h
                cases hw : (Nat.beq off 0 && Nat.beq n esz) with
                | true => simp [hw] at h; subst h; intro u hu; simp at hu; subst hu; simp [rngOf]
                | false =>
                  simp only [hw, cond_false] at h
                  cases hr : rows[row]? with
                  | none => simp [hr] at h
                  | some r =>
                    simp only [hr] at h
                    cases hb : Nat.ble (off + n) r.length with
                    | false => simp [hb] at h
                    | true => simp [hb] at h; subst h; intro u hu; simp at hu; subst hu; simp [rngOf]
  | _ => simp [storeA] at h

theorem callA_rng {C : Ctx} {m : Mem} {g : FuncId} {args : List AV} {e : Eff} (h : callA C m g args = some e) : ∀ u ∈ e.upd, rngOf u ∈ e.writes := by
  unfold callA at h
  cases h1 : viewAll m args with
  | none => simp [h1] at h
  | some p =>
    obtain ⟨vs, tb, gv⟩ := p
    simp only [h1] at h
    cases h2 : C.orc g vs with
    | none => simp [h2] at h
    | some q =>
      obtain ⟨r, gr⟩ := q
      cases hn : noRefs r with
      | true => simp [h2, hn] at h; subst h; intro u hu; simp at hu
      | false => simp [h2, hn] at h; subst h; exact freeze_rng m tb

theorem appendA_rng {P : Program} {m : Mem} {slot : Nat} {t : TypeId} {s x : AV} {e : Eff} (h : appendA P m slot t s x = some e) : ∀ u ∈ e.upd, rngOf u ∈ e.writes := by
  unfold appendA at h
  cases hu : P.underlying t with
  | none => simp [hu] at h
  | some d =>
    cases d with
    | slice el =>
      simp only [hu] at h
      cases hn : szOf P el with
      | none => simp [hn] at h
      | some n =>
        simp only [hn] at h
        cases hq : (Nat.beq n 0 || !bytesOk P el || !elemOk P el n) with
        | true => simp [hq] at h
        | false =>
          simp only [hq, cond_false] at h
          cases hv : viewFlat m x with
          | none => simp [hv] at h
          | some p =>
            obtain ⟨x', tx, gx⟩ := p
            simp only [hv] at h
            cases hadd : addOf n x' with
            | none => simp [hadd] at h
            | some p2 =>
              obtain ⟨rows2, kx⟩ := p2
              simp only [hadd] at h
              cases s with
              | nsl => simp only [Option.some.injEq] at h; subst h; intro u hu; simp at hu; subst hu; simp [rngOf]
              | lsl kn b et n' len =>
                simp only at h
                cases hs : getSlot m b with
                | none => simp [hs] at h
                | some s0 =>
                  obtain ⟨blk, fr⟩ := s0
                  cases blk with
                  | one cs => simp [hs] at h
                  | many et' n'' fl rows =>
                    cases fl with
                    | false => simp [hs] at h
                    | true =>
                      cases fr with
                      | true => simp [hs] at h
                      | false =>
                        simp only [hs] at h
                        cases hg : (Nat.beq el et && Nat.beq el et' && Nat.beq n n' && Nat.beq n n'') with
                        | false => simp [hg] at h
                        | true => simp only [hg, cond_true, Option.some.injEq] at h; subst h; intro u hu; simp at hu; rcases hu with rfl | rfl <;> simp [rngOf]
              | _ => simp at h
    | _ => simp [hu] at h

theorem simple_rng {C : Ctx} {m : Mem} {slot : Nat} {f : Operand → AV} {o : Oper} {e : Eff} (h : simple C m slot f o = some e) : ∀ u ∈ e.upd, rngOf u ∈ e.writes := by
  have nil : e.upd = [] → ∀ u ∈ e.upd, rngOf u ∈ e.writes := fun h u hu => by rw [h] at hu; simp at hu
  have one : ∀ v s g r, some (⟨v, [.put slot s], g, r, [whole slot]⟩ : Eff) = some e → ∀ u ∈ e.upd, rngOf u ∈ e.writes := fun v s g r h u hu => by
    cases h; simp at hu; subst hu; simp [rngOf]
  cases hop : o.op with
  | move x => simp only [simple, hop] at h; exact nil (val_upd h)
  | assign x => simp only [simple, hop] at h; exact nil (val_upd h)
  | pick c x y =>
    simp only [simple, hop] at h
    cases hfc : f c <;> simp [hfc] at h
    rename_i b
    cases b <;> simp at h <;> subst h <;> exact nil rfl
  | alloc t =>
    simp only [simple, hop] at h
    cases hz : zeroA C.P t with
    | none => simp [hz] at h
    | some z =>
      simp only [hz] at h
      cases hl : z.cells.all AV.leaf with
      | false => simp [hl] at h
      | true => simp only [hl, cond_true] at h; exact one _ _ _ _ h
  | box t x =>
    simp only [simple, hop] at h
    cases hl : (f x).cells.all AV.leaf with
    | false => simp [hl] at h
    | true => simp only [hl, cond_true] at h; exact one _ _ _ _ h
  | build t parts => simp only [simple, hop] at h; exact nil (valO_upd h)
  | buildSlice t len parts =>
    simp only [simple, hop] at h
    cases h0 : Nat.beq len 0 with
    | false => simp only [h0, cond_false] at h; exact nil (valO_upd h)
    | true =>
      simp only [h0, cond_true] at h
      unfold emptyA at h
      cases hp : parts.toList with
      | cons p ps => simp [hp] at h
      | nil =>
        simp only [hp] at h
        cases hu : C.P.underlying t with
        | none => simp [hu] at h
        | some d =>
          cases d with
          | slice el =>
            simp only [hu] at h
            cases hn : szOf C.P el with
            | none => simp [hn] at h
            | some n =>
              simp only [hn] at h
              cases hq : Nat.beq n 0 with
              | true => simp [hq] at h
              | false => simp only [hq, cond_false] at h; exact one _ _ _ _ h
          | _ => simp [hu] at h
  | load t x =>
    simp only [simple, hop] at h
    cases hl : loadA C.P m t (f x) with
    | none => simp [hl] at h
    | some p => simp [hl] at h; subst h; exact nil rfl
  | store t x y => simp only [simple, hop] at h; exact storeA_rng h
  | nilCheck x =>
    simp only [simple, hop] at h
    cases hfx : f x <;> simp [hfx] at h <;> subst h <;> exact nil rfl
  | binOp op t x y t' =>
    simp only [simple, hop] at h
    exact nil (binX_upd h)
  | unOp op t x =>
    simp only [simple, hop] at h
    cases hx : leafV (f x) with
    | none => simp [hx] at h
    | some u => simp only [hx] at h; exact nil (detRes_upd h)
  | convert s d x =>
    simp only [simple, hop] at h
    refine nil ?_
    repeat' split at h
    all_goals first | (cases h; done) | exact val_upd h
  | fieldAddr t x fi =>
    simp only [simple, hop] at h
    refine nil ?_
    cases h1 : fieldOf C.P t fi with
    | none => simp [h1] at h
    | some p =>
      obtain ⟨off, u⟩ := p
      simp only [h1] at h
      cases hn : szOf C.P u with
      | none => simp [hn] at h
      | some n =>
        simp only [hn] at h
        cases hq : Nat.beq n 0 with
        | true => simp [hq] at h
        | false => simp only [hq, cond_false] at h; exact valO_upd h
  | field t x fi =>
    simp only [simple, hop] at h
    refine nil ?_
    repeat' split at h
    all_goals first | (cases h; done) | exact valO_upd h
  | indexAddr t x i =>
    simp only [simple, hop, indexAddrA] at h
    refine nil ?_
    have hin : ∀ z len kn v, inB z len kn v = some e → e.upd = [] := fun z len kn v h => by
      unfold inB at h
      cases kn with
      | true => cases hq : (decide (0 ≤ z) && decide (z < (len : Int))) <;> simp [hq] at h; subst h; rfl
      | false => simp at h; subst h; rfl
    cases hz : intOf (f i) with
    | none => simp [hz] at h
    | some zk =>
      obtain ⟨z, kz⟩ := zk
      simp only [hz] at h
      cases hu : C.P.underlying t with
      | none => simp [hu] at h
      | some d =>
        cases d with
        | array len el =>
          simp only [hu] at h
          cases hn : szOf C.P el with
          | none => simp [hn] at h
          | some n =>
            simp only [hn] at h
            cases hp : offPtr (f x) (z.toNat * n) with
            | none => simp [hp] at h
            | some p => simp only [hp] at h; exact hin _ _ _ _ h
        | slice el =>
          simp only [hu] at h
          cases hn : szOf C.P el with
          | none => simp [hn] at h
          | some n =>
            simp only [hn] at h
            cases hfx : f x <;> simp only [hfx] at h <;> try (cases h; done)
            all_goals exact bifE h (fun h => hin _ _ _ _ h)
        | _ => simp [hu] at h
  | slice t x lo hi mx =>
    refine nil ?_
    cases lo <;> cases hi <;> cases mx <;> simp only [simple, hop] at h <;> try (cases h; done)
    unfold sliceFromA at h
    split at h
    · split at h
      · split at h
        · split at h
          · exact bif_upd rfl h
          · cases h
        · cases h
      · cases h
    · cases h
  | extract x i =>
    simp only [simple, hop] at h
    refine nil ?_
    repeat' split at h
    all_goals first | (cases h; done) | exact valO_upd h
  | makeFunc fn first cap =>
    simp only [simple, hop] at h
    refine nil ?_
    repeat' split at h
    all_goals first | (cases h; done) | exact val_upd h
  | makeInterface t x =>
    simp only [simple, hop] at h
    refine nil ?_
    cases hq : (notIface C.P t && (f x).leaf) with
    | false => simp [hq] at h
    | true => simp only [hq, cond_true] at h; exact val_upd h
  | typeAssert x xt t ok =>
    cases ok with
    | false => simp [simple, hop] at h
    | true =>
      simp only [simple, hop] at h
      refine nil ?_
      cases hfx : f x <;> simp only [hfx] at h <;> try (cases h; done)
      rename_i u v
      cases hq : notIface C.P t with
      | false => simp [hq] at h
      | true =>
        simp only [hq, cond_true] at h
        cases hb : Nat.beq u t with
        | true => simp only [hb, cond_true] at h; exact val_upd h
        | false =>
          simp only [hb, cond_false] at h
          cases hz : zeroA C.P t with
          | none => simp [hz] at h
          | some z =>
            cases hzl : z.cells.all AV.leaf with
            | false => simp [hz, hzl] at h
            | true => simp only [hz, hzl, cond_true] at h; exact val_upd h
  | makeSlice t l c =>
    simp only [simple, hop] at h
    cases hu : C.P.underlying t with
    | none => simp [hu] at h
    | some d =>
      cases d with
      | slice el =>
        simp only [hu] at h
        cases hz : intOf (f l) with
        | none => simp [hz] at h
        | some zk =>
          cases hz' : intOf (f c) with
          | none => simp [hz, hz'] at h
          | some zk' =>
            simp only [hz, hz'] at h
            cases hn : szOf C.P el with
            | none => simp [hn] at h
            | some n =>
              cases hzr : zeroA C.P el with
              | none => simp [hn, hzr] at h
              | some zr =>
                simp only [hn, hzr] at h
                cases hq : (zr.cells.all AV.leaf && zr.cells.all noLoc && Nat.beq zr.cells.length n && !Nat.beq n 0 && bytesOk C.P el) with
                | false => simp [hq] at h
                | true => simp only [hq, cond_true] at h; exact one _ _ _ _ h
      | _ => simp [hu] at h
  | call cl =>
    obtain ⟨callee, args, argTypes⟩ := cl
    cases callee with
    | invoke r m => simp [simple, hop] at h
    | builtin b =>
      cases b with
      | append =>
        simp only [simple, hop] at h
        cases hA : args.toList with
        | nil => simp [hA] at h
        | cons x xs =>
          cases xs with
          | nil => simp [hA] at h
          | cons y ys =>
            cases ys with
            | cons z zs => simp [hA] at h
            | nil =>
              cases hT : argTypes.toList with
              | nil => simp [hA, hT] at h
              | cons t ts =>
                cases ts with
                | nil => simp [hA, hT] at h
                | cons t' ts' =>
                  cases ts' with
                  | cons t'' ts'' => simp [hA, hT] at h
                  | nil =>
                    simp only [hA, hT, List.map_cons, List.map_nil] at h
                    cases hb : Nat.beq t t' with
                    | false => simp [hb] at h
                    | true => simp only [hb, cond_true] at h; exact appendA_rng h
      | len =>
        simp only [simple, hop] at h
        refine nil ?_
        repeat' split at h
        all_goals first | (cases h; done) | exact valO_upd h
      | max =>
        simp only [simple, hop] at h
        refine nil ?_
        repeat' split at h
        all_goals first | (cases h; done) | exact detRes_upd h
      | min =>
        simp only [simple, hop] at h
        refine nil ?_
        repeat' split at h
        all_goals first | (cases h; done) | exact detRes_upd h
      | _ => simp [simple, hop] at h
    | value g =>
      simp only [simple, hop] at h
      cases hfx : f g <;> simp only [hfx] at h <;> try (cases h; done)
      rename_i fid cap
      cases hq : C.isOrc fid with
      | false => simp [hq] at h
      | true => simp only [hq, cond_true] at h; exact callA_rng h
  | _ => simp [simple, hop] at h

/-! ### applying writes -/

theorem apply1_length (m : Mem) (u : W1) : (apply1 m u).length = m.length := by
  cases u with
  | put b s => simp [apply1]
  | cells b off vs => simp only [apply1]; split <;> simp
theorem applyU_length : ∀ (u : Upd) (m : Mem), (applyU m u).length = m.length
  | [], m => rfl
  | x :: u, m => by
    have := applyU_length u (apply1 m x)
    simp only [applyU, List.foldl_cons] at this ⊢
    rw [this, apply1_length]

theorem getSlot_get {m m' : Mem} {b : Nat} (h : m[b]? = m'[b]?) : getSlot m b = getSlot m' b := by unfold getSlot; rw [h]

theorem apply1_other {m : Mem} {u : W1} {b : Nat} (h : b ≠ (rngOf u).1) : (apply1 m u)[b]? = m[b]? := by
  cases u with
  | put b' s => simp only [rngOf, whole] at h; simp only [apply1]; rw [List.getElem?_set_ne (Ne.symm h)]
  | cells b' off vs =>
    simp only [rngOf] at h
    simp only [apply1]
    split
    · rw [List.getElem?_set_ne (Ne.symm h)]
    · rfl

theorem agree_refl (m : Mem) (r : Rng) : agree m m r := .inl rfl

theorem agree_trans {m m' m'' : Mem} {r : Rng} (h : agree m m' r) (h' : agree m' m'' r) : agree m m'' r := by
  rcases h with h | ⟨hn, c1, c2, fr, h1, h2, h3, h4⟩
  · rcases h' with h' | ⟨hn, c1, c2, fr, k1, k2, k3, k4⟩
    · exact .inl (h.trans h')
    · exact .inr ⟨hn, c1, c2, fr, h.trans k1, k2, k3, k4⟩
  · rcases h' with h' | ⟨_, d1, d2, fr', k1, k2, k3, k4⟩
    · exact .inr ⟨hn, c1, c2, fr, h1, h'.symm.trans h2, h3, h4⟩
    · rw [h2] at k1
      cases k1
      exact .inr ⟨hn, c1, d2, fr, h1, k2, h3.trans k3, fun j j1 j2 => (h4 j j1 j2).trans (k4 j j1 j2)⟩

theorem agree_apply1 {m : Mem} {u : W1} {r : Rng} (h : meet1 (rngOf u) r = false) : agree m (apply1 m u) r := by
  by_cases hb : r.1 = (rngOf u).1
  · unfold meet1 at h
    rw [← hb, Nat.beq_refl, Bool.true_and, Bool.or_eq_false_iff, Bool.or_eq_false_iff] at h
    obtain ⟨⟨h1, h2⟩, h3⟩ := h
    cases u with
    | put b' s => simp [rngOf, whole] at h1
    | cells b' off vs =>
      simp only [rngOf] at hb h1 h3
      have hn : r.2.2 ≠ 0 := fun e => by rw [e] at h2; simp at h2
      by_cases hone : ∃ cs fr, m[b']? = some (some ⟨.one cs, fr⟩)
      · obtain ⟨cs, fr, hm⟩ := hone
        have hl : b' < m.length := (List.getElem?_eq_some_iff.1 hm).1
        refine .inr ⟨hn, cs, over cs off vs, fr, ?_, ?_, (length_over cs off vs).symm, fun j j1 j2 => ?_⟩
        · rw [hb]; simp [getSlot, hm]
        · have e : apply1 m (.cells b' off vs) = m.set b' (some ⟨.one (over cs off vs), fr⟩) := by simp only [apply1, hm]
          rw [hb, e, getSlot_set hl, if_pos rfl]
        · rw [get_over, if_neg]
          rintro ⟨k1, k2, _⟩
          have := blt2 h3
          omega
      · refine .inl (getSlot_get ?_)
        have : apply1 m (.cells b' off vs) = m := by
          simp only [apply1]
          split
          · rename_i cs fr hm; exact absurd ⟨cs, fr, hm⟩ hone
          · rfl
        rw [this]
  · exact .inl (getSlot_get (apply1_other hb).symm)

theorem agree_applyU : ∀ (u : Upd) (m : Mem) {r : Rng}, (∀ x ∈ u, meet1 (rngOf x) r = false) → agree m (applyU m u) r
  | [], m, r, _ => agree_refl m r
  | x :: u, m, r, h => by
    have h1 := agree_apply1 (m := m) (h x List.mem_cons_self)
    have h2 := agree_applyU u (apply1 m x) (fun y hy => h y (List.mem_cons_of_mem _ hy))
    exact agree_trans h1 h2

theorem apply1_one {m : Mem} {b off : Nat} {vs cs : List AV} {fr : Bool} (hm : m[b]? = some (some ⟨.one cs, fr⟩)) : apply1 m (.cells b off vs) = m.set b (some ⟨.one (over cs off vs), fr⟩) := by
  simp only [apply1, hm]

theorem apply1_not {m : Mem} {b off : Nat} {vs : List AV} (h : ¬ ∃ cs fr, m[b]? = some (some ⟨.one cs, fr⟩)) : apply1 m (.cells b off vs) = m := by
  simp only [apply1]
  split
  · rename_i cs fr hm; exact absurd ⟨cs, fr, hm⟩ h
  · rfl

theorem put_cells (m : Mem) (b : Nat) (s : Option Slot) (b' off : Nat) (vs : List AV) (hb : b ≠ b') : apply1 (m.set b s) (.cells b' off vs) = (apply1 m (.cells b' off vs)).set b s := by
  have e : (m.set b s)[b']? = m[b']? := List.getElem?_set_ne hb
  by_cases h1 : ∃ cs fr, m[b']? = some (some ⟨.one cs, fr⟩)
  · obtain ⟨cs, fr, hm⟩ := h1
    rw [apply1_one hm, apply1_one (cs := cs) (fr := fr) (e.trans hm), List.set_comm _ _ hb]
  · rw [apply1_not h1, apply1_not (by rw [e]; exact h1)]

theorem over_comm (l : List AV) (o o' : Nat) (vs vs' : List AV) (h : ¬ (o < o' + vs'.length ∧ o' < o + vs.length)) : over (over l o vs) o' vs' = over (over l o' vs') o vs := by
  apply List.ext_getElem?
  intro j
  simp only [get_over, length_over]
  repeat' split
  all_goals first | rfl | omega

theorem apply1_comm (m : Mem) (x y : W1) (h : meet1 (rngOf x) (rngOf y) = false) : apply1 (apply1 m x) y = apply1 (apply1 m y) x := by
  by_cases hb : (rngOf x).1 = (rngOf y).1
  · unfold meet1 at h
    rw [hb, Nat.beq_refl, Bool.true_and, Bool.or_eq_false_iff, Bool.or_eq_false_iff] at h
    obtain ⟨⟨h1, h2⟩, h3⟩ := h
    cases x with
    | put b s => simp [rngOf, whole] at h1
    | cells b off vs =>
      cases y with
      | put b' s => simp [rngOf, whole] at h2
      | cells b' off' vs' =>
        simp only [rngOf] at hb h3
        subst hb
        have hd : ¬ (off < off' + vs'.length ∧ off' < off + vs.length) := blt2 h3
        by_cases hone : ∃ cs fr, m[b]? = some (some ⟨.one cs, fr⟩)
        · obtain ⟨cs, fr, hm⟩ := hone
          have hl : b < m.length := (List.getElem?_eq_some_iff.1 hm).1
          rw [apply1_one hm, apply1_one hm, apply1_one (cs := over cs off vs) (fr := fr) (by rw [List.getElem?_set_self hl]), apply1_one (cs := over cs off' vs') (fr := fr) (by rw [List.getElem?_set_self hl]), List.set_set, List.set_set, over_comm cs off off' vs vs' hd]
        · have hno : ∀ o v, apply1 m (.cells b o v) = m := fun o v => by
            simp only [apply1]
            split
            · rename_i cs fr hm; exact absurd ⟨cs, fr, hm⟩ hone
            · rfl
          rw [hno, hno, hno]
  · cases x with
    | put b s =>
      cases y with
      | put b' s' => simp only [rngOf, whole] at hb; simp only [apply1]; rw [List.set_comm _ _ hb]
      | cells b' off vs =>
        simp only [rngOf, whole] at hb
        exact put_cells m b s b' off vs hb
    | cells b off vs =>
      cases y with
      | put b' s' =>
        simp only [rngOf, whole] at hb
        exact (put_cells m b' s' b off vs (Ne.symm hb)).symm
      | cells b' off' vs' =>
        simp only [rngOf] at hb
        have e1 : (apply1 m (.cells b off vs))[b']? = m[b']? := apply1_other (u := .cells b off vs) (Ne.symm hb)
        have e2 : (apply1 m (.cells b' off' vs'))[b]? = m[b]? := apply1_other (u := .cells b' off' vs') hb
        by_cases h1 : ∃ cs fr, m[b]? = some (some ⟨.one cs, fr⟩)
        · obtain ⟨cs, fr, hm⟩ := h1
          by_cases h2 : ∃ cs' fr', m[b']? = some (some ⟨.one cs', fr'⟩)
          · obtain ⟨cs', fr', hm'⟩ := h2
            rw [apply1_one hm, apply1_one hm', apply1_one (cs := cs') (fr := fr') (by rw [List.getElem?_set_ne hb]; exact hm'), apply1_one (cs := cs) (fr := fr) (by rw [List.getElem?_set_ne (Ne.symm hb)]; exact hm), List.set_comm _ _ hb]
          · have n2 : ∀ (m2 : Mem), m2[b']? = m[b']? → apply1 m2 (.cells b' off' vs') = m2 := fun m2 he => by
              simp only [apply1, he]
              split
              · rename_i cs fr hm; exact absurd ⟨cs, fr, hm⟩ h2
              · rfl
            rw [n2 _ e1, n2 m rfl]
        · have n1 : ∀ (m2 : Mem), m2[b]? = m[b]? → apply1 m2 (.cells b off vs) = m2 := fun m2 he => by
            simp only [apply1, he]
            split
            · rename_i cs fr hm; exact absurd ⟨cs, fr, hm⟩ h1
            · rfl
          rw [n1 m rfl, n1 _ e2]

theorem applyU_comm1 : ∀ (v : Upd) (m : Mem) (x : W1), (∀ y ∈ v, meet1 (rngOf x) (rngOf y) = false) → applyU (apply1 m x) v = apply1 (applyU m v) x
  | [], m, x, _ => rfl
  | y :: v, m, x, h => by
    simp only [applyU, List.foldl_cons]
    rw [apply1_comm m x y (h y List.mem_cons_self)]
    exact applyU_comm1 v (apply1 m y) x (fun z hz => h z (List.mem_cons_of_mem _ hz))

theorem applyU_comm : ∀ (u v : Upd) (m : Mem), (∀ x ∈ u, ∀ y ∈ v, meet1 (rngOf x) (rngOf y) = false) → applyU (applyU m u) v = applyU (applyU m v) u
  | [], v, m, _ => rfl
  | x :: u, v, m, h => by
    have h1 := applyU_comm u v (apply1 m x) (fun a ha => h a (List.mem_cons_of_mem _ ha))
    have h2 := applyU_comm1 v m x (h x List.mem_cons_self)
    show applyU (applyU (apply1 m x) u) v = applyU (apply1 (applyU m v) x) u
    rw [h1, h2]

end Go.Flat
end

section
/- A region that draws its order: steps, and how one is brought to the front. -/
set_option linter.unusedSimpArgs false
set_option linter.unusedVariables false
namespace Go.Flat
open Go

abbrev EnvF := Nat → AV

def putF (g : EnvF) (dst : Option Nat) (v : AV) : EnvF := match dst with
  | some d => fun t => if d = t then v else g t
  | none => g

theorem look_putA (env : Env) (dst : Option Nat) (v : AV) : look (putA env dst v) = putF (look env) dst v := by
  cases dst with
  | none => rfl
  | some d =>
    funext t
    simp only [putA, look, putF]
    by_cases h : d = t
    · subst h; simp
    · have : Nat.beq d t = false := by
        cases hb : Nat.beq d t with
        | false => rfl
        | true => exact absurd (Nat.eq_of_beq_eq_true hb) h
      simp [this, h]

def land (tgt : Bool) (v : AV) : AV := match tgt, v with
  | true, .lit (.bool b) => .kb b
  | _, v => v

structure Item where
  i : Nat
  slot : Nat
  o : Oper

def stepF (C : Ctx) (nt : Nat) (all : List Oper) (p : Item) (g : EnvF) (m : Mem) : Option (EnvF × Mem × Log) :=
  bif !dstOk nt p.o then none else
  match guardOf all g p.o with
  | some true => (match simple C m p.slot (evF g) p.o with
    | some e => bif e.conds.all id then some (putF g p.o.dst (land (isTarget all p.i) e.v), applyU m e.upd, ⟨p.i, e.reads, e.writes⟩) else none
    | none => none)
  | some false => some (putF g p.o.dst skipV, m, ⟨p.i, [], []⟩)
  | none => none

def runF' (C : Ctx) (nt : Nat) (all : List Oper) : List Item → EnvF → Mem → Option (EnvF × Mem × List Log)
  | [], g, m => some (g, m, [])
  | p :: l, g, m => match stepF C nt all p g m with
    | some (g', m', lg) => (match runF' C nt all l g' m' with
      | some (g'', m'', ls) => some (g'', m'', lg :: ls)
      | none => none)
    | none => none

theorem stepF_log {C : Ctx} {nt : Nat} {all : List Oper} {p : Item} {g g' : EnvF} {m m' : Mem} {lg : Log} (h : stepF C nt all p g m = some (g', m', lg)) : lg.i = p.i := by
  unfold stepF at h
  cases hd : dstOk nt p.o with
  | false => simp [hd] at h
  | true =>
    simp only [hd, Bool.not_true, cond_false] at h
    cases hg : guardOf all g p.o with
    | none => simp [hg] at h
    | some b =>
      cases b with
      | false => simp [hg] at h; rw [← h.2.2]
      | true =>
        simp only [hg] at h
        cases hs : simple C m p.slot (evF g) p.o with
        | none => simp [hs] at h
        | some e =>
          simp only [hs] at h
          cases hc : e.conds.all id with
          | false => simp [hc] at h
          | true => simp [hc] at h; rw [← h.2.2]

/-- what an operation names -/
theorem names_dst {ops : List Oper} {o : Oper} {d : Nat} (h : o.dst = some d) : d ∈ namesOf ops o := by simp [namesOf, h]
theorem names_op {ops : List Oper} {o : Oper} {t : Nat} (h : Operand.tmp t ∈ o.op.operands) : t ∈ namesOf ops o := by
  simp only [namesOf, List.mem_append, List.mem_filterMap]
  exact .inl (.inr ⟨.tmp t, by simpa using h, rfl⟩)
theorem names_guard {ops : List Oper} {o p : Oper} {j t : Nat} {want : Bool} (h : o.guard = some (j, want)) (hp : ops[j]? = some p) (ht : p.dst = some t) : t ∈ namesOf ops o := by
  simp only [namesOf, h, List.mem_append]
  right
  simp [hp, ht]

theorem not_any_beq {l : List Nat} {d : Nat} (h : l.any (Nat.beq d) = false) : d ∉ l := by
  intro hd
  have : l.any (Nat.beq d) = true := List.any_eq_true.2 ⟨d, hd, Nat.beq_refl d⟩
  rw [h] at this
  cases this

theorem tmpClash_spec {ops : List Oper} {x y : Oper} (h : tmpClash ops x y = false) : (∀ d, x.dst = some d → d ∉ namesOf ops y) ∧ (∀ d, y.dst = some d → d ∉ namesOf ops x) := by
  unfold tmpClash at h
  simp only [Bool.or_eq_false_iff] at h
  refine ⟨fun d hd => ?_, fun d hd => ?_⟩
  · have := h.1; rw [hd] at this; exact not_any_beq this
  · have := h.2; rw [hd] at this; exact not_any_beq this

theorem guardOf_congr {all : List Oper} {g g' : EnvF} {o : Oper} (h : ∀ t ∈ namesOf all o, g t = g' t) : guardOf all g o = guardOf all g' o := by
  unfold guardOf
  cases hg : o.guard with
  | none => rfl
  | some jw =>
    obtain ⟨j, want⟩ := jw
    simp only
    cases hp : all[j]? with
    | none => rfl
    | some p =>
      simp only
      cases hd : p.dst with
      | none => rfl
      | some t => simp only; rw [h t (names_guard hg hp hd)]

theorem evF_congr {g g' : EnvF} {o : Oper} {ops : List Oper} (h : ∀ t ∈ namesOf ops o, g t = g' t) : ∀ x ∈ o.op.operands, evF g x = evF g' x := by
  intro x hx
  cases x with
  | tmp t => exact h t (names_op hx)
  | const v => rfl
  | func f => rfl
  | global f => rfl

theorem map_evs {f f' : Operand → AV} {l : Array Operand} (h : ∀ x ∈ l, f x = f' x) : l.toList.map f = l.toList.map f' := List.map_congr_left fun x hx => h x (by simpa using hx)

theorem map_parts {f f' : Operand → AV} {l : Array (Nat × Operand)} (h : ∀ x ∈ (l.toList.map (·.2)).toArray, f x = f' x) : (l.toList.map fun (p : Nat × Operand) => (p.1, f p.2)) = (l.toList.map fun (p : Nat × Operand) => (p.1, f' p.2)) :=
  List.map_congr_left fun p hp => by rw [h p.2 (by simp; exact ⟨p.1, by simpa using hp⟩)]

/-- an operation looks at its operands alone -/
theorem simple_congr {C : Ctx} {m : Mem} {slot : Nat} {f f' : Operand → AV} {o : Oper} (h : ∀ x ∈ o.op.operands, f x = f' x) : simple C m slot f o = simple C m slot f' o := by
  cases hop : o.op with
  | move x | assign x | box _ x | load _ x | nilCheck x | unOp _ _ x | convert _ _ x | makeInterface _ x | fieldAddr _ x _ | field _ x _ | extract x _ =>
    have h1 := h x (by rw [hop]; simp [Op.operands])
    simp only [simple, hop, h1]
  | slice t x lo hi mx =>
    have h1 := h x (by rw [hop]; simp [Op.operands])
    cases lo with
    | none => cases hi <;> cases mx <;> simp only [simple, hop]
    | some l =>
      have h2 := h l (by rw [hop]; simp [Op.operands])
      cases hi <;> cases mx <;> simp only [simple, hop, h1, h2]
  | typeAssert x _ _ ok =>
    have h1 := h x (by rw [hop]; simp [Op.operands])
    cases ok <;> simp only [simple, hop, h1]
  | pick c x y =>
    have h1 := h c (by rw [hop]; simp [Op.operands])
    have h2 := h x (by rw [hop]; simp [Op.operands])
    have h3 := h y (by rw [hop]; simp [Op.operands])
    simp only [simple, hop, h1, h2, h3]
  | store _ x y | binOp _ _ x y _ | makeSlice _ x y | indexAddr _ x y =>
    have h1 := h x (by rw [hop]; simp [Op.operands])
    have h2 := h y (by rw [hop]; simp [Op.operands])
    simp only [simple, hop, h1, h2]
  | build t parts =>
    have h1 := map_parts (l := parts) (f := f) (f' := f') (fun x hx => h x (by rw [hop]; exact hx))
    simp only [simple, hop]
    rw [h1]
  | buildSlice t len parts =>
    have h1 := map_parts (l := parts) (f := f) (f' := f') (fun x hx => h x (by rw [hop]; exact hx))
    simp only [simple, hop]
    rw [h1]
  | makeFunc fn first cap =>
    have h1 := map_evs (l := cap) (f := f) (f' := f') (fun x hx => h x (by rw [hop]; simp [Op.operands, hx]))
    simp only [simple, hop]
    rw [h1]
  | call cl =>
    obtain ⟨callee, args, argTypes⟩ := cl
    have h1 := map_evs (l := args) (f := f) (f' := f') (fun x hx => h x (by rw [hop]; simp [Op.operands, Call.operands, hx]))
    cases callee with
    | invoke r m => simp only [simple, hop]
    | builtin b => cases b <;> simp only [simple, hop, h1]
    | value g =>
      have h2 := h g (by rw [hop]; simp [Op.operands, Call.operands])
      simp only [simple, hop, h1, h2]
  | _ => simp only [simple, hop]

theorem putF_other {g : EnvF} {dst : Option Nat} {v : AV} {t : Nat} (h : ∀ d, dst = some d → d ≠ t) : putF g dst v t = g t := by
  cases dst with
  | none => rfl
  | some d => simp [putF, h d rfl]

theorem putF_comm {g : EnvF} {d d' : Option Nat} {v v' : AV} (h : ∀ x, d = some x → d' ≠ some x) : putF (putF g d v) d' v' = putF (putF g d' v') d v := by
  cases d with
  | none => rfl
  | some x =>
    cases d' with
    | none => rfl
    | some y =>
      have hne : x ≠ y := fun e => h x rfl (by rw [e])
      funext t
      simp only [putF]
      by_cases h1 : x = t <;> by_cases h2 : y = t <;> simp [h1, h2]
      exact absurd (h1.trans h2.symm) hne

theorem meets_false {xs ys : List Rng} (h : meets xs ys = false) : ∀ x ∈ xs, ∀ y ∈ ys, meet1 x y = false := by
  intro x hx y hy
  cases hm : meet1 x y with
  | false => rfl
  | true =>
    have : meets xs ys = true := by
      unfold meets
      exact List.any_eq_true.2 ⟨x, hx, List.any_eq_true.2 ⟨y, hy, hm⟩⟩
    rw [h] at this
    cases this

theorem meet1_comm (x y : Rng) : meet1 x y = meet1 y x := by
  unfold meet1
  have e : Nat.beq x.1 y.1 = Nat.beq y.1 x.1 := by
    cases h : Nat.beq x.1 y.1 with
    | true => rw [Nat.eq_of_beq_eq_true h, Nat.beq_refl]
    | false =>
      cases h' : Nat.beq y.1 x.1 with
      | false => rfl
      | true => rw [Nat.eq_of_beq_eq_true h', Nat.beq_refl] at h; cases h
  rw [e, Bool.or_comm (Nat.beq x.2.2 0), Bool.and_comm (Nat.blt x.2.1 _)]

theorem stepF_env {C : Ctx} {nt : Nat} {all : List Oper} {p : Item} {g g' : EnvF} {m m' : Mem} {lg : Log} (h : stepF C nt all p g m = some (g', m', lg)) : ∃ v u, g' = putF g p.o.dst v ∧ m' = applyU m u ∧ (∀ x ∈ u, rngOf x ∈ lg.writes) ∧
    (∀ g2 m2, (∀ t ∈ namesOf all p.o, g2 t = g t) → (∀ r ∈ lg.reads ++ lg.writes, agree m m2 r) → stepF C nt all p g2 m2 = some (putF g2 p.o.dst v, applyU m2 u, lg)) := by
  unfold stepF at h
  cases hd : dstOk nt p.o with
  | false => simp [hd] at h
  | true =>
    simp only [hd, Bool.not_true, cond_false] at h
    cases hg : guardOf all g p.o with
    | none => simp [hg] at h
    | some b =>
      cases b with
      | false =>
        simp only [hg, Option.some.injEq, Prod.mk.injEq] at h
        obtain ⟨rfl, rfl, rfl⟩ := h
        refine ⟨skipV, [], rfl, rfl, fun x hx => by simp at hx, fun g2 m2 h1 _ => ?_⟩
        unfold stepF
        simp only [hd, Bool.not_true, cond_false]
        rw [guardOf_congr h1, hg]
        rfl
      | true =>
        simp only [hg] at h
        cases hs : simple C m p.slot (evF g) p.o with
        | none => simp [hs] at h
        | some e =>
          simp only [hs] at h
          cases hc : e.conds.all id with
          | false => simp [hc] at h
          | true =>
            simp only [hc, cond_true, Option.some.injEq, Prod.mk.injEq] at h
            obtain ⟨rfl, rfl, rfl⟩ := h
            refine ⟨_, e.upd, rfl, rfl, simple_rng hs, fun g2 m2 h1 h2 => ?_⟩
            unfold stepF
            simp only [hd, Bool.not_true, cond_false]
            rw [guardOf_congr h1, hg]
            simp only
            rw [simple_congr (evF_congr h1), simple_local hs h2]
            simp only [hc, cond_true]

/-- two steps that do not meet may be swapped -/
theorem swap {C : Ctx} {nt : Nat} {all : List Oper} {p q : Item} {g g1 g2 : EnvF} {m m1 m2 : Mem} {lp lq : Log} (hp : stepF C nt all p g m = some (g1, m1, lp)) (hq : stepF C nt all q g1 m1 = some (g2, m2, lq))
    (ht : tmpClash all p.o q.o = false) (hc : clash lp lq = false) : ∃ g1' m1', stepF C nt all q g m = some (g1', m1', lq) ∧ stepF C nt all p g1' m1' = some (g2, m2, lp) := by
  obtain ⟨vp, up, rfl, rfl, wp, kp⟩ := stepF_env hp
  obtain ⟨vq, uq, rfl, rfl, wq, kq⟩ := stepF_env hq
  obtain ⟨t1, t2⟩ := tmpClash_spec ht
  unfold clash at hc
  simp only [Bool.or_eq_false_iff] at hc
  obtain ⟨⟨c1, c2⟩, c3⟩ := hc
  have hpq : ∀ x ∈ up, ∀ r ∈ lq.reads ++ lq.writes, meet1 (rngOf x) r = false := by
    intro x hx r hr
    rcases List.mem_append.1 hr with hr | hr
    · exact meets_false c2 _ (wp x hx) r hr
    · exact meets_false c1 _ (wp x hx) r hr
  have hqp : ∀ y ∈ uq, ∀ r ∈ lp.reads ++ lp.writes, meet1 (rngOf y) r = false := by
    intro y hy r hr
    rw [meet1_comm]
    rcases List.mem_append.1 hr with hr | hr
    · exact meets_false c3 r hr _ (wq y hy)
    · exact meets_false c1 r hr _ (wq y hy)
  have s1 := kq g m (fun t ht => (putF_other (fun d hd e => t1 d hd (e ▸ ht))).symm) (fun r hr => by
    have := agree_applyU up m (r := r) (fun x hx => hpq x hx r hr)
    rcases this with h | ⟨hn, a, b, fr, h1, h2, h3, h4⟩
    · exact .inl h.symm
    · exact .inr ⟨hn, b, a, fr, h2, h1, h3.symm, fun j j1 j2 => (h4 j j1 j2).symm⟩)
  have s2 := kp (putF g q.o.dst vq) (applyU m uq) (fun t ht => putF_other (fun d hd e => t2 d hd (e ▸ ht))) (fun r hr => agree_applyU uq m (fun y hy => hqp y hy r hr))
  refine ⟨_, _, s1, ?_⟩
  rw [s2]
  have e1 : putF (putF g q.o.dst vq) p.o.dst vp = putF (putF g p.o.dst vp) q.o.dst vq := putF_comm (fun x hx hx' => t2 x hx (names_dst hx'))
  have e2 : applyU (applyU m uq) up = applyU (applyU m up) uq := applyU_comm uq up m (fun y hy x hx => by rw [meet1_comm]; exact meets_false c1 _ (wp x hx) _ (wq y hy))
  rw [e1, e2]

/-- one that does not meet those ahead of it may come first -/
theorem bubble {C : Ctx} {nt : Nat} {all : List Oper} (q : Item) : ∀ (l1 l2 : List Item) (g : EnvF) (m : Mem) (gz : EnvF) (mz : Mem) (ls : List Log), runF' C nt all (l1 ++ q :: l2) g m = some (gz, mz, ls) →
    (∀ p ∈ l1, tmpClash all p.o q.o = false) → (∀ x ∈ ls, ∀ y ∈ ls, (∃ p ∈ l1, x.i = p.i) → y.i = q.i → clash x y = false) →
    ∃ g1 m1 lq ls', stepF C nt all q g m = some (g1, m1, lq) ∧ runF' C nt all (l1 ++ l2) g1 m1 = some (gz, mz, ls') ∧ (∀ x ∈ ls', x ∈ ls) ∧ lq ∈ ls
  | [], l2, g, m, gz, mz, ls, h, _, _ => by
    simp only [List.nil_append, runF'] at h
    cases hs : stepF C nt all q g m with
    | none => simp [hs] at h
    | some r =>
      obtain ⟨g1, m1, lq⟩ := r
      simp only [hs] at h
      cases hr : runF' C nt all l2 g1 m1 with
      | none => simp [hr] at h
      | some r2 =>
        obtain ⟨g2, m2, ls'⟩ := r2
        simp only [hr, Option.some.injEq, Prod.mk.injEq] at h
        obtain ⟨rfl, rfl, rfl⟩ := h
        exact ⟨g1, m1, lq, ls', rfl, hr, fun x hx => List.mem_cons_of_mem _ hx, List.mem_cons_self⟩
  | p :: l1, l2, g, m, gz, mz, ls, h, ht, hc => by
    simp only [List.cons_append, runF'] at h
    cases hs : stepF C nt all p g m with
    | none => simp [hs] at h
    | some r =>
      obtain ⟨g1, m1, lp⟩ := r
      simp only [hs] at h
      cases hr : runF' C nt all (l1 ++ q :: l2) g1 m1 with
      | none => simp [hr] at h
      | some r2 =>
        obtain ⟨g2, m2, ls2⟩ := r2
        simp only [hr, Option.some.injEq, Prod.mk.injEq] at h
        obtain ⟨rfl, rfl, rfl⟩ := h
        obtain ⟨g3, m3, lq, ls3, k1, k2, k3, k4⟩ := bubble q l1 l2 g1 m1 _ _ ls2 hr (fun x hx => ht x (List.mem_cons_of_mem _ hx)) (fun x hx y hy ⟨p', hp', e⟩ => hc x (List.mem_cons_of_mem _ hx) y (List.mem_cons_of_mem _ hy) ⟨p', List.mem_cons_of_mem _ hp', e⟩)
        have hcl : clash lp lq = false := hc lp List.mem_cons_self lq (List.mem_cons_of_mem _ k4) ⟨p, List.mem_cons_self, stepF_log hs⟩ (stepF_log k1)
        obtain ⟨g1', m1', s1, s2⟩ := swap hs k1 (ht p List.mem_cons_self) hcl
        refine ⟨g1', m1', lq, lp :: ls3, s1, ?_, fun x hx => ?_, List.mem_cons_of_mem _ k4⟩
        · simp only [List.cons_append, runF', s2, k2]
        · rcases List.mem_cons.1 hx with rfl | hx
          · exact List.mem_cons_self
          · exact List.mem_cons_of_mem _ (k3 x hx)

/-! ### what must come ahead -/

theorem foldl_bits (acc : List Nat) (j : Nat) : ∀ (l : List Edge) (s : Nat), (l.foldl (fun s e => bif binding e then s ||| 2 ^ e.on ||| acc.getD e.on 0 else s) s).testBit j = true →
    s.testBit j = true ∨ ∃ e ∈ l, binding e = true ∧ (j = e.on ∨ (acc.getD e.on 0).testBit j = true)
  | [], s, h => .inl h
  | e :: l, s, h => by
    simp only [List.foldl_cons] at h
    rcases foldl_bits acc j l _ h with h1 | ⟨e', he', h1, h2⟩
    · cases hb : binding e with
      | false => simp [hb] at h1; exact .inl h1
      | true =>
        simp only [hb, cond_true, Nat.testBit_or, Bool.or_eq_true] at h1
        rcases h1 with (h1 | h1) | h1
        · exact .inl h1
        · rw [Nat.testBit_two_pow] at h1
          exact .inr ⟨e, List.mem_cons_self, hb, .inl (by simpa using h1 : e.on = j).symm⟩
        · exact .inr ⟨e, List.mem_cons_self, hb, .inr h1⟩
    · exact .inr ⟨e', List.mem_cons_of_mem _ he', h1, h2⟩

/-- each bit has an edge behind it -/
def Bits (all : List Oper) (A : List Nat) : Prop := ∀ i o j, all[i]? = some o → i < A.length → (A.getD i 0).testBit j = true → ∃ e ∈ o.after.toList, binding e = true ∧ (j = e.on ∨ (e.on < i ∧ (A.getD e.on 0).testBit j = true))

theorem aheads_bits (all : List Oper) : ∀ (rest pre : List Oper) (acc : List Nat), all = pre ++ rest → acc.length = pre.length → Bits all acc → Bits all (aheads rest acc) ∧ (aheads rest acc).length = all.length
  | [], pre, acc, h, hl, hb => ⟨hb, by simp only [aheads]; rw [hl, h]; simp⟩
  | o :: rest, pre, acc, h, hl, hb => by
    simp only [aheads]
    refine aheads_bits all rest (pre ++ [o]) _ (by rw [h]; simp) (by simp [hl]) ?_
    intro i o' j hi hlt hbit
    rw [List.length_append, List.length_singleton] at hlt
    have hget : ∀ k, k < acc.length → ∀ x, (acc ++ [x]).getD k 0 = acc.getD k 0 := fun k hk x => by simp [List.getD, List.getElem?_append_left hk]
    by_cases hia : i < acc.length
    · rw [hget i hia] at hbit
      obtain ⟨e, he, h1, h2⟩ := hb i o' j hi hia hbit
      refine ⟨e, he, h1, h2.imp id (fun ⟨h3, h4⟩ => ⟨h3, ?_⟩)⟩
      rw [hget _ (by omega)]; exact h4
    · have hie : i = acc.length := by omega
      subst hie
      have ho : o' = o := by
        rw [h, hl, List.getElem?_append_right (Nat.le_refl _)] at hi
        simp at hi
        exact hi.symm
      subst ho
      have hlast : ∀ x, (acc ++ [x]).getD acc.length 0 = x := fun x => by simp [List.getD]
      rw [hlast] at hbit
      rcases foldl_bits acc j _ 0 hbit with h1 | ⟨e, he, h1, h2⟩
      · simp at h1
      · refine ⟨e, he, h1, h2.imp id (fun h3 => ?_)⟩
        have hel : e.on < acc.length := by
          rcases Nat.lt_or_ge e.on acc.length with h4 | h4
          · exact h4
          · simp [List.getD, List.getElem?_eq_none h4] at h3
        exact ⟨hel, by rw [hget _ hel]; exact h3⟩

theorem aheads_spec (all : List Oper) : Bits all (aheads all []) ∧ (aheads all []).length = all.length :=
  aheads_bits all all [] [] rfl rfl (fun i o j _ h => by simp at h)

end Go.Flat
end

section
/- What the evaluator says of a function's text, the model's machine does. Part 1: regions. -/
set_option linter.unusedSimpArgs false
set_option linter.unusedVariables false
namespace Go.Flat
open Go

structure SR (rf : Ref) (R : Nat → Prop) (ρ : Loc) (g : EnvF) (mem : Mem) (a : Act) (w : World) (nt : Nat) : Prop where
  ms : MS rf R ρ mem w
  tm : ∀ t, VR R ρ w (g t) (a.tmps.getD t undef)
  sz : nt ≤ a.tmps.size
  df : a.defers = []

section
variable {C : Ctx} {rf : Ref} {R : Nat → Prop} {ρ : Loc} {w : World} {mem : Mem} {a : Act} {g : EnvF} {nt : Nat}

theorem VR.constA (v : Value) : VR R ρ w (constA v) v := by
  unfold Flat.constA
  cases h : (Flat.ofConst v).cells.all AV.leaf with
  | false => exact .undef
  | true =>
    rcases VR.ofConst (R := R) (ρ := ρ) (w := w) v with h1 | h1
    · exact h1
    · exact absurd h h1

theorem SR.ev (h : SR rf R ρ g mem a w nt) (x : Operand) : VR R ρ w (evF g x) (a.eval x) := by
  cases x with
  | tmp t => exact h.tm t
  | const v => exact .constA v
  | func f => exact .clo #[] rfl (fun i c hc => by simp at hc)
  | global f => exact .undef

theorem put_getD {dst : Option Nat} {v : Value} (hd : ∀ d, dst = some d → d < a.tmps.size) (t : Nat) : (a.put dst v).tmps.getD t undef = if dst = some t then v else a.tmps.getD t undef := by
  cases dst with
  | none => simp [Act.put]
  | some d =>
    have := hd d rfl
    simp only [Act.put, Array.getD_eq_getD_getElem?, Array.getElem?_setIfInBounds, Option.some.injEq]
    by_cases h : d = t
    · subst h; simp [this]
    · simp [h]

theorem SR.put (h : SR rf R ρ g mem a w nt) {R' : Nat → Prop} {ρ' : Loc} {w' : World} {mem' : Mem} {slot : Nat} {o : Oper} {v : AV} {u : Value} (hd : dstOk nt o = true) (hm : MS rf R' ρ' mem' w') (hp : Post R ρ w R' ρ' w' slot)
    (hv : VR R' ρ' w' v u) : SR rf R' ρ' (putF g o.dst v) mem' (a.put o.dst u) w' nt := by
  have hlt : ∀ d, o.dst = some d → d < a.tmps.size := fun d hd' => by
    unfold dstOk at hd
    rw [hd'] at hd
    simp at hd
    exact Nat.lt_of_lt_of_le hd h.sz
  refine ⟨hm, fun t => ?_, ?_, ?_⟩
  · rw [put_getD hlt]
    by_cases e : o.dst = some t
    · rw [if_pos e, e]; simp only [putF, if_true]; exact hv
    · rw [if_neg e, putF_other (fun d hd' e' => e (by rw [hd', e']))]
      exact (h.tm t).mono hp.hR hp.hk hp.hs hp.hρ
  · cases hdst : o.dst <;> simp [Act.put, h.sz]
  · cases hdst : o.dst <;> simp [Act.put, h.df]

theorem land_VR {tgt : Bool} {v : AV} {u : Value} (h : VR R ρ w v u) : VR R ρ w (land tgt v) u := by
  cases tgt with
  | false => exact h
  | true =>
    cases h with
    | lit hl =>
      cases u <;> first | exact .lit hl | exact .kb
    | kb => exact .kb
    | ki h => exact .ki h
    | nsl => exact .nsl
    | vsl0 => exact .vsl0
    | vsl v h1 h2 h3 h4 h5 h6 h7 => exact .vsl v h1 h2 h3 h4 h5 h6 h7
    | vptr v h1 h2 h3 h4 => exact .vptr v h1 h2 h3 h4
    | ptr h => exact .ptr h
    | lsl0 => exact .lsl0
    | lsl h1 h2 h3 h4 h5 => exact .lsl h1 h2 h3 h4 h5
    | clo v h1 h2 => exact .clo v h1 h2
    | iface h1 h2 => exact .iface h1 h2
    | agg v h1 h2 h3 => exact .agg v h1 h2 h3
    | tup v h1 h2 => exact .tup v h1 h2
    | undef => exact .undef

theorem guard_wanted {ops : Array Oper} {o : Oper} {b : Bool} (h : SR rf R ρ g mem a w nt) (hg : guardOf ops.toList g o = some b) : Region.wanted o (yielded ops a.tmps) = b := by
  unfold guardOf at hg
  unfold Region.wanted
  cases hgd : o.guard with
  | none => simp [hgd] at hg; simp [hg]
  | some jw =>
    obtain ⟨j, want⟩ := jw
    simp only [hgd] at hg ⊢
    cases hp : ops.toList[j]? with
    | none => simp [hp] at hg
    | some p =>
      simp only [hp] at hg
      cases hd : p.dst with
      | none => simp [hd] at hg
      | some t =>
        simp only [hd] at hg
        have ht := h.tm t
        have hp' : ops[j]? = some p := by simpa using hp
        cases hgt : g t with
        | kb b' =>
          simp [hgt] at hg
          rw [hgt] at ht
          have hv := kb_inv ht
          have hs : a.tmps[t]? = some (.bool b') := by
            rw [Array.getD_eq_getD_getElem?] at hv
            cases hx : a.tmps[t]? with
            | none => simp [hx, undef] at hv
            | some x => simp [hx] at hv; rw [hv]
          simp only [yielded, hp', Option.bind_some, hd, hs]
          rw [← hg]
          cases b' <;> cases want <;> rfl
        | tup cs =>
          cases cs with
          | cons c cs => simp [hgt] at hg
          | nil =>
            simp [hgt] at hg
            rw [hgt] at ht
            have hv : ∃ vs, a.tmps.getD t undef = .tuple vs := by
              generalize a.tmps.getD t undef = v at ht
              cases ht with
              | tup vs h1 h2 => exact ⟨vs, rfl⟩
            obtain ⟨vs, hv⟩ := hv
            rw [Array.getD_eq_getD_getElem?] at hv
            simp only [yielded, hp', Option.bind_some, hd]
            cases hx : a.tmps[t]? with
            | none => rw [hg]; rfl
            | some x => simp [hx] at hv; rw [hv, hg]; rfl
        | _ => simp [hgt] at hg

theorem skip_VR {R : Nat → Prop} {ρ : Loc} {w : World} : VR R ρ w skipV undef := .tup #[] rfl fun i c hc => by simp at hc

/-- a step of the evaluator is a step of the region -/
theorem step_sim (hC : OrcOk C) {ops : Array Oper} {p : Item} {g' : EnvF} {mem' : Mem} {lg : Log} (h : SR rf R ρ g mem a w nt) (hi : ops[p.i]? = some p.o) (hs : stepF C nt ops.toList p g mem = some (g', mem', lg))
    (hsl : slotsOf p.o.op = 1 → p.slot < mem.length ∧ rf.base ≤ p.slot ∧ ρ p.slot = none) {Q : Exit → Act → World → Prop} {K : Act → World → Prop}
    (hK : ∀ R' ρ' a' w', SR rf R' ρ' g' mem' a' w' nt → (∀ b, b ≠ p.slot → ρ' b = ρ b) → (slotsOf p.o.op = 0 → ∀ b, ρ' b = ρ b) → K a' w') : wpOp C.P ops Q p.i K a w := by
  unfold stepF at hs
  cases hd : dstOk nt p.o with
  | false => simp [hd] at hs
  | true =>
    simp only [hd, Bool.not_true, cond_false] at hs
    cases hg : guardOf ops.toList g p.o with
    | none => simp [hg] at hs
    | some b =>
      have hw := guard_wanted h hg
      unfold wpOp
      simp only [hi]
      cases b with
      | false =>
        simp only [hg, Option.some.injEq, Prod.mk.injEq] at hs
        obtain ⟨rfl, rfl, rfl⟩ := hs
        rw [if_neg (by rw [hw]; simp)]
        exact hK R ρ _ _ (h.put (slot := 0) hd h.ms (.refl R ρ w 0) skip_VR) (fun _ _ => rfl) (fun _ _ => rfl)
      | true =>
        rw [if_pos hw]
        left
        simp only [hg] at hs
        cases hsim : simple C mem p.slot (evF g) p.o with
        | none => simp [hsim] at hs
        | some e =>
          simp only [hsim] at hs
          cases hc : e.conds.all id with
          | false => simp [hc] at hs
          | true =>
            simp only [hc, cond_true, Option.some.injEq, Prod.mk.injEq] at hs
            obtain ⟨rfl, rfl, rfl⟩ := hs
            have hc' : ∀ c ∈ e.conds, c = true := fun c hcm => by
              have := List.all_eq_true.1 hc c hcm
              simpa using this
            by_cases h1 : slotsOf p.o.op = 1
            · refine simple_sim hC h.ms h.ev hsim hc' hsl K Q (fun R' ρ' w' v' m1 m2 m4 m3 => ?_)
              exact hK R' ρ' _ _ (h.put hd m1 m2 (land_VR m3)) m2.ho (fun h0 => by omega)
            · -- no slot: take one that is none of ours
              refine simple_sim hC h.ms h.ev hsim hc' (fun h0 => absurd h0 h1) K Q (fun R' ρ' w' v' m1 m2 m4 m3 => ?_)
              refine hK R' ρ' _ _ (h.put hd m1 m2 (land_VR m3)) m2.ho (fun h0 b => by rw [m4 h0])

theorem slotsOf_le (o : Op) : slotsOf o = 0 ∨ slotsOf o = 1 := by
  unfold slotsOf
  split
  · exact .inr rfl
  · exact .inr rfl
  · exact .inr rfl
  · rename_i t len ps
    cases Nat.beq len 0
    · exact .inl rfl
    · exact .inr rfl
  · exact .inr rfl
  · exact .inl rfl

theorem tmpClash_comm (ops : List Oper) (x y : Oper) : tmpClash ops x y = tmpClash ops y x := by unfold tmpClash; exact Bool.or_comm _ _

theorem stepF_length {all : List Oper} {p : Item} {g g' : EnvF} {m m' : Mem} {lg : Log} (h : stepF C nt all p g m = some (g', m', lg)) : m'.length = m.length := by
  obtain ⟨_, u, _, rfl, _⟩ := stepF_env h
  exact applyU_length u m

def bit (all : List Oper) (i j : Nat) : Bool := ((aheads all []).getD i 0).testBit j

theorem getD_set (l : Array Bool) (i k : Nat) (x d : Bool) : (l.setIfInBounds i x).getD k d = if i = k ∧ k < l.size then x else l.getD k d := by
  rw [Array.getD_eq_getD_getElem?, Array.getD_eq_getD_getElem?, Array.getElem?_setIfInBounds]
  by_cases h : i = k
  · subst h
    by_cases h2 : i < l.size
    · simp [h2]
    · simp [h2]
  · simp [h]

theorem any_sound (hC : OrcOk C) {ops : Array Oper} {Q : Exit → Act → World → Prop}
    (hedge : ∀ i o, ops[i]? = some o → ∀ e ∈ o.after.toList, binding e = true → e.on < i)
    (hstat : ∀ i j o p, ops[i]? = some o → ops[j]? = some p → j < i → bit ops.toList i j = true ∨ tmpClash ops.toList o p = false) :
    ∀ (n : Nat) (l : List Item) (listed : Array Bool) (g : EnvF) (m : Mem) (R : Nat → Prop) (ρ : Loc) (a : Act) (w : World) (gz : EnvF) (mz : Mem) (ls : List Log), l.length = n → l.Pairwise (fun p q => p.i < q.i) →
      (∀ p ∈ l, ops[p.i]? = some p.o) → listed.size = ops.size → (∀ j, j < ops.size → (listed.getD j true = false ↔ ∃ p ∈ l, p.i = j)) →
      (∀ i, i < ops.size → listed.getD i true = true → ∀ j, bit ops.toList i j = true → listed.getD j true = true) →
      runF' C nt ops.toList l g m = some (gz, mz, ls) → (∀ x ∈ ls, ∀ y ∈ ls, x.i < y.i → bit ops.toList y.i x.i = true ∨ clash x y = false) →
      (∀ p ∈ l, slotsOf p.o.op = 1 → p.slot < m.length ∧ rf.base ≤ p.slot ∧ ρ p.slot = none) → (l.Pairwise fun p q => slotsOf p.o.op = 1 → slotsOf q.o.op = 1 → p.slot ≠ q.slot) →
      SR rf R ρ g m a w nt → (∀ R ρ a w, SR rf R ρ gz mz a w nt → Q .normal a w) → wpAny C.P .any ops Q n listed a w := by
  have hbits := aheads_spec ops.toList
  have ready_iff : ∀ (listed : Array Bool) (i : Nat), listed.size = ops.size → (i ∈ Region.ready .any ops listed ↔ i < ops.size ∧ listed.getD i true = false ∧ ∃ o, ops[i]? = some o ∧ ∀ e ∈ o.after.toList, binding e = true → listed.getD e.on false = true) := by
    intro listed i hsz
    unfold Region.ready
    simp only [List.mem_filter, List.mem_range, Bool.and_eq_true, Bool.not_eq_true']
    refine ⟨fun ⟨h1, h2, h3⟩ => ⟨h1, h2, ops[i], by simp [h1], fun e he hb => ?_⟩, fun ⟨h1, h2, o, h3, h4⟩ => ⟨h1, h2, ?_⟩⟩
    · simp only [Array.getElem?_eq_getElem h1, Option.map_some, Option.getD_some, Array.all_eq_true_iff_forall_mem] at h3
      have := h3 e (by simpa using he)
      unfold binding at hb
      simpa [hb] using this
    · simp only [h3, Option.map_some, Option.getD_some, Array.all_eq_true_iff_forall_mem]
      intro e he
      have := h4 e (by simpa using he)
      unfold binding at this
      cases hb : Region.binds .any e with
      | false => rfl
      | true => simpa using this hb
  intro n
  induction n with
  | zero =>
    intro l listed g m R ρ a w gz mz ls hl _ _ hsz hun _ hrun _ _ _ hsr hQ
    have : l = [] := List.eq_nil_of_length_eq_zero hl
    subst this
    simp [runF'] at hrun
    obtain ⟨rfl, rfl, _⟩ := hrun
    refine ⟨?_, hQ R ρ a w hsr⟩
    apply List.eq_nil_iff_forall_not_mem.2
    intro i hi
    obtain ⟨h1, h2, _⟩ := (ready_iff listed i hsz).1 hi
    obtain ⟨p, hp, _⟩ := (hun i h1).1 h2
    simp at hp
  | succ n ih =>
    intro l listed g m R ρ a w gz mz ls hl hsort hops hsz hun hdown hrun hlog hslots hdist hsr hQ
    refine ⟨fun hnil => ?_, fun i hi => ?_⟩
    · -- the first of those that are left is ready
      exfalso
      cases l with
      | nil => simp at hl
      | cons p l =>
        have hp := hops p List.mem_cons_self
        have hlt : p.i < ops.size := (Array.getElem?_eq_some_iff.1 hp).1
        have : p.i ∈ Region.ready .any ops listed := (ready_iff listed p.i hsz).2 ⟨hlt, (hun p.i hlt).2 ⟨p, List.mem_cons_self, rfl⟩, p.o, hp, fun e he hb => by
          have hon := hedge p.i p.o hp e he hb
          have hel : e.on < ops.size := by omega
          have hne : ¬ listed.getD e.on true = false := by
            intro hf
            obtain ⟨q, hq, hqi⟩ := (hun e.on hel).1 hf
            rcases List.mem_cons.1 hq with rfl | hq
            · omega
            · have := (List.pairwise_cons.1 hsort).1 q hq
              omega
          have hlt' : e.on < listed.size := by omega
          simp only [Array.getD, hlt', dif_pos] at hne ⊢
          simpa using hne⟩
        rw [hnil] at this
        simp at this
    · obtain ⟨h1, h2, o, h3, h4⟩ := (ready_iff listed i hsz).1 hi
      obtain ⟨p, hp, rfl⟩ := (hun i h1).1 h2
      have hpo := hops p hp
      rw [h3] at hpo
      cases hpo
      obtain ⟨l1, l2, rfl⟩ := List.append_of_mem hp
      have hs1 := List.pairwise_append.1 hsort
      have hs2 := List.pairwise_cons.1 hs1.2.1
      have unord : ∀ q ∈ l1, q.i < p.i ∧ bit ops.toList p.i q.i = false := by
        intro q hq
        refine ⟨hs1.2.2 q hq p List.mem_cons_self, ?_⟩
        cases hb : bit ops.toList p.i q.i with
        | false => rfl
        | true =>
          exfalso
          have hql : q.i < ops.size := by
            have := hops q (List.mem_append_left _ hq)
            exact (Array.getElem?_eq_some_iff.1 this).1
          have hqun : listed.getD q.i true = false := (hun q.i hql).2 ⟨q, List.mem_append_left _ hq, rfl⟩
          have conv : ∀ j, j < ops.size → listed.getD j false = true → listed.getD j true = true := fun j hj h => by
            have hj' : j < listed.size := by omega
            simp only [Array.getD, hj', dif_pos] at h ⊢
            exact h
          obtain ⟨e, he, hbd, hor⟩ := hbits.1 p.i p.o q.i (by simpa using h3) (by rw [hbits.2]; simpa using h1) hb
          have hon := hedge p.i p.o h3 e he hbd
          have hlis := conv e.on (by omega) (h4 e he hbd)
          rcases hor with heq | ⟨_, hor⟩
          · rw [← heq, hqun] at hlis; cases hlis
          · have := hdown e.on (by omega) hlis q.i hor
            rw [hqun] at this; cases this
      obtain ⟨g1, m1, lq, ls', k1, k2, k3, _⟩ := bubble p l1 l2 g m gz mz ls hrun (fun q hq => by
        obtain ⟨u1, u2⟩ := unord q hq
        rw [tmpClash_comm]
        rcases hstat p.i q.i p.o q.o h3 (hops q (List.mem_append_left _ hq)) u1 with hb | hb
        · rw [u2] at hb; cases hb
        · exact hb) (fun x hx y hy ⟨q, hq, hxq⟩ hyp => by
        obtain ⟨u1, u2⟩ := unord q hq
        rcases hlog x hx y hy (by omega) with hb | hb
        · rw [hyp, hxq, u2] at hb; cases hb
        · exact hb)
      have hd1 := List.pairwise_append.1 hdist
      have hd2 := List.pairwise_cons.1 hd1.2.1
      have hne : ∀ q ∈ l1 ++ l2, slotsOf p.o.op = 1 → slotsOf q.o.op = 1 → q.slot ≠ p.slot := by
        intro q hq e1 e2
        rcases List.mem_append.1 hq with hq | hq
        · exact hd1.2.2 q hq p List.mem_cons_self e2 e1
        · exact Ne.symm (hd2.1 q hq e1 e2)
      have hsub : ∀ q ∈ l1 ++ l2, q ∈ l1 ++ p :: l2 := fun q hq => by
        rcases List.mem_append.1 hq with hq | hq
        · exact List.mem_append_left _ hq
        · exact List.mem_append_right _ (List.mem_cons_of_mem _ hq)
      have hidx : ∀ q ∈ l1 ++ l2, q.i ≠ p.i := fun q hq => by
        rcases List.mem_append.1 hq with hq | hq
        · have := hs1.2.2 q hq p List.mem_cons_self; omega
        · have := hs2.1 q hq; omega
      refine step_sim hC hsr h3 k1 (hslots p hp) (fun R' ρ' a' w' hsr' hρ1 hρ0 => ?_)
      refine ih (l1 ++ l2) _ g1 m1 R' ρ' a' w' gz mz ls' ?_ ?_ (fun q hq => hops q (hsub q hq)) (by simp [hsz]) ?_ ?_ k2 (fun x hx y hy => hlog x (k3 x hx) y (k3 y hy)) ?_ ?_ hsr' hQ
      · simp at hl ⊢; omega
      · exact List.pairwise_append.2 ⟨hs1.1, hs2.2, fun q hq r hr => hs1.2.2 q hq r (List.mem_cons_of_mem _ hr)⟩
      · intro j hj
        have hj' : j < listed.size := by omega
        rw [getD_set]
        by_cases e : j = p.i
        · subst e
          rw [if_pos ⟨rfl, hj'⟩]
          refine ⟨fun h => absurd h (by simp), fun ⟨q, hq, hqi⟩ => absurd hqi (hidx q hq)⟩
        · rw [if_neg (fun h => e h.1.symm), hun j hj]
          refine ⟨fun ⟨q, hq, hqi⟩ => ⟨q, ?_, hqi⟩, fun ⟨q, hq, hqi⟩ => ⟨q, hsub q hq, hqi⟩⟩
          rcases List.mem_append.1 hq with hq | hq
          · exact List.mem_append_left _ hq
          · rcases List.mem_cons.1 hq with rfl | hq
            · exact absurd hqi.symm e
            · exact List.mem_append_right _ hq
      · intro i hi hlis j hb
        have key : ∀ k, (listed.setIfInBounds p.i true).getD k true = true ↔ (k = p.i ∨ listed.getD k true = true) := by
          intro k
          rw [getD_set]
          by_cases hk : k < listed.size
          · by_cases e : p.i = k
            · simp [e, hk]
            · simp [e, Ne.symm e]
          · simp [Array.getD, hk]
        rw [key] at hlis ⊢
        rcases hlis with rfl | hlis
        · right
          obtain ⟨e, he, hbd, hor⟩ := hbits.1 p.i p.o j (by simpa using h3) (by rw [hbits.2]; simpa using h1) hb
          have hon := hedge p.i p.o h3 e he hbd
          have hel : e.on < listed.size := by omega
          have hlis := h4 e he hbd
          simp only [Array.getD, hel, dif_pos] at hlis
          have hlis' : listed.getD e.on true = true := by simp only [Array.getD, hel, dif_pos]; exact hlis
          rcases hor with rfl | ⟨_, hor⟩
          · exact hlis'
          · exact hdown e.on (by omega) hlis' j hor
        · exact .inr (hdown i hi hlis j hb)
      · intro q hq e1
        obtain ⟨s1, s2, s3⟩ := hslots q (hsub q hq) e1
        refine ⟨by rw [stepF_length k1]; exact s1, s2, ?_⟩
        rcases slotsOf_le p.o.op with h0 | h0
        · rw [hρ0 h0]; exact s3
        · rw [hρ1 _ (hne q hq h0 e1)]; exact s3
      · exact List.pairwise_append.2 ⟨hd1.1, hd2.2, fun q hq r hr => hd1.2.2 q hq r (List.mem_cons_of_mem _ hr)⟩

end
end Go.Flat
end

section
/- What the evaluator says of a function's text, the model's machine does. Part 2: functions. -/
set_option linter.unusedSimpArgs false
set_option linter.unusedVariables false
namespace Go.Flat
open Go

section
variable {C : Ctx} {rf : Ref} {R : Nat → Prop} {ρ : Loc} {w : World} {mem : Mem} {a : Act} {g : EnvF} {nt : Nat}

theorem guards_holds {α : Type} {Q : α → Prop} : ∀ {cs : List Bool} {t : Tree α}, (guards cs t).holds Q → (∀ c ∈ cs, c = true) ∧ t.holds Q
  | [], t, h => ⟨fun c hc => by simp at hc, h⟩
  | c :: cs, t, h => by
    simp only [guards, Tree.holds] at h
    cases c with
    | false => exact (h.2 rfl).elim
    | true =>
      obtain ⟨h1, h2⟩ := guards_holds (h.1 rfl)
      exact ⟨fun c hc => by rcases List.mem_cons.1 hc with rfl | hc; · rfl
                            · exact h1 c hc, h2⟩

theorem landT_holds {α : Type} {Q : α → Prop} {tgt : Bool} {v : AV} {k : AV → Tree α} (h : (landT tgt v k).holds Q) : (k (land tgt v)).holds Q := by
  cases tgt with
  | false => exact h
  | true =>
    cases v with
    | lit u =>
      cases u with
      | bool b =>
        simp only [landT, Tree.holds] at h
        cases b with
        | true => exact h.1 rfl
        | false => exact h.2 rfl
      | _ => exact h
    | _ => exact h

theorem getSlot_append {mem : Mem} {n b : Nat} : getSlot (mem ++ List.replicate n none) b = getSlot mem b := by
  unfold getSlot
  by_cases h : b < mem.length
  · rw [List.getElem?_append_left h]
  · rw [List.getElem?_append_right (by omega), List.getElem?_replicate, List.getElem?_eq_none (show mem.length ≤ b by omega)]
    by_cases h2 : b - mem.length < n
    · rw [if_pos h2]
    · rw [if_neg h2]

theorem MS.extend (h : MS rf R ρ mem w) (n : Nat) : MS rf R ρ (mem ++ List.replicate n none) w where
  blk b s hs := h.blk b s (by rwa [getSlot_append] at hs)
  dom b x hb := by have := h.dom b x hb; simp; omega
  inj b b' x s s' h1 h2 := h.inj b b' x s s' (by rwa [getSlot_append] at h1) (by rwa [getSlot_append] at h2)
  lt := h.lt
  nold b x s h1 := h.nold b x s (by rwa [getSlot_append] at h1)
  oldk := h.oldk
  oldlt := h.oldlt
  nR b x s h1 := h.nR b x s (by rwa [getSlot_append] at h1)
  Rlt := h.Rlt
  R0 := h.R0
  Rn := h.Rn
  R0k := h.R0k
  ρ0 := h.ρ0
  szk := h.szk
  size := h.size
  base := by have := h.base; simp; omega

theorem getSlot_take {mem : Mem} {m b : Nat} {s : Slot} (h : getSlot (mem.take m) b = some s) : b < m ∧ getSlot mem b = some s := by
  unfold getSlot at h ⊢
  rw [List.getElem?_take] at h
  split at h
  · rename_i s' hs
    split at hs
    · rename_i hb; exact ⟨hb, by rw [hs]; exact h⟩
    · cases hs
  · cases h

theorem BR.cut {x m : Nat} {s : Slot} (h : BR R ρ w x s.blk) (hs : slotBelow m (some s) = true) : BR R (upTo m ρ) w x s.blk := by
  obtain ⟨blk, fr⟩ := s
  cases blk with
  | one cells =>
    obtain ⟨c, e, h1, h2, h3⟩ := h
    refine ⟨c, e, h1, h2, fun j q hj => ?_⟩
    obtain ⟨q1, u, q2, q3⟩ := h3 j q hj
    exact ⟨q1, u, q2, q3.cut1 (all_get hs hj)⟩
  | many et esz fl rows =>
    obtain ⟨c, h1, h2, h3, h4, h5⟩ := h
    refine ⟨c, h1, h2, h3, fun r row hr => ⟨(h4 r row hr).1, fun j q hj => ?_⟩, h5⟩
    obtain ⟨q1, u, q2, q3⟩ := (h4 r row hr).2 j q hj
    refine ⟨q1, u, q2, ?_⟩
    cases fl with
    | true => exact q3.anyLoc (all_get (h5 rfl r row hr) hj)
    | false =>
      refine q3.cut1 ?_
      simp only [slotBelow] at hs
      exact all_get (List.all_eq_true.1 hs row (List.mem_of_getElem? hr)) hj

theorem MS.cut (h : MS rf R ρ mem w) {m : Nat} (hb : rf.base ≤ m) (hm : m ≤ mem.length) (hs : (mem.take m).all (slotBelow m) = true) : MS rf R (upTo m ρ) (mem.take m) w := by
  have up : ∀ b, b < m → upTo m ρ b = ρ b := fun b hb => by simp [upTo, hb]
  have up' : ∀ b x, upTo m ρ b = some x → b < m ∧ ρ b = some x := fun b x h => by
    unfold upTo at h
    split at h
    · rename_i hb; exact ⟨hb, h⟩
    · cases h
  refine { blk := fun b s hbs => ?_, dom := fun b x hbx => ?_, inj := fun b b' x s s' h1 h2 h3 h4 => ?_, lt := fun b x hbx => h.lt b x (up' b x hbx).2, nold := fun b x s h1 h2 => h.nold b x s (getSlot_take h1).2 (up' b x h2).2, oldk := h.oldk, oldlt := h.oldlt,
           nR := fun b x s h1 h2 h3 => h.nR b x s (getSlot_take h1).2 h2 (up' b x h3).2, Rlt := h.Rlt, R0 := h.R0, Rn := h.Rn, R0k := h.R0k, ρ0 := fun b hbb => (up b (by omega)).trans (h.ρ0 b hbb), szk := h.szk, size := h.size, base := by simp; omega }
  · obtain ⟨h1, h2⟩ := getSlot_take hbs
    have hsb : slotBelow m (some s) = true := by
      refine List.all_eq_true.1 hs (some s) (List.mem_of_getElem? (i := b) ?_)
      rw [List.getElem?_take, if_pos h1]
      exact getSlot_some h2
    rcases h.blk b s h2 with ⟨x, h3, h4⟩ | ⟨h3, h4⟩
    · exact .inl ⟨x, (up b h1).trans h3, h4.cut hsb⟩
    · exact .inr ⟨(up b h1).trans h3, h4⟩
  · have := (up' b x hbx).1
    simp; omega
  · exact h.inj b b' x s s' (getSlot_take h1).2 (getSlot_take h2).2 (up' b x h3).2 (up' b' x h4).2

/-- what a call of the evaluator's own leaves -/
structure PostB (R : Nat → Prop) (ρ : Loc) (w : World) (R' : Nat → Prop) (ρ' : Loc) (w' : World) (n : Nat) : Prop where
  hR : ∀ x, R x → R' x
  hk : ∀ x, R x → w'.heap[x]? = w.heap[x]?
  hs : Sizes w w'
  hρ : ∀ b, b < n → ρ' b = ρ b

theorem SR.putB (h : SR rf R ρ g mem a w nt) {R' : Nat → Prop} {ρ' : Loc} {w' : World} {mem' : Mem} {o : Oper} {v : AV} {u : Value} (hd : dstOk nt o = true) (hm : MS rf R' ρ' mem' w') (hp : PostB R ρ w R' ρ' w' mem.length)
    (hv : VR R' ρ' w' v u) : SR rf R' ρ' (putF g o.dst v) mem' (a.put o.dst u) w' nt := by
  have hlt : ∀ d, o.dst = some d → d < a.tmps.size := fun d hd' => by
    unfold dstOk at hd
    rw [hd'] at hd
    simp at hd
    exact Nat.lt_of_lt_of_le hd h.sz
  refine ⟨hm, fun t => ?_, ?_, ?_⟩
  · rw [put_getD hlt]
    by_cases e : o.dst = some t
    · rw [if_pos e, e]; simp only [putF, if_true]; exact hv
    · rw [if_neg e, putF_other (fun d hd' e' => e (by rw [hd', e']))]
      exact (h.tm t).mono hp.hR hp.hk hp.hs (fun b x hb => by rw [hp.hρ b (h.ms.dom b x hb)]; exact hb)
  · cases hdst : o.dst <;> simp [Act.put, h.sz]
  · cases hdst : o.dst <;> simp [Act.put, h.df]

def InlOk {α : Type} (C : Ctx) (Q : α → Prop) (inl : FuncId → List AV → Mem → (AV → Mem → Tree α) → Tree α) : Prop :=
  ∀ (rf : Ref) (R : Nat → Prop) (ρ : Loc) (w : World) (mem : Mem) (g : FuncId) (args : List AV) (vs : Array Value) (k' : AV → Mem → Tree α), MS rf R ρ mem w → vs.size = args.length →
    (∀ (i : Nat) (x : AV), args[i]? = some x → VR R ρ w x (vs.getD i undef)) → (inl g args mem k').holds Q →
    Callable C.P g ∧ Calls C.P g vs w fun e w' => ∃ v av R' ρ' mem', e = .returned v ∧ MS rf R' ρ' mem' w' ∧ PostB R ρ w R' ρ' w' mem.length ∧ mem.length ≤ mem'.length ∧ VR R' ρ' w' av v ∧ (k' av mem').holds Q

/-- a contract of a call that writes to what it is handed -/
def MutOk (P : Program) (f : FuncId) (args : List AV) (mem : Mem) (r : AV) (mem' : Mem) : Prop :=
  ∀ (rf : Ref) (R : Nat → Prop) (ρ : Loc) (w : World) (vs : Array Value), MS rf R ρ mem w → vs.size = args.length → (∀ (i : Nat) (x : AV), args[i]? = some x → VR R ρ w x (vs.getD i undef)) →
    Calls P f vs w fun e w' => ∃ v R' ρ', e = .returned v ∧ MS rf R' ρ' mem' w' ∧ PostB R ρ w R' ρ' w' mem.length ∧ VR R' ρ' w' r v
def MutsOk (C : Ctx) : Prop := ∀ g args mem r mem' cs, C.wr g args mem = some (r, mem', cs) → (∀ c ∈ cs, c = true) → Callable C.P g ∧ MutOk C.P g args mem r mem' ∧ mem.length ≤ mem'.length

theorem conds_all {cs : List Bool} (h : ∀ c ∈ cs, c = true) : cs.all id = true := List.all_eq_true.2 fun c hc => h c hc

theorem opsR_sound (hC : OrcOk C) {α : Type} {Q : α → Prop} {fx : Fx} {inl : FuncId → List AV → Mem → (AV → Mem → Tree α) → Tree α} (hinl : InlOk C Q inl) {ops : Array Oper} {k : St → Tree α} {Q' : Exit → Act → World → Prop}
    (hQ : ∀ R ρ s a w, SR rf R ρ (look s.env) s.mem a w fx.nt → (k s).holds Q → Q' .normal a w) :
    ∀ (rest pre : List Oper) (i slot : Nat) (s : St) (log : List Log) (R : Nat → Prop) (ρ : Loc) (a : Act) (w : World), ops.toList = pre ++ rest → i = pre.length → SR rf R ρ (look s.env) s.mem a w fx.nt →
      slot + nSlots rest ≤ s.mem.length → rf.base ≤ slot → (∀ b, slot ≤ b → b < slot + nSlots rest → ρ b = none) → (opsR C fx inl ops.toList false rest i slot s log k).holds Q → wpOps C.P ops Q' (List.range' i rest.length) a w
  | [], pre, i, slot, s, log, R, ρ, a, w, ho, hi, hsr, _, _, _, h => by
    simp only [opsR, Bool.not_false, Bool.true_or, cond_true] at h
    exact hQ R ρ s a w hsr h
  | o :: rest, pre, i, slot, s, log, R, ρ, a, w, ho, hi, hsr, hsl, hbs, hfree, h => by
    have hget : ops[i]? = some o := by
      have : ops.toList[i]? = some o := by rw [ho, hi]; simp
      simpa using this
    have ho' : ops.toList = (pre ++ [o]) ++ rest := by rw [ho]; simp
    have hi' : i + 1 = (pre ++ [o]).length := by simp [hi]
    simp only [List.length_cons, List.range'_succ]
    rw [wpOps_cons]
    simp only [nSlots] at hsl hfree
    simp only [opsR] at h
    cases hd : dstOk fx.nt o with
    | false => simp [hd, Tree.holds] at h
    | true =>
      simp only [hd, Bool.not_true, cond_false] at h
      have go : ∀ (v : AV) (m' : Mem) (lg : Log) (log' : List Log), stepF C fx.nt ops.toList ⟨i, slot, o⟩ (look s.env) s.mem = some (putF (look s.env) o.dst v, m', lg) →
          (opsR C fx inl ops.toList false rest (i + 1) (slot + slotsOf o.op) ⟨putA s.env o.dst v, m'⟩ log' k).holds Q → wpOp C.P ops Q' i (wpOps C.P ops Q' (List.range' (i + 1) rest.length)) a w := by
        intro v m' lg log' hst hk
        refine step_sim hC hsr hget hst (fun h1 => by have h1' : slotsOf o.op = 1 := h1; exact ⟨by show slot < s.mem.length; omega, hbs, hfree slot (Nat.le_refl _) (by omega)⟩) (fun R' ρ' a' w' hsr' hρ1 hρ0 => ?_)
        refine opsR_sound hC hinl hQ rest (pre ++ [o]) (i + 1) (slot + slotsOf o.op) ⟨putA s.env o.dst v, m'⟩ log' R' ρ' a' w' ho' hi' (by simp only [look_putA]; exact hsr') ?_ (by omega) ?_ hk
        · have := stepF_length hst
          simp only
          rw [this]
          omega
        · intro b hb1 hb2
          rcases slotsOf_le o.op with h0 | h0
          · rw [hρ0 h0]; exact hfree b (by omega) (by omega)
          · rw [hρ1 b (by simp only; omega)]; exact hfree b (by omega) (by omega)
      cases hg : guardOf ops.toList (look s.env) o with
      | none => simp [hg, Tree.holds] at h
      | some bb =>
        cases bb with
        | false =>
          simp only [hg] at h
          exact go skipV s.mem ⟨i, [], []⟩ log (by simp [stepF, hd, hg]) h
        | true =>
          simp only [hg] at h
          cases hs : simple C s.mem slot (ev s.env) o with
          | some e =>
            simp only [hs] at h
            obtain ⟨hc, h1⟩ := guards_holds h
            have h2 := landT_holds h1
            exact go (land (isTarget ops.toList i) e.v) (applyU s.mem e.upd) ⟨i, e.reads, e.writes⟩ _ (by simp [stepF, hd, hg, hs, conds_all hc]) h2
          | none =>
            simp only [hs, cond_false] at h
            have hw := guard_wanted hsr hg
            unfold wpOp
            simp only [hget]
            rw [if_pos hw]
            left
            cases hop : o.op with
            | call cl =>
              obtain ⟨callee, args, argTypes⟩ := cl
              cases callee with
              | value gx =>
                simp only [hop] at h
                have hx := hsr.ev gx
                generalize hvx : a.eval gx = vx at hx
                have hz0 : slotsOf o.op = 0 := by rw [hop]; rfl
                cases hfx : ev s.env gx with
                | clo fid cap =>
                  simp only [hfx] at h
                  simp only [ev] at hfx
                  rw [hfx] at hx
                  cases hx with
                  | clo vs g1 g2 =>
                    obtain ⟨hcal, hcall⟩ := hinl rf R ρ w s.mem fid (args.toList.map (ev s.env) ++ cap) (args.map a.eval ++ vs) _ hsr.ms (by simp [g1]) (fun j x hj => by
                      rw [List.getElem?_append] at hj
                      simp only [List.length_map, Array.length_toList] at hj
                      split at hj
                      · rename_i hlt
                        simp only [List.getElem?_map, Option.map_eq_some_iff] at hj
                        obtain ⟨y, hy, rfl⟩ := hj
                        have hy' : args[j] = y := by simpa [hlt] using hy
                        rw [getD_some (u := a.eval y) (by rw [Array.getElem?_append_left (by simpa using hlt)]; simp [hlt, hy'])]
                        exact hsr.ev y
                      · rename_i hge
                        have hlt : j - args.size < vs.size := by rw [g1]; exact (List.getElem?_eq_some_iff.1 hj).1
                        have := g2 _ x hj
                        rw [getD_eq hlt] at this
                        rw [getD_some (u := vs[j - args.size]) (by rw [Array.getElem?_append_right (by simpa using hge)]; simp [hlt])]
                        exact this) h
                    unfold Oper.wp
                    have hr : (execOp a.eval o).run C.P w = .ok (.enter fid (args.map a.eval ++ vs)) w := by
                      simp [execOp, hop, resolve, hvx, Deferred.ofValue, invoke, callFunc_run hcal]
                    rw [hr]
                    simp only [Oper.upon]
                    refine hcall.mono fun en w' hw' => ?_
                    obtain ⟨v, av, R', ρ', mem', rfl, k1, k2, k3, k4, k5⟩ := hw'
                    have k6 := landT_holds k5
                    have hsr' := hsr.putB hd k1 k2 (land_VR (tgt := isTarget ops.toList i) k4)
                    refine opsR_sound hC hinl hQ rest (pre ++ [o]) (i + 1) slot ⟨putA s.env o.dst (land (isTarget ops.toList i) av), mem'⟩ log R' ρ' _ w' ho' hi' (by simp only [look_putA]; exact hsr') (by simp only; omega) hbs ?_ k6
                    intro b hb1 hb2
                    rw [k2.hρ b (by omega)]
                    exact hfree b hb1 (by omega)
                | _ => simp [hfx, Tree.holds] at h
              | _ => simp [hop, Tree.holds] at h
            | _ => simp [hop, Tree.holds] at h

/-! ### a region that draws -/

def itemsOf : List Oper → Nat → Nat → List Item
  | [], _, _ => []
  | o :: r, i, slot => ⟨i, slot, o⟩ :: itemsOf r (i + 1) (slot + slotsOf o.op)

theorem items_spec : ∀ (ops : List Oper) (i slot : Nat), (itemsOf ops i slot).length = ops.length ∧
    (∀ p ∈ itemsOf ops i slot, i ≤ p.i ∧ p.i < i + ops.length ∧ ops[p.i - i]? = some p.o ∧ slot ≤ p.slot ∧ p.slot + slotsOf p.o.op ≤ slot + nSlots ops) ∧
    (∀ j, i ≤ j → j < i + ops.length → ∃ p ∈ itemsOf ops i slot, p.i = j) ∧ (itemsOf ops i slot).Pairwise (fun p q => p.i < q.i ∧ p.slot + slotsOf p.o.op ≤ q.slot)
  | [], i, slot => ⟨rfl, fun p hp => by simp [itemsOf] at hp, fun j h1 h2 => by simp at h2; omega, List.Pairwise.nil⟩
  | o :: r, i, slot => by
    obtain ⟨h1, h2, h3, h4⟩ := items_spec r (i + 1) (slot + slotsOf o.op)
    refine ⟨by simp [itemsOf, h1], fun p hp => ?_, fun j j1 j2 => ?_, ?_⟩
    · simp only [itemsOf, List.mem_cons] at hp
      rcases hp with rfl | hp
      · simp [nSlots]
      · obtain ⟨k1, k2, k3, k4, k5⟩ := h2 p hp
        refine ⟨by omega, by simp; omega, ?_, by omega, by simp only [nSlots]; omega⟩
        rw [show p.i - i = (p.i - (i + 1)) + 1 by omega, List.getElem?_cons_succ]
        exact k3
    · by_cases e : j = i
      · exact ⟨_, by simp only [itemsOf]; exact List.mem_cons_self, e.symm⟩
      · obtain ⟨p, hp, hpi⟩ := h3 j (by omega) (by simp at j2; omega)
        exact ⟨p, by simp only [itemsOf]; exact List.mem_cons_of_mem _ hp, hpi⟩
    · simp only [itemsOf]
      refine List.pairwise_cons.2 ⟨fun q hq => ?_, h4⟩
      obtain ⟨k1, _, _, k4, _⟩ := h2 q hq
      exact ⟨by simp only; omega, k4⟩

theorem opsR_draw {α : Type} {Q : α → Prop} {fx : Fx} {inl : FuncId → List AV → Mem → (AV → Mem → Tree α) → Tree α} {all : List Oper} {k : St → Tree α} :
    ∀ (rest : List Oper) (i slot : Nat) (s : St) (log : List Log), (opsR C fx inl all true rest i slot s log k).holds Q →
      ∃ s' lgs ls, (k s').holds Q ∧ drawOk all lgs = true ∧ (∀ x ∈ log, x ∈ lgs) ∧ runF' C fx.nt all (itemsOf rest i slot) (look s.env) s.mem = some (look s'.env, s'.mem, ls) ∧ ∀ x ∈ ls, x ∈ lgs ∨ (x.reads = [] ∧ x.writes = [])
  | [], i, slot, s, log, h => by
    simp only [opsR, Bool.not_true, Bool.false_or] at h
    cases hd : drawOk all log with
    | false => simp [hd, Tree.holds] at h
    | true =>
      simp only [hd, cond_true] at h
      exact ⟨s, log, [], h, hd, fun x hx => hx, rfl, fun x hx => by simp at hx⟩
  | o :: rest, i, slot, s, log, h => by
    simp only [opsR] at h
    cases hd : dstOk fx.nt o with
    | false => simp [hd, Tree.holds] at h
    | true =>
      simp only [hd, Bool.not_true, cond_false] at h
      cases hg : guardOf all (look s.env) o with
      | none => simp [hg, Tree.holds] at h
      | some bb =>
        cases bb with
        | false =>
          simp only [hg] at h
          obtain ⟨s', lgs, ls, h1, h2, h3, h4, h5⟩ := opsR_draw rest _ _ _ _ h
          refine ⟨s', lgs, ⟨i, [], []⟩ :: ls, h1, h2, h3, ?_, fun x hx => ?_⟩
          · simp only [itemsOf, runF', stepF, hd, Bool.not_true, cond_false, hg]
            simp only [look_putA] at h4
            rw [h4]
          · rcases List.mem_cons.1 hx with rfl | hx
            · exact .inr ⟨rfl, rfl⟩
            · exact h5 x hx
        | true =>
          simp only [hg] at h
          cases hs : simple C s.mem slot (ev s.env) o with
          | none => simp [hs, Tree.holds] at h
          | some e =>
            simp only [hs] at h
            obtain ⟨hc, h1⟩ := guards_holds h
            have h2 := landT_holds h1
            obtain ⟨s', lgs, ls, h1, h2, h3, h4, h5⟩ := opsR_draw rest _ _ _ _ h2
            refine ⟨s', lgs, ⟨i, e.reads, e.writes⟩ :: ls, h1, h2, fun x hx => h3 x (List.mem_cons_of_mem _ hx), ?_, fun x hx => ?_⟩
            · simp only [itemsOf, runF', stepF, hd, Bool.not_true, cond_false, hg, hs, conds_all hc, cond_true]
              simp only [look_putA] at h4
              rw [h4]
            · rcases List.mem_cons.1 hx with rfl | hx
              · exact .inl (h3 _ List.mem_cons_self)
              · exact h5 x hx

theorem clash_nil {x y : Log} (h : (x.reads = [] ∧ x.writes = []) ∨ (y.reads = [] ∧ y.writes = [])) : clash x y = false := by
  have m1 : ∀ l : List Rng, meets [] l = false := fun l => rfl
  have m2 : ∀ l : List Rng, meets l [] = false := fun l => by induction l with
    | nil => rfl
    | cons a l ih => simp [meets]
  unfold clash
  rcases h with ⟨h1, h2⟩ | ⟨h1, h2⟩ <;> simp [h1, h2, m1, m2]

theorem drawOk_spec {all : List Oper} {lgs : List Log} (h : drawOk all lgs = true) :
    (∀ i o, all[i]? = some o → ∀ e ∈ o.after.toList, binding e = true → e.on < i) ∧
    (∀ i j o p, all[i]? = some o → all[j]? = some p → j < i → bit all i j = true ∨ tmpClash all o p = false) ∧
    (∀ x ∈ lgs, ∀ y ∈ lgs, x.i < y.i → bit all y.i x.i = true ∨ clash x y = false) := by
  have getO_eq : ∀ (l : List Nat) i, getO l i 0 = l.getD i 0 := fun l i => by
    unfold getO
    rw [List.getD_eq_getElem?_getD]
    cases l[i]? <;> rfl
  have blt_lt : ∀ {a b : Nat}, a < b → Nat.blt a b = true := fun h => by rw [Nat.blt_eq]; exact h
  unfold drawOk at h
  simp only [Bool.and_eq_true, List.all_eq_true] at h
  obtain ⟨⟨h1, h2⟩, h3⟩ := h
  refine ⟨fun i o hi e he hb => ?_, fun i j o p hi hj hji => ?_, fun x hx y hy hxy => ?_⟩
  · have := h1 (o, i) (List.mk_mem_zipIdx_iff_getElem?.2 hi) e he
    simp only [hb, Bool.not_true, Bool.false_or, Nat.blt_eq] at this
    exact this
  · have := h2 (o, i) (List.mk_mem_zipIdx_iff_getElem?.2 hi) (p, j) (List.mk_mem_zipIdx_iff_getElem?.2 hj)
    simp only [blt_lt hji, Bool.not_true, Bool.false_or, Bool.or_eq_true, Bool.not_eq_true', getO_eq] at this
    exact this
  · have := h3 y hy x hx
    simp only [blt_lt hxy, Bool.not_true, Bool.false_or, Bool.or_eq_true, Bool.not_eq_true', getO_eq] at this
    exact this

theorem draw_sound (hC : OrcOk C) (hM : C.P.follows .mixedOrders = true) {α : Type} {Q : α → Prop} {fx : Fx} {inl : FuncId → List AV → Mem → (AV → Mem → Tree α) → Tree α} {ops : Array Oper} {k : St → Tree α} {Q' : Exit → Act → World → Prop} {id : Nat}
    (hQ : ∀ R ρ s a w, SR rf R ρ (look s.env) s.mem a w fx.nt → (k s).holds Q → Q' .normal a w) {s : St} {m0 : Nat} (hsr : SR rf R ρ (look s.env) s.mem a w fx.nt)
    (hsl : m0 + nSlots ops.toList ≤ s.mem.length) (hbs : rf.base ≤ m0) (hfree : ∀ b, m0 ≤ b → ρ b = none)
    (h : (opsR C fx inl ops.toList true ops.toList 0 m0 s [] k).holds Q) : (Code.region id ops true).wp C.P Q' a w := by
  obtain ⟨s', lgs, ls, h1, h2, _, h4, h5⟩ := opsR_draw _ _ _ _ _ h
  obtain ⟨d1, d2, d3⟩ := drawOk_spec h2
  obtain ⟨i1, i2, i3, i4⟩ := items_spec ops.toList 0 m0
  refine wp_region_any hM ?_
  have hsr' : SR rf R ρ (look s.env) s.mem a { w with drawn := w.drawn + 1 } fx.nt := ⟨hsr.ms.heap rfl ⟨rfl, rfl⟩, fun t => (hsr.tm t).heap rfl ⟨rfl, rfl⟩, hsr.sz, hsr.df⟩
  refine any_sound hC (rf := rf) (nt := fx.nt) (fun i o hi => d1 i o (by simpa using hi)) (fun i j o p hi hj => d2 i j o p (by simpa using hi) (by simpa using hj)) ops.size (itemsOf ops.toList 0 m0) _ _ _ R ρ a _ _ _ ls (by rw [i1]; simp) (i4.imp (fun h => h.1)) (fun p hp => ?_) (by simp) (fun j hj => ?_) (fun i hi hlis => ?_) h4 (fun x hx y hy hxy => ?_) (fun p hp hp1 => ?_) (i4.imp (fun h e1 e2 => by omega)) hsr' (fun R ρ a w hs => hQ R ρ s' a w hs h1)
  · have := (i2 p hp).2.2.1
    simpa using this
  · refine ⟨fun _ => i3 j (Nat.zero_le _) (by simpa using hj), fun _ => by simp [Array.getD, hj]⟩
  · simp [Array.getD, hi] at hlis
  · rcases h5 x hx with h5x | h5x
    · rcases h5 y hy with h5y | h5y
      · exact d3 x h5x y h5y hxy
      · exact .inr (clash_nil (.inr h5y))
    · exact .inr (clash_nil (.inl h5x))
  · obtain ⟨_, _, _, k4, k5⟩ := i2 p hp
    exact ⟨by omega, by omega, hfree _ k4⟩

end
end Go.Flat
end

section
/- What is live at the head of a loop, its blocks numbered anew; nil slices that are one's own. -/
set_option linter.unusedSimpArgs false
set_option linter.unusedVariables false
namespace Go.Flat
open Go

section
variable {C : Ctx} {rf : Ref} {R : Nat → Prop} {ρ : Loc} {w : World} {mem : Mem} {a : Act} {g : EnvF} {nt : Nat}

theorem renL_leaf (σ : Nat → Nat) (a : AV) : (renL σ a).leaf = a.leaf := by cases a <;> rfl
theorem all_getL {α : Type} {p : α → Bool} {l : List α} (h : l.all p = true) {i : Nat} {c : α} (hc : l[i]? = some c) : p c = true :=
  List.all_eq_true.1 h c (List.mem_of_getElem? hc)

theorem okP_noLoc {p : Nat → Bool} {a : AV} (h : okP p a = true) (h1 : renL (fun b => b + 1) a = a) : noLoc a = true := by
  cases a <;> simp_all [okP, noLoc, renL]
  rename_i f cs
  cases cs <;> simp_all [okP, noLoc]

theorem VR.reP {p : Nat → Bool} {τ : Nat → Nat} {ρ' : Loc} {a : AV} {v : Value} (h : VR R ρ w a v) (hk : okP p a = true) (hρ : ∀ b x, p b = true → ρ b = some x → ρ' (τ b) = some x) : VR R ρ' w (renL τ a) v := by
  cases a with
  | ptr b e r o =>
    cases h with
    | ptr h => exact .ptr (hρ _ _ hk h)
  | lsl kn b et esz len =>
    cases h with
    | lsl0 => exact .lsl0
    | lsl h1 h2 h3 h4 h5 => exact .lsl (hρ _ _ hk h1) h2 h3 h4 h5
  | _ => exact VR.anyLoc h (okP_noLoc hk rfl)

theorem VR.reP1 {p : Nat → Bool} {τ : Nat → Nat} {ρ' : Loc} {a : AV} {v : Value} (h : VR R ρ w a v) (hk : okP1 p a = true) (hρ : ∀ b x, p b = true → ρ b = some x → ρ' (τ b) = some x) : VR R ρ' w (ren1 τ a) v := by
  cases a with
  | agg cs =>
    cases h with
    | agg vs h1 h2 h3 =>
      refine .agg vs (by simpa using h1) (fun i c hc => ?_) (fun i c hc => ?_)
      · rw [List.getElem?_map] at hc
        simp only [Option.map_eq_some_iff] at hc
        obtain ⟨c0, hc0, rfl⟩ := hc
        rw [renL_leaf]; exact h2 i c0 hc0
      · rw [List.getElem?_map] at hc
        simp only [Option.map_eq_some_iff] at hc
        obtain ⟨c0, hc0, rfl⟩ := hc
        exact (h3 i c0 hc0).reP (all_getL hk hc0) hρ
  | clo f cs =>
    cases h with
    | clo vs h1 h2 =>
      refine .clo vs (by simpa using h1) (fun i c hc => ?_)
      rw [List.getElem?_map] at hc
      simp only [Option.map_eq_some_iff] at hc
      obtain ⟨c0, hc0, rfl⟩ := hc
      exact (h2 i c0 hc0).reP (all_getL hk hc0) hρ
  | iface t v =>
    cases h with
    | iface h1 h2 => exact .iface (by rw [renL_leaf]; exact h1) (h2.reP hk hρ)
  | tup vs => simp [okP1, okP] at hk
  | _ => exact h.reP hk hρ

theorem BR.reP {p : Nat → Bool} {τ : Nat → Nat} {ρ' : Loc} {s : Slot} {x : Nat} (h : BR R ρ w x s.blk) (hk : slotP p (some s) = true) (hρ : ∀ b x, p b = true → ρ b = some x → ρ' (τ b) = some x) : BR R ρ' w x (renBlk τ s.blk) := by
  obtain ⟨b, fr⟩ := s
  cases b with
  | one cs =>
    obtain ⟨c, e, h1, h2, h3⟩ := h
    refine ⟨c, e, h1, by simpa using h2, fun j a ha => ?_⟩
    rw [List.getElem?_map] at ha
    simp only [Option.map_eq_some_iff] at ha
    obtain ⟨a0, ha0, rfl⟩ := ha
    obtain ⟨k1, v, k2, k3⟩ := h3 j a0 ha0
    exact ⟨by rw [renL_leaf]; exact k1, v, k2, k3.reP (all_getL hk ha0) hρ⟩
  | many et esz fl rows =>
    cases fl with
    | true =>
      obtain ⟨c, h1, h2, h3, h4, h5⟩ := h
      refine ⟨c, h1, h2, h3, fun r row hr => ⟨(h4 r row hr).1, fun j a ha => ?_⟩, h5⟩
      obtain ⟨k1, v, k2, k3⟩ := (h4 r row hr).2 j a ha
      exact ⟨k1, v, k2, k3.anyLoc (all_getL (h5 rfl r row hr) ha)⟩
    | false =>
      obtain ⟨c, h1, h2, h3, h4, h5⟩ := h
      refine ⟨c, h1, h2, by simpa using h3, fun r row hr => ?_, fun h => by cases h⟩
      rw [List.getElem?_map] at hr
      simp only [Option.map_eq_some_iff] at hr
      obtain ⟨row0, hr0, rfl⟩ := hr
      obtain ⟨j1, j2⟩ := h4 r row0 hr0
      refine ⟨by simpa using j1, fun j a ha => ?_⟩
      rw [List.getElem?_map] at ha
      simp only [Option.map_eq_some_iff] at ha
      obtain ⟨a0, ha0, rfl⟩ := ha
      obtain ⟨k1, v, k2, k3⟩ := j2 j a0 ha0
      exact ⟨by rw [renL_leaf]; exact k1, v, k2, k3.reP (all_getL (all_getL hk hr0) ha0) hρ⟩

theorem renBlk_empty {σ : Nat → Nat} {b : Blk} : emptyMany (renBlk σ b) ↔ emptyMany b := by
  cases b with
  | one cs => exact Iff.rfl
  | many et esz fl rows => cases fl <;> simp [renBlk, emptyMany]

theorem look_live {live : List Nat} {f : Nat → AV} (t : Nat) : look (live.map fun x => (x, f x)) t = .undef ∨ (t ∈ live ∧ look (live.map fun x => (x, f x)) t = f t) := by
  induction live with
  | nil => exact .inl rfl
  | cons x l ih =>
    simp only [List.map_cons, look]
    cases hb : Nat.beq x t with
    | true => simp only [cond_true]; rw [Nat.eq_of_beq_eq_true hb]; exact .inr ⟨List.mem_cons_self, rfl⟩
    | false =>
      simp only [cond_false]
      rcases ih with h | ⟨h1, h2⟩
      · exact .inl h
      · exact .inr ⟨List.mem_cons_of_mem _ h1, h2⟩

theorem nodupB_inj : ∀ {l : List Nat}, nodupB l = true → ∀ {i j b : Nat}, l[i]? = some b → l[j]? = some b → i = j
  | [], _, i, j, b, h, _ => by simp at h
  | c :: l, hn, i, j, b, hi, hj => by
    simp only [nodupB, Bool.and_eq_true, Bool.not_eq_true'] at hn
    have hnot : ∀ k, l[k]? = some c → False := fun k hk => by
      have : l.any (Nat.beq c) = true := List.any_eq_true.2 ⟨c, List.mem_of_getElem? hk, Nat.beq_refl c⟩
      rw [hn.1] at this; cases this
    cases i with
    | zero =>
      cases j with
      | zero => rfl
      | succ j => simp at hi hj; subst hi; exact (hnot j hj).elim
    | succ i =>
      cases j with
      | zero => simp at hi hj; subst hj; exact (hnot i hi).elim
      | succ j => simp at hi hj; exact congrArg _ (nodupB_inj hn.2 hi hj)
theorem idxOf_get {b : Nat} : ∀ {l : List Nat}, l.any (Nat.beq b) = true → l[idxOf b l]? = some b
  | [], h => by simp at h
  | c :: l, h => by
    unfold idxOf
    cases hq : Nat.beq c b with
    | true => simp only [cond_true]; rw [Nat.eq_of_beq_eq_true hq]; rfl
    | false =>
      simp only [cond_false]
      have : l.any (Nat.beq b) = true := by
        simp only [List.any_cons, Bool.or_eq_true] at h
        rcases h with h | h
        · have := Nat.eq_of_beq_eq_true h; subst this; simp at hq
        · exact h
      simpa using idxOf_get this

def locC (base : Nat) (bl : List Nat) (ρ : Loc) : Loc := fun i => if i < base then ρ i else match bl[i - base]? with | some b => ρ b | none => none
theorem locC_lt {base : Nat} {bl : List Nat} {i : Nat} (h : i < base) : locC base bl ρ i = ρ i := by simp [locC, h]
theorem locC_ge {base : Nat} {bl : List Nat} {i b : Nat} (h : base ≤ i) (hb : bl[i - base]? = some b) : locC base bl ρ i = ρ b := by
  have : ¬ i < base := by omega
  simp [locC, this, hb]
theorem gcC_SR {live : List Nat} {s s' : St} (h : SR rf R ρ (look s.env) s.mem a w nt) (hg : gcC live rf.base s = some s') : ∃ ρ', SR rf R ρ' (look s'.env) s'.mem a w nt := by
  unfold gcC at hg
  simp only at hg
  generalize hbl : reach s.mem rf.base (live.map fun t => (t, look s.env t)) = bl at hg
  cases hq : ((live.map fun t => (t, look s.env t)).all (fun x => okP1 (okLoc rf.base bl) x.2) && (bl.all (fun b => slotP (okLoc rf.base bl) (getSlot s.mem b)) && ((s.mem.take rf.base).all (slotBelow rf.base) && (nodupB bl && bl.all (fun b => Nat.ble rf.base b))))) with
  | false => rw [hq] at hg; cases hg
  | true =>
    simp only [hq, cond_true, Option.some.injEq] at hg
    subst hg
    simp only [Bool.and_eq_true] at hq
    obtain ⟨q1, q2, q3, q4, q5⟩ := hq
    have hbase := h.ms.base
    have hge : ∀ {i b : Nat}, bl[i]? = some b → rf.base ≤ b := fun hb => Nat.le_of_ble_eq_true (all_getL q5 hb)
    have hρ : ∀ b x, okLoc rf.base bl b = true → ρ b = some x → locC rf.base bl ρ (tau rf.base bl b) = some x := fun b x hb hx => by
      unfold okLoc at hb
      unfold tau
      cases hlt : Nat.blt b rf.base with
      | true =>
        have : b < rf.base := by simpa using hlt
        simp only [cond_true]; rw [locC_lt this]; exact hx
      | false =>
        rw [hlt, Bool.false_or] at hb
        simp only [cond_false]
        rw [locC_ge (b := b) (by omega) (by rw [show rf.base + idxOf b bl - rf.base = idxOf b bl by omega]; exact idxOf_get hb)]
        exact hx
    have hslot : ∀ i s1, getSlot (s.mem.take rf.base ++ bl.map fun b => (getSlot s.mem b).map (renSlot (tau rf.base bl))) i = some s1 →
        (i < rf.base ∧ getSlot s.mem i = some s1) ∨ (rf.base ≤ i ∧ ∃ b s0, bl[i - rf.base]? = some b ∧ getSlot s.mem b = some s0 ∧ s1 = renSlot (tau rf.base bl) s0) := fun i s1 hs => by
      have hlen : (s.mem.take rf.base).length = rf.base := by simp; omega
      have hs := getSlot_some hs
      by_cases hi : i < rf.base
      · rw [List.getElem?_append_left (by omega), List.getElem?_take, if_pos hi] at hs
        refine .inl ⟨hi, ?_⟩
        unfold getSlot; rw [hs]
      · rw [List.getElem?_append_right (by omega), hlen, List.getElem?_map] at hs
        cases hb : bl[i - rf.base]? with
        | none => simp [hb] at hs
        | some b =>
          rw [hb, Option.map_some] at hs
          cases hs0 : getSlot s.mem b with
          | none => rw [hs0] at hs; cases hs
          | some s0 =>
            rw [hs0] at hs
            exact .inr ⟨by omega, b, s0, rfl, hs0, by cases hs; rfl⟩
    have hdom : ∀ i x, locC rf.base bl ρ i = some x → (i < rf.base ∧ ρ i = some x) ∨ (rf.base ≤ i ∧ ∃ b, bl[i - rf.base]? = some b ∧ ρ b = some x) := fun i x hx => by
      by_cases hi : i < rf.base
      · rw [locC_lt hi] at hx; exact .inl ⟨hi, hx⟩
      · cases hb : bl[i - rf.base]? with
        | none => simp [locC, hi, hb] at hx
        | some b => rw [locC_ge (by omega) hb] at hx; exact .inr ⟨by omega, b, rfl, hx⟩
    -- what stands behind a new name
    have pre : ∀ i s1 x, getSlot (s.mem.take rf.base ++ bl.map fun b => (getSlot s.mem b).map (renSlot (tau rf.base bl))) i = some s1 → locC rf.base bl ρ i = some x →
        ∃ b s0, getSlot s.mem b = some s0 ∧ ρ b = some x ∧ s0.frozen = s1.frozen ∧ ((i < rf.base ∧ b = i) ∨ (rf.base ≤ i ∧ bl[i - rf.base]? = some b)) := fun i s1 x hs hx => by
      rcases hslot i s1 hs with ⟨h1, h2⟩ | ⟨h1, b, s0, h2, h3, h4⟩
      · rcases hdom i x hx with ⟨_, h6⟩ | ⟨h6, _⟩
        · exact ⟨i, s1, h2, h6, rfl, .inl ⟨h1, rfl⟩⟩
        · omega
      · rcases hdom i x hx with ⟨h6, _⟩ | ⟨_, b', h6, h7⟩
        · omega
        · rw [h2] at h6; cases h6
          exact ⟨b, s0, h3, h7, by rw [h4]; rfl, .inr ⟨h1, h2⟩⟩
    refine ⟨locC rf.base bl ρ, ⟨?_, fun t => ?_, h.sz, h.df⟩⟩
    · exact
        { blk := fun i s1 hs => by
            rcases hslot i s1 hs with ⟨h1, h2⟩ | ⟨h1, b, s0, h2, h3, h4⟩
            · have hb : slotBelow rf.base (some s1) = true := by
                refine List.all_eq_true.1 q3 (some s1) (List.mem_of_getElem? (i := i) ?_)
                rw [List.getElem?_take, if_pos h1]
                exact getSlot_some h2
              rcases h.ms.blk i s1 h2 with ⟨x, k1, k2⟩ | ⟨k1, k2⟩
              · refine .inl ⟨x, by rw [locC_lt h1]; exact k1, (k2.cut hb).mono rfl (fun _ h => h) (fun _ _ => rfl) (.refl w) (fun b y hby => ?_)⟩
                unfold upTo at hby
                split at hby
                · rename_i hlt; rw [locC_lt hlt]; exact hby
                · cases hby
              · exact .inr ⟨by rw [locC_lt h1]; exact k1, k2⟩
            · subst h4
              have hsp : slotP (okLoc rf.base bl) (some s0) = true := by
                have := all_getL q2 h2
                rw [h3] at this; exact this
              rcases h.ms.blk b s0 h3 with ⟨x, k1, k2⟩ | ⟨k1, k2⟩
              · exact .inl ⟨x, by rw [locC_ge h1 h2]; exact k1, k2.reP hsp hρ⟩
              · exact .inr ⟨by rw [locC_ge h1 h2]; exact k1, renBlk_empty.2 k2⟩
          dom := fun i x hx => by
            have hlen : (s.mem.take rf.base).length = rf.base := by simp; omega
            rw [List.length_append, hlen, List.length_map]
            rcases hdom i x hx with ⟨h1, _⟩ | ⟨h1, b, h2, _⟩
            · omega
            · have := (List.getElem?_eq_some_iff.1 h2).1; omega
          inj := fun i j x s1 s2 hs1 hs2 h1 h2 => by
            obtain ⟨b, s0, c1, c2, _, c3⟩ := pre i s1 x hs1 h1
            obtain ⟨b', s0', d1, d2, _, d3⟩ := pre j s2 x hs2 h2
            have e := h.ms.inj b b' x s0 s0' c1 d1 c2 d2
            subst e
            rcases c3 with ⟨c3, c4⟩ | ⟨c3, c4⟩ <;> rcases d3 with ⟨d3, d4⟩ | ⟨d3, d4⟩
            · omega
            · have := hge d4; omega
            · have := hge c4; omega
            · have := nodupB_inj q4 c4 d4; omega
          lt := fun i x hx => by
            rcases hdom i x hx with ⟨_, h1⟩ | ⟨_, b, _, h1⟩
            · exact h.ms.lt _ x h1
            · exact h.ms.lt _ x h1
          nold := fun i x s1 hs hx => by
            obtain ⟨b, s0, c1, c2, _, _⟩ := pre i s1 x hs hx
            exact h.ms.nold b x s0 c1 c2
          oldk := h.ms.oldk
          oldlt := h.ms.oldlt
          nR := fun i x s1 hs hf hx => by
            obtain ⟨b, s0, c1, c2, c3, _⟩ := pre i s1 x hs hx
            exact h.ms.nR b x s0 c1 (by rw [c3]; exact hf) c2
          Rlt := h.ms.Rlt
          R0 := h.ms.R0
          Rn := h.ms.Rn
          R0k := h.ms.R0k
          ρ0 := fun b hb => by rw [locC_lt hb]; exact h.ms.ρ0 b hb
          szk := h.ms.szk
          size := h.ms.size
          base := by simp; omega }
    · simp only [List.map_map]
      rcases look_live (live := live) (f := fun t => ren1 (tau rf.base bl) (look s.env t)) t with e | ⟨e1, e2⟩
      · have e' : look (List.map ((fun x => (x.1, ren1 (tau rf.base bl) x.2)) ∘ fun t => (t, look s.env t)) live) t = .undef := e
        rw [e']; exact .undef
      · have e' : look (List.map ((fun x => (x.1, ren1 (tau rf.base bl) x.2)) ∘ fun t => (t, look s.env t)) live) t = ren1 (tau rf.base bl) (look s.env t) := e2
        rw [e']
        refine (h.tm t).reP1 ?_ hρ
        have := List.all_eq_true.1 q1 (t, look s.env t) (List.mem_map.2 ⟨t, e1, rfl⟩)
        exact this

theorem look_nil (env : Env) (u m et esz t : Nat) : look (env.map fun y => bif Nat.beq y.1 u then (y.1, nilTo m et esz y.2) else y) t = look env t ∨
    (look env t = .nsl ∧ look (env.map fun y => bif Nat.beq y.1 u then (y.1, nilTo m et esz y.2) else y) t = .lsl false m et esz 0) := by
  induction env with
  | nil => exact .inl rfl
  | cons x l ih =>
    obtain ⟨k, v⟩ := x
    simp only [List.map_cons]
    cases hb : Nat.beq k t with
    | true =>
      cases hu : Nat.beq k u with
      | false => simp only [cond_false, look, hb, cond_true]; exact .inl trivial
      | true =>
        simp only [cond_true, look, hb]
        cases v <;> first | exact .inl rfl | exact .inr ⟨rfl, rfl⟩
    | false =>
      cases hu : Nat.beq k u with
      | false => simp only [cond_false, look, hb]; exact ih
      | true =>
        simp only [cond_true, look, hb, cond_false]
        exact ih

theorem nil_SR {s : St} {x : Nat × Nat × Nat} (h : SR rf R ρ (look s.env) s.mem a w nt) : SR rf R ρ (look (nilAt s x).env) (nilAt s x).mem a w nt := by
  unfold nilAt
  cases hz : Nat.beq x.2.2 0 with
  | true => simp only [cond_true]; exact h
  | false =>
    simp only [cond_false]
    have hnone : ρ s.mem.length = none := by
      cases hx : ρ s.mem.length with
      | none => rfl
      | some y => exact absurd (h.ms.dom _ y hx) (Nat.lt_irrefl _)
    have hs : ∀ b s1, getSlot (s.mem ++ [some ⟨.many x.2.1 x.2.2 true [], false⟩]) b = some s1 → getSlot s.mem b = some s1 ∨ (b = s.mem.length ∧ s1 = ⟨.many x.2.1 x.2.2 true [], false⟩) := fun b s1 hs1 => by
      unfold getSlot at hs1 ⊢
      by_cases hb : b < s.mem.length
      · rw [List.getElem?_append_left hb] at hs1; exact .inl hs1
      · rw [List.getElem?_append_right (by omega)] at hs1
        by_cases hb2 : b = s.mem.length
        · subst hb2; simp at hs1; exact .inr ⟨rfl, hs1.symm⟩
        · rw [List.getElem?_eq_none (by simp; omega)] at hs1; cases hs1
    have hs2 : ∀ b s1 y, getSlot (s.mem ++ [some ⟨.many x.2.1 x.2.2 true [], false⟩]) b = some s1 → ρ b = some y → getSlot s.mem b = some s1 := fun b s1 y h1 h2 => by
      rcases hs b s1 h1 with h3 | ⟨rfl, _⟩
      · exact h3
      · rw [hnone] at h2; cases h2
    refine ⟨?_, fun t => ?_, h.sz, h.df⟩
    · exact
        { blk := fun b s1 h1 => by
            rcases hs b s1 h1 with h3 | ⟨rfl, rfl⟩
            · exact h.ms.blk b s1 h3
            · exact .inr ⟨hnone, rfl⟩
          dom := fun b y hy => by have := h.ms.dom b y hy; simp; omega
          inj := fun b b' y s1 s2 h1 h2 h3 h4 => h.ms.inj b b' y s1 s2 (hs2 b s1 y h1 h3) (hs2 b' s2 y h2 h4) h3 h4
          lt := h.ms.lt
          nold := fun b y s1 h1 h3 => h.ms.nold b y s1 (hs2 b s1 y h1 h3) h3
          oldk := h.ms.oldk
          oldlt := h.ms.oldlt
          nR := fun b y s1 h1 hf h3 => h.ms.nR b y s1 (hs2 b s1 y h1 h3) hf h3
          Rlt := h.ms.Rlt
          R0 := h.ms.R0
          Rn := h.ms.Rn
          R0k := h.ms.R0k
          ρ0 := h.ms.ρ0
          szk := h.ms.szk
          size := h.ms.size
          base := by have := h.ms.base; simp; omega }
    · rcases look_nil s.env x.1 s.mem.length x.2.1 x.2.2 t with e | ⟨e1, e2⟩
      · rw [e]; exact h.tm t
      · rw [e2]
        have := h.tm t
        rw [e1] at this
        generalize a.tmps.getD t undef = v at this
        cases this
        exact .lsl0

theorem nils_SR : ∀ {l : List (Nat × Nat × Nat)} {s : St}, SR rf R ρ (look s.env) s.mem a w nt → SR rf R ρ (look (l.foldl stepNil s).env) (l.foldl stepNil s).mem a w nt
  | [], s, h => h
  | x :: l, s, h => by
    rw [List.foldl_cons]
    refine nils_SR ?_
    unfold stepNil
    cases isNil (look s.env x.1) with
    | true => exact nil_SR h
    | false => exact h

end
end Go.Flat
end
