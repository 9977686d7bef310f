/- What is proved in the end: SolverBinds returns true whatever the input, and its input reads as it did; no condition.
This text: FlatSound, FlatExec, FlatGc, FlatRun, FlatKit, FlatKit2. -/
import Derived.Test.YtldnfpgemlgbmaaGreatM3

section
/- What the evaluator says of a function's text, the model's machine does. Part 1: regions. -/
set_option linter.unusedSimpArgs false
set_option linter.unusedVariables false
namespace Go.Flat
open Go

structure SR (rf : Ref) (R : Nat → Prop) (ρ : Loc) (g : EnvF) (mem : Mem) (a : Act) (w : World) (nt : Nat) : Prop where
  ms : MS rf R ρ mem w
  tm : ∀ t, VR R ρ w (g t) (a.tmps.getD t undef)
  sz : nt ≤ a.tmps.size
  df : a.defers = []

section
variable {C : Ctx} {rf : Ref} {R : Nat → Prop} {ρ : Loc} {w : World} {mem : Mem} {a : Act} {g : EnvF} {nt : Nat}

theorem VR.constA (v : Value) : VR R ρ w (constA v) v := by
  unfold Flat.constA
  cases h : (Flat.ofConst v).cells.all AV.leaf with
  | false => exact .undef
  | true =>
    rcases VR.ofConst (R := R) (ρ := ρ) (w := w) v with h1 | h1
    · exact h1
    · exact absurd h h1

theorem SR.ev (h : SR rf R ρ g mem a w nt) (x : Operand) : VR R ρ w (evF g x) (a.eval x) := by
  cases x with
  | tmp t => exact h.tm t
  | const v => exact .constA v
  | func f => exact .clo #[] rfl (fun i c hc => by simp at hc)
  | global f => exact .undef

theorem put_getD {dst : Option Nat} {v : Value} (hd : ∀ d, dst = some d → d < a.tmps.size) (t : Nat) : (a.put dst v).tmps.getD t undef = if dst = some t then v else a.tmps.getD t undef := by
  cases dst with
  | none => simp [Act.put]
  | some d =>
    have := hd d rfl
    simp only [Act.put, Array.getD_eq_getD_getElem?, Array.getElem?_setIfInBounds, Option.some.injEq]
    by_cases h : d = t
    · subst h; simp [this]
    · simp [h]

theorem SR.put (h : SR rf R ρ g mem a w nt) {R' : Nat → Prop} {ρ' : Loc} {w' : World} {mem' : Mem} {slot n : Nat} {o : Oper} {v : AV} {u : Value} (hd : dstOk nt o = true) (hm : MS rf R' ρ' mem' w') (hp : Post R ρ w R' ρ' w' slot n)
    (hv : VR R' ρ' w' v u) : SR rf R' ρ' (putF g o.dst v) mem' (a.put o.dst u) w' nt := by
  have hlt : ∀ d, o.dst = some d → d < a.tmps.size := fun d hd' => by
    unfold dstOk at hd
    rw [hd'] at hd
    simp at hd
    exact Nat.lt_of_lt_of_le hd h.sz
  refine ⟨hm, fun t => ?_, ?_, ?_⟩
  · rw [put_getD hlt]
    by_cases e : o.dst = some t
    · rw [if_pos e, e]; simp only [putF, if_true]; exact hv
    · rw [if_neg e, putF_other (fun d hd' e' => e (by rw [hd', e']))]
      exact (h.tm t).mono hp.hR hp.hk hp.hs hp.hρ
  · cases hdst : o.dst <;> simp [Act.put, h.sz]
  · cases hdst : o.dst <;> simp [Act.put, h.df]

theorem land_VR {tgt : Bool} {v : AV} {u : Value} (h : VR R ρ w v u) : VR R ρ w (land tgt v) u := by
  cases tgt with
  | false => exact h
  | true =>
    cases h with
    | lit hl =>
      cases u <;> first | exact .lit hl | exact .kb
    | kb => exact .kb
    | ki h => exact .ki h
    | nsl => exact .nsl
    | vsl0 => exact .vsl0
    | vsl v h1 h2 h3 h4 h5 h6 h7 => exact .vsl v h1 h2 h3 h4 h5 h6 h7
    | vptr v h1 h2 h3 h4 => exact .vptr v h1 h2 h3 h4
    | ptr h => exact .ptr h
    | lsl0 => exact .lsl0
    | lsl h1 h2 h3 h4 h5 => exact .lsl h1 h2 h3 h4 h5
    | clo v h1 h2 => exact .clo v h1 h2
    | iface h1 h2 => exact .iface h1 h2
    | agg v h1 h2 h3 => exact .agg v h1 h2 h3
    | tup v h1 h2 => exact .tup v h1 h2
    | undef => exact .undef

theorem guard_wanted {ops : Array Oper} {o : Oper} {b : Bool} (h : SR rf R ρ g mem a w nt) (hg : guardOf ops.toList g o = some b) : Region.wanted o (yielded ops a.tmps) = b := by
  unfold guardOf at hg
  unfold Region.wanted
  cases hgd : o.guard with
  | none => simp [hgd] at hg; simp [hg]
  | some jw =>
    obtain ⟨j, want⟩ := jw
    simp only [hgd] at hg ⊢
    cases hp : ops.toList[j]? with
    | none => simp [hp] at hg
    | some p =>
      simp only [hp] at hg
      cases hd : p.dst with
      | none => simp [hd] at hg
      | some t =>
        simp only [hd] at hg
        have ht := h.tm t
        have hp' : ops[j]? = some p := by simpa using hp
        cases hgt : g t with
        | kb b' =>
          simp [hgt] at hg
          rw [hgt] at ht
          have hv := kb_inv ht
          have hs : a.tmps[t]? = some (.bool b') := by
            rw [Array.getD_eq_getD_getElem?] at hv
            cases hx : a.tmps[t]? with
            | none => simp [hx, undef] at hv
            | some x => simp [hx] at hv; rw [hv]
          simp only [yielded, hp', Option.bind_some, hd, hs]
          rw [← hg]
          cases b' <;> cases want <;> rfl
        | tup cs =>
          cases cs with
          | cons c cs => simp [hgt] at hg
          | nil =>
            simp [hgt] at hg
            rw [hgt] at ht
            have hv : ∃ vs, a.tmps.getD t undef = .tuple vs := by
              generalize a.tmps.getD t undef = v at ht
              cases ht with
              | tup vs h1 h2 => exact ⟨vs, rfl⟩
            obtain ⟨vs, hv⟩ := hv
            rw [Array.getD_eq_getD_getElem?] at hv
            simp only [yielded, hp', Option.bind_some, hd]
            cases hx : a.tmps[t]? with
            | none => rw [hg]; rfl
            | some x => simp [hx] at hv; rw [hv, hg]; rfl
        | _ => simp [hgt] at hg

theorem skip_VR {R : Nat → Prop} {ρ : Loc} {w : World} : VR R ρ w skipV undef := .tup #[] rfl fun i c hc => by simp at hc

/-- a step of the evaluator is a step of the region -/
theorem step_sim (hC : OrcOk C) {ops : Array Oper} {p : Item} {g' : EnvF} {mem' : Mem} {lg : Log} (h : SR rf R ρ g mem a w nt) (hi : ops[p.i]? = some p.o) (hs : stepF C nt ops.toList p g mem = some (g', mem', lg))
    (hsl : slotsOf C p.o.op ≠ 0 → p.slot + slotsOf C p.o.op ≤ mem.length ∧ rf.base ≤ p.slot ∧ ∀ b, p.slot ≤ b → b < p.slot + slotsOf C p.o.op → ρ b = none) {Q : Exit → Act → World → Prop} {K : Act → World → Prop}
    (hK : ∀ R' ρ' a' w', SR rf R' ρ' g' mem' a' w' nt → (∀ b, (b < p.slot ∨ p.slot + slotsOf C p.o.op ≤ b) → ρ' b = ρ b) → K a' w') : wpOp C.P ops Q p.i K a w := by
  unfold stepF at hs
  cases hd : dstOk nt p.o with
  | false => simp [hd] at hs
  | true =>
    simp only [hd, Bool.not_true, cond_false] at hs
    cases hg : guardOf ops.toList g p.o with
    | none => simp [hg] at hs
    | some b =>
      have hw := guard_wanted h hg
      unfold wpOp
      simp only [hi]
      cases b with
      | false =>
        simp only [hg, Option.some.injEq, Prod.mk.injEq] at hs
        obtain ⟨rfl, rfl, rfl⟩ := hs
        rw [if_neg (by rw [hw]; simp)]
        exact hK R ρ _ _ (h.put (slot := 0) hd h.ms (.refl R ρ w 0 0) skip_VR) (fun _ _ => rfl)
      | true =>
        rw [if_pos hw]
        left
        simp only [hg] at hs
        cases hsim : simple C mem p.slot (evF g) p.o with
        | none => simp [hsim] at hs
        | some e =>
          simp only [hsim] at hs
          cases hc : e.conds.all id with
          | false => simp [hc] at hs
          | true =>
            simp only [hc, cond_true, Option.some.injEq, Prod.mk.injEq] at hs
            obtain ⟨rfl, rfl, rfl⟩ := hs
            have hc' : ∀ c ∈ e.conds, c = true := fun c hcm => by
              have := List.all_eq_true.1 hc c hcm
              simpa using this
            refine simple_sim hC h.ms h.ev hsim hc' hsl K Q (fun R' ρ' w' v' m1 m2 m4 m3 => ?_)
            exact hK R' ρ' _ _ (h.put hd m1 m2 (land_VR m3)) m2.ho

theorem tmpClash_comm (ops : List Oper) (x y : Oper) : tmpClash ops x y = tmpClash ops y x := by unfold tmpClash; exact Bool.or_comm _ _

theorem stepF_length {all : List Oper} {p : Item} {g g' : EnvF} {m m' : Mem} {lg : Log} (h : stepF C nt all p g m = some (g', m', lg)) : m'.length = m.length := by
  obtain ⟨_, u, _, rfl, _⟩ := stepF_env h
  exact applyU_length u m

def bit (all : List Oper) (i j : Nat) : Bool := ((aheads all []).getD i 0).testBit j

theorem getD_set (l : Array Bool) (i k : Nat) (x d : Bool) : (l.setIfInBounds i x).getD k d = if i = k ∧ k < l.size then x else l.getD k d := by
  rw [Array.getD_eq_getD_getElem?, Array.getD_eq_getD_getElem?, Array.getElem?_setIfInBounds]
  by_cases h : i = k
  · subst h
    by_cases h2 : i < l.size
    · simp [h2]
    · simp [h2]
  · simp [h]

theorem any_sound (hC : OrcOk C) {ops : Array Oper} {Q : Exit → Act → World → Prop}
    (hedge : ∀ i o, ops[i]? = some o → ∀ e ∈ o.after.toList, binding e = true → e.on < i)
    (hstat : ∀ i j o p, ops[i]? = some o → ops[j]? = some p → j < i → bit ops.toList i j = true ∨ tmpClash ops.toList o p = false) :
    ∀ (n : Nat) (l : List Item) (listed : Array Bool) (g : EnvF) (m : Mem) (R : Nat → Prop) (ρ : Loc) (a : Act) (w : World) (gz : EnvF) (mz : Mem) (ls : List Log), l.length = n → l.Pairwise (fun p q => p.i < q.i) →
      (∀ p ∈ l, ops[p.i]? = some p.o) → listed.size = ops.size → (∀ j, j < ops.size → (listed.getD j true = false ↔ ∃ p ∈ l, p.i = j)) →
      (∀ i, i < ops.size → listed.getD i true = true → ∀ j, bit ops.toList i j = true → listed.getD j true = true) →
      runF' C nt ops.toList l g m = some (gz, mz, ls) → (∀ x ∈ ls, ∀ y ∈ ls, x.i < y.i → bit ops.toList y.i x.i = true ∨ clash x y = false) →
      (∀ p ∈ l, slotsOf C p.o.op ≠ 0 → p.slot + slotsOf C p.o.op ≤ m.length ∧ rf.base ≤ p.slot ∧ ∀ b, p.slot ≤ b → b < p.slot + slotsOf C p.o.op → ρ b = none) → (l.Pairwise fun p q => p.slot + slotsOf C p.o.op ≤ q.slot) →
      SR rf R ρ g m a w nt → (∀ R ρ a w, SR rf R ρ gz mz a w nt → Q .normal a w) → wpAny C.P .any ops Q n listed a w := by
  have hbits := aheads_spec ops.toList
  have ready_iff : ∀ (listed : Array Bool) (i : Nat), listed.size = ops.size → (i ∈ Region.ready .any ops listed ↔ i < ops.size ∧ listed.getD i true = false ∧ ∃ o, ops[i]? = some o ∧ ∀ e ∈ o.after.toList, binding e = true → listed.getD e.on false = true) := by
    intro listed i hsz
    unfold Region.ready
    simp only [List.mem_filter, List.mem_range, Bool.and_eq_true, Bool.not_eq_true']
    refine ⟨fun ⟨h1, h2, h3⟩ => ⟨h1, h2, ops[i], by simp [h1], fun e he hb => ?_⟩, fun ⟨h1, h2, o, h3, h4⟩ => ⟨h1, h2, ?_⟩⟩
    · simp only [Array.getElem?_eq_getElem h1, Option.map_some, Option.getD_some, Array.all_eq_true_iff_forall_mem] at h3
      have := h3 e (by simpa using he)
      unfold binding at hb
      simpa [hb] using this
    · simp only [h3, Option.map_some, Option.getD_some, Array.all_eq_true_iff_forall_mem]
      intro e he
      have := h4 e (by simpa using he)
      unfold binding at this
      cases hb : Region.binds .any e with
      | false => rfl
      | true => simpa using this hb
  intro n
  induction n with
  | zero =>
    intro l listed g m R ρ a w gz mz ls hl _ _ hsz hun _ hrun _ _ _ hsr hQ
    have : l = [] := List.eq_nil_of_length_eq_zero hl
    subst this
    simp [runF'] at hrun
    obtain ⟨rfl, rfl, _⟩ := hrun
    refine ⟨?_, hQ R ρ a w hsr⟩
    apply List.eq_nil_iff_forall_not_mem.2
    intro i hi
    obtain ⟨h1, h2, _⟩ := (ready_iff listed i hsz).1 hi
    obtain ⟨p, hp, _⟩ := (hun i h1).1 h2
    simp at hp
  | succ n ih =>
    intro l listed g m R ρ a w gz mz ls hl hsort hops hsz hun hdown hrun hlog hslots hdist hsr hQ
    refine ⟨fun hnil => ?_, fun i hi => ?_⟩
    · -- the first of those that are left is ready
      exfalso
      cases l with
      | nil => simp at hl
      | cons p l =>
        have hp := hops p List.mem_cons_self
        have hlt : p.i < ops.size := (Array.getElem?_eq_some_iff.1 hp).1
        have : p.i ∈ Region.ready .any ops listed := (ready_iff listed p.i hsz).2 ⟨hlt, (hun p.i hlt).2 ⟨p, List.mem_cons_self, rfl⟩, p.o, hp, fun e he hb => by
          have hon := hedge p.i p.o hp e he hb
          have hel : e.on < ops.size := by omega
          have hne : ¬ listed.getD e.on true = false := by
            intro hf
            obtain ⟨q, hq, hqi⟩ := (hun e.on hel).1 hf
            rcases List.mem_cons.1 hq with rfl | hq
            · omega
            · have := (List.pairwise_cons.1 hsort).1 q hq
              omega
          have hlt' : e.on < listed.size := by omega
          simp only [Array.getD, hlt', dif_pos] at hne ⊢
          simpa using hne⟩
        rw [hnil] at this
        simp at this
    · obtain ⟨h1, h2, o, h3, h4⟩ := (ready_iff listed i hsz).1 hi
      obtain ⟨p, hp, rfl⟩ := (hun i h1).1 h2
      have hpo := hops p hp
      rw [h3] at hpo
      cases hpo
      obtain ⟨l1, l2, rfl⟩ := List.append_of_mem hp
      have hs1 := List.pairwise_append.1 hsort
      have hs2 := List.pairwise_cons.1 hs1.2.1
      have unord : ∀ q ∈ l1, q.i < p.i ∧ bit ops.toList p.i q.i = false := by
        intro q hq
        refine ⟨hs1.2.2 q hq p List.mem_cons_self, ?_⟩
        cases hb : bit ops.toList p.i q.i with
        | false => rfl
        | true =>
          exfalso
          have hql : q.i < ops.size := by
            have := hops q (List.mem_append_left _ hq)
            exact (Array.getElem?_eq_some_iff.1 this).1
          have hqun : listed.getD q.i true = false := (hun q.i hql).2 ⟨q, List.mem_append_left _ hq, rfl⟩
          have conv : ∀ j, j < ops.size → listed.getD j false = true → listed.getD j true = true := fun j hj h => by
            have hj' : j < listed.size := by omega
            simp only [Array.getD, hj', dif_pos] at h ⊢
            exact h
          obtain ⟨e, he, hbd, hor⟩ := hbits.1 p.i p.o q.i (by simpa using h3) (by rw [hbits.2]; simpa using h1) hb
          have hon := hedge p.i p.o h3 e he hbd
          have hlis := conv e.on (by omega) (h4 e he hbd)
          rcases hor with heq | ⟨_, hor⟩
          · rw [← heq, hqun] at hlis; cases hlis
          · have := hdown e.on (by omega) hlis q.i hor
            rw [hqun] at this; cases this
      obtain ⟨g1, m1, lq, ls', k1, k2, k3, _⟩ := bubble p l1 l2 g m gz mz ls hrun (fun q hq => by
        obtain ⟨u1, u2⟩ := unord q hq
        rw [tmpClash_comm]
        rcases hstat p.i q.i p.o q.o h3 (hops q (List.mem_append_left _ hq)) u1 with hb | hb
        · rw [u2] at hb; cases hb
        · exact hb) (fun x hx y hy ⟨q, hq, hxq⟩ hyp => by
        obtain ⟨u1, u2⟩ := unord q hq
        rcases hlog x hx y hy (by omega) with hb | hb
        · rw [hyp, hxq, u2] at hb; cases hb
        · exact hb)
      have hd1 := List.pairwise_append.1 hdist
      have hd2 := List.pairwise_cons.1 hd1.2.1
      have hne : ∀ q ∈ l1 ++ l2, q.slot + slotsOf C q.o.op ≤ p.slot ∨ p.slot + slotsOf C p.o.op ≤ q.slot := by
        intro q hq
        rcases List.mem_append.1 hq with hq | hq
        · exact .inl (hd1.2.2 q hq p List.mem_cons_self)
        · exact .inr (hd2.1 q hq)
      have hsub : ∀ q ∈ l1 ++ l2, q ∈ l1 ++ p :: l2 := fun q hq => by
        rcases List.mem_append.1 hq with hq | hq
        · exact List.mem_append_left _ hq
        · exact List.mem_append_right _ (List.mem_cons_of_mem _ hq)
      have hidx : ∀ q ∈ l1 ++ l2, q.i ≠ p.i := fun q hq => by
        rcases List.mem_append.1 hq with hq | hq
        · have := hs1.2.2 q hq p List.mem_cons_self; omega
        · have := hs2.1 q hq; omega
      refine step_sim hC hsr h3 k1 (hslots p hp) (fun R' ρ' a' w' hsr' hρ1 => ?_)
      refine ih (l1 ++ l2) _ g1 m1 R' ρ' a' w' gz mz ls' ?_ ?_ (fun q hq => hops q (hsub q hq)) (by simp [hsz]) ?_ ?_ k2 (fun x hx y hy => hlog x (k3 x hx) y (k3 y hy)) ?_ ?_ hsr' hQ
      · simp at hl ⊢; omega
      · exact List.pairwise_append.2 ⟨hs1.1, hs2.2, fun q hq r hr => hs1.2.2 q hq r (List.mem_cons_of_mem _ hr)⟩
      · intro j hj
        have hj' : j < listed.size := by omega
        rw [getD_set]
        by_cases e : j = p.i
        · subst e
          rw [if_pos ⟨rfl, hj'⟩]
          refine ⟨fun h => absurd h (by simp), fun ⟨q, hq, hqi⟩ => absurd hqi (hidx q hq)⟩
        · rw [if_neg (fun h => e h.1.symm), hun j hj]
          refine ⟨fun ⟨q, hq, hqi⟩ => ⟨q, ?_, hqi⟩, fun ⟨q, hq, hqi⟩ => ⟨q, hsub q hq, hqi⟩⟩
          rcases List.mem_append.1 hq with hq | hq
          · exact List.mem_append_left _ hq
          · rcases List.mem_cons.1 hq with rfl | hq
            · exact absurd hqi.symm e
            · exact List.mem_append_right _ hq
      · intro i hi hlis j hb
        have key : ∀ k, (listed.setIfInBounds p.i true).getD k true = true ↔ (k = p.i ∨ listed.getD k true = true) := by
          intro k
          rw [getD_set]
          by_cases hk : k < listed.size
          · by_cases e : p.i = k
            · simp [e, hk]
            · simp [e, Ne.symm e]
          · simp [Array.getD, hk]
        rw [key] at hlis ⊢
        rcases hlis with rfl | hlis
        · right
          obtain ⟨e, he, hbd, hor⟩ := hbits.1 p.i p.o j (by simpa using h3) (by rw [hbits.2]; simpa using h1) hb
          have hon := hedge p.i p.o h3 e he hbd
          have hel : e.on < listed.size := by omega
          have hlis := h4 e he hbd
          simp only [Array.getD, hel, dif_pos] at hlis
          have hlis' : listed.getD e.on true = true := by simp only [Array.getD, hel, dif_pos]; exact hlis
          rcases hor with rfl | ⟨_, hor⟩
          · exact hlis'
          · exact hdown e.on (by omega) hlis' j hor
        · exact .inr (hdown i hi hlis j hb)
      · intro q hq e1
        obtain ⟨s1, s2, s3⟩ := hslots q (hsub q hq) e1
        refine ⟨by rw [stepF_length k1]; exact s1, s2, fun b b1 b2 => ?_⟩
        rw [hρ1 b (by have := hne q hq; omega)]
        exact s3 b b1 b2
      · exact List.pairwise_append.2 ⟨hd1.1, hd2.2, fun q hq r hr => hd1.2.2 q hq r (List.mem_cons_of_mem _ hr)⟩

end
end Go.Flat
end

section
/- What the evaluator says of a function's text, the model's machine does. Part 2: functions. -/
set_option linter.unusedSimpArgs false
set_option linter.unusedVariables false
namespace Go.Flat
open Go

section
variable {C : Ctx} {rf : Ref} {R : Nat → Prop} {ρ : Loc} {w : World} {mem : Mem} {a : Act} {g : EnvF} {nt : Nat}

theorem guards_holds {α : Type} {Q : α → Prop} : ∀ {cs : List Bool} {t : Tree α}, (guards cs t).holds Q → (∀ c ∈ cs, c = true) ∧ t.holds Q
  | [], t, h => ⟨fun c hc => by simp at hc, h⟩
  | c :: cs, t, h => by
    simp only [guards, Tree.holds] at h
    cases c with
    | false => exact (h.2 rfl).elim
    | true =>
      obtain ⟨h1, h2⟩ := guards_holds (h.1 rfl)
      exact ⟨fun c hc => by rcases List.mem_cons.1 hc with rfl | hc; · rfl
                            · exact h1 c hc, h2⟩

theorem landT_holds {α : Type} {Q : α → Prop} {tgt : Bool} {v : AV} {k : AV → Tree α} (h : (landT tgt v k).holds Q) : (k (land tgt v)).holds Q := by
  cases tgt with
  | false => exact h
  | true =>
    cases v with
    | lit u =>
      cases u with
      | bool b =>
        simp only [landT, Tree.holds] at h
        cases b with
        | true => exact h.1 rfl
        | false => exact h.2 rfl
      | _ => exact h
    | _ => exact h

theorem getSlot_append {mem : Mem} {n b : Nat} : getSlot (mem ++ List.replicate n none) b = getSlot mem b := by
  unfold getSlot
  by_cases h : b < mem.length
  · rw [List.getElem?_append_left h]
  · rw [List.getElem?_append_right (by omega), List.getElem?_replicate, List.getElem?_eq_none (show mem.length ≤ b by omega)]
    by_cases h2 : b - mem.length < n
    · rw [if_pos h2]
    · rw [if_neg h2]

theorem MS.extend (h : MS rf R ρ mem w) (n : Nat) : MS rf R ρ (mem ++ List.replicate n none) w where
  blk b s hs := h.blk b s (by rwa [getSlot_append] at hs)
  dom b x hb := by have := h.dom b x hb; simp; omega
  inj b b' x s s' h1 h2 := h.inj b b' x s s' (by rwa [getSlot_append] at h1) (by rwa [getSlot_append] at h2)
  lt := h.lt
  nold b x s h1 := h.nold b x s (by rwa [getSlot_append] at h1)
  oldk := h.oldk
  oldlt := h.oldlt
  nR b x s h1 := h.nR b x s (by rwa [getSlot_append] at h1)
  Rlt := h.Rlt
  R0 := h.R0
  Rn := h.Rn
  R0k := h.R0k
  ρ0 := h.ρ0
  szk := h.szk
  size := h.size
  base := by have := h.base; simp; omega

theorem getSlot_take {mem : Mem} {m b : Nat} {s : Slot} (h : getSlot (mem.take m) b = some s) : b < m ∧ getSlot mem b = some s := by
  unfold getSlot at h ⊢
  rw [List.getElem?_take] at h
  split at h
  · rename_i s' hs
    split at hs
    · rename_i hb; exact ⟨hb, by rw [hs]; exact h⟩
    · cases hs
  · cases h

theorem BR.cut {x m : Nat} {s : Slot} (h : BR R ρ w x s.blk) (hs : slotBelow m (some s) = true) : BR R (upTo m ρ) w x s.blk := by
  obtain ⟨blk, fr⟩ := s
  cases blk with
  | one cells =>
    obtain ⟨c, e, h1, h2, h3⟩ := h
    refine ⟨c, e, h1, h2, fun j q hj => ?_⟩
    obtain ⟨q1, u, q2, q3⟩ := h3 j q hj
    exact ⟨q1, u, q2, q3.cut1 (all_get hs hj)⟩
  | many et esz fl rows =>
    obtain ⟨c, h1, h2, h3, h4, h5⟩ := h
    refine ⟨c, h1, h2, h3, fun r row hr => ⟨(h4 r row hr).1, fun j q hj => ?_⟩, h5⟩
    obtain ⟨q1, u, q2, q3⟩ := (h4 r row hr).2 j q hj
    refine ⟨q1, u, q2, ?_⟩
    cases fl with
    | true => exact q3.anyLoc (all_get (h5 rfl r row hr) hj)
    | false =>
      refine q3.cut1 ?_
      simp only [slotBelow] at hs
      exact all_get (List.all_eq_true.1 hs row (List.mem_of_getElem? hr)) hj

theorem MS.cut (h : MS rf R ρ mem w) {m : Nat} (hb : rf.base ≤ m) (hm : m ≤ mem.length) (hs : (mem.take m).all (slotBelow m) = true) : MS rf R (upTo m ρ) (mem.take m) w := by
  have up : ∀ b, b < m → upTo m ρ b = ρ b := fun b hb => by simp [upTo, hb]
  have up' : ∀ b x, upTo m ρ b = some x → b < m ∧ ρ b = some x := fun b x h => by
    unfold upTo at h
    split at h
    · rename_i hb; exact ⟨hb, h⟩
    · cases h
  refine { blk := fun b s hbs => ?_, dom := fun b x hbx => ?_, inj := fun b b' x s s' h1 h2 h3 h4 => ?_, lt := fun b x hbx => h.lt b x (up' b x hbx).2, nold := fun b x s h1 h2 => h.nold b x s (getSlot_take h1).2 (up' b x h2).2, oldk := h.oldk, oldlt := h.oldlt,
           nR := fun b x s h1 h2 h3 => h.nR b x s (getSlot_take h1).2 h2 (up' b x h3).2, Rlt := h.Rlt, R0 := h.R0, Rn := h.Rn, R0k := h.R0k, ρ0 := fun b hbb => (up b (by omega)).trans (h.ρ0 b hbb), szk := h.szk, size := h.size, base := by simp; omega }
  · obtain ⟨h1, h2⟩ := getSlot_take hbs
    have hsb : slotBelow m (some s) = true := by
      refine List.all_eq_true.1 hs (some s) (List.mem_of_getElem? (i := b) ?_)
      rw [List.getElem?_take, if_pos h1]
      exact getSlot_some h2
    rcases h.blk b s h2 with ⟨x, h3, h4⟩ | ⟨h3, h4⟩
    · exact .inl ⟨x, (up b h1).trans h3, h4.cut hsb⟩
    · exact .inr ⟨(up b h1).trans h3, h4⟩
  · have := (up' b x hbx).1
    simp; omega
  · exact h.inj b b' x s s' (getSlot_take h1).2 (getSlot_take h2).2 (up' b x h3).2 (up' b' x h4).2

theorem SR.putB (h : SR rf R ρ g mem a w nt) {R' : Nat → Prop} {ρ' : Loc} {w' : World} {mem' : Mem} {o : Oper} {v : AV} {u : Value} (hd : dstOk nt o = true) (hm : MS rf R' ρ' mem' w') (hp : PostB R ρ w R' ρ' w' mem.length)
    (hv : VR R' ρ' w' v u) : SR rf R' ρ' (putF g o.dst v) mem' (a.put o.dst u) w' nt := by
  have hlt : ∀ d, o.dst = some d → d < a.tmps.size := fun d hd' => by
    unfold dstOk at hd
    rw [hd'] at hd
    simp at hd
    exact Nat.lt_of_lt_of_le hd h.sz
  refine ⟨hm, fun t => ?_, ?_, ?_⟩
  · rw [put_getD hlt]
    by_cases e : o.dst = some t
    · rw [if_pos e, e]; simp only [putF, if_true]; exact hv
    · rw [if_neg e, putF_other (fun d hd' e' => e (by rw [hd', e']))]
      exact (h.tm t).mono hp.hR hp.hk hp.hs (fun b x hb => by rw [hp.hρ b (h.ms.dom b x hb)]; exact hb)
  · cases hdst : o.dst <;> simp [Act.put, h.sz]
  · cases hdst : o.dst <;> simp [Act.put, h.df]

def InlOk {α : Type} (C : Ctx) (Q : α → Prop) (inl : FuncId → List AV → Mem → (AV → Mem → Tree α) → Tree α) : Prop :=
  ∀ (rf : Ref) (R : Nat → Prop) (ρ : Loc) (w : World) (mem : Mem) (g : FuncId) (args : List AV) (vs : Array Value) (k' : AV → Mem → Tree α), MS rf R ρ mem w → vs.size = args.length →
    (∀ (i : Nat) (x : AV), args[i]? = some x → VR R ρ w x (vs.getD i undef)) → (inl g args mem k').holds Q →
    Callable C.P g ∧ Calls C.P g vs w fun e w' => ∃ v av R' ρ' mem', e = .returned v ∧ MS rf R' ρ' mem' w' ∧ PostB R ρ w R' ρ' w' mem.length ∧ mem.length ≤ mem'.length ∧ VR R' ρ' w' av v ∧ (k' av mem').holds Q

def MutsOk (C : Ctx) : Prop := ∀ g args mem r mem' cs, C.wr g args mem = some (r, mem', cs) → (∀ c ∈ cs, c = true) → Callable C.P g ∧ MutOk C.P g args mem r mem' ∧ mem.length ≤ mem'.length

theorem conds_all {cs : List Bool} (h : ∀ c ∈ cs, c = true) : cs.all id = true := List.all_eq_true.2 fun c hc => h c hc

theorem opsR_sound (hC : OrcOk C) {α : Type} {Q : α → Prop} {fx : Fx} {inl : FuncId → List AV → Mem → (AV → Mem → Tree α) → Tree α} (hinl : InlOk C Q inl) {ops : Array Oper} {k : St → Tree α} {Q' : Exit → Act → World → Prop}
    (hQ : ∀ R ρ s a w, SR rf R ρ (look s.env) s.mem a w fx.nt → (k s).holds Q → Q' .normal a w) :
    ∀ (rest pre : List Oper) (i slot : Nat) (s : St) (log : List Log) (R : Nat → Prop) (ρ : Loc) (a : Act) (w : World), ops.toList = pre ++ rest → i = pre.length → SR rf R ρ (look s.env) s.mem a w fx.nt →
      slot + nSlots C rest ≤ s.mem.length → rf.base ≤ slot → (∀ b, slot ≤ b → b < slot + nSlots C rest → ρ b = none) → (opsR C fx inl ops.toList false rest i slot s log k).holds Q → wpOps C.P ops Q' (List.range' i rest.length) a w
  | [], pre, i, slot, s, log, R, ρ, a, w, ho, hi, hsr, _, _, _, h => by
    simp only [opsR, Bool.not_false, Bool.true_or, cond_true] at h
    exact hQ R ρ s a w hsr h
  | o :: rest, pre, i, slot, s, log, R, ρ, a, w, ho, hi, hsr, hsl, hbs, hfree, h => by
    have hget : ops[i]? = some o := by
      have : ops.toList[i]? = some o := by rw [ho, hi]; simp
      simpa using this
    have ho' : ops.toList = (pre ++ [o]) ++ rest := by rw [ho]; simp
    have hi' : i + 1 = (pre ++ [o]).length := by simp [hi]
    simp only [List.length_cons, List.range'_succ]
    rw [wpOps_cons]
    simp only [nSlots] at hsl hfree
    simp only [opsR] at h
    cases hd : dstOk fx.nt o with
    | false => simp [hd, Tree.holds] at h
    | true =>
      simp only [hd, Bool.not_true, cond_false] at h
      have go : ∀ (v : AV) (m' : Mem) (lg : Log) (log' : List Log), stepF C fx.nt ops.toList ⟨i, slot, o⟩ (look s.env) s.mem = some (putF (look s.env) o.dst v, m', lg) →
          (opsR C fx inl ops.toList false rest (i + 1) (slot + slotsOf C o.op) ⟨putA s.env o.dst v, m'⟩ log' k).holds Q → wpOp C.P ops Q' i (wpOps C.P ops Q' (List.range' (i + 1) rest.length)) a w := by
        intro v m' lg log' hst hk
        refine step_sim hC hsr hget hst (fun h1 => ⟨by show slot + slotsOf C o.op ≤ s.mem.length; omega, hbs, fun b b1 b2 => hfree b b1 (by have b2' : b < slot + slotsOf C o.op := b2; omega)⟩) (fun R' ρ' a' w' hsr' hρ1 => ?_)
        refine opsR_sound hC hinl hQ rest (pre ++ [o]) (i + 1) (slot + slotsOf C o.op) ⟨putA s.env o.dst v, m'⟩ log' R' ρ' a' w' ho' hi' (by simp only [look_putA]; exact hsr') ?_ (by omega) ?_ hk
        · have := stepF_length hst
          simp only
          rw [this]
          omega
        · intro b hb1 hb2
          rw [hρ1 b (by right; show slot + slotsOf C o.op ≤ b; omega)]
          exact hfree b (by omega) (by omega)
      cases hg : guardOf ops.toList (look s.env) o with
      | none => simp [hg, Tree.holds] at h
      | some bb =>
        cases bb with
        | false =>
          simp only [hg] at h
          exact go skipV s.mem ⟨i, [], []⟩ log (by simp [stepF, hd, hg]) h
        | true =>
          simp only [hg] at h
          cases hs : simple C s.mem slot (ev s.env) o with
          | some e =>
            simp only [hs] at h
            obtain ⟨hc, h1⟩ := guards_holds h
            have h2 := landT_holds h1
            exact go (land (isTarget ops.toList i) e.v) (applyU s.mem e.upd) ⟨i, e.reads, e.writes⟩ _ (by simp [stepF, hd, hg, hs, conds_all hc]) h2
          | none =>
            simp only [hs, cond_false] at h
            have hw := guard_wanted hsr hg
            unfold wpOp
            simp only [hget]
            rw [if_pos hw]
            left
            cases hop : o.op with
            | call cl =>
              obtain ⟨callee, args, argTypes⟩ := cl
              cases callee with
              | value gx =>
                simp only [hop] at h
                have hx := hsr.ev gx
                generalize hvx : a.eval gx = vx at hx
                cases hfx : ev s.env gx with
                | clo fid cap =>
                  simp only [hfx] at h
                  simp only [ev] at hfx
                  rw [hfx] at hx
                  cases hx with
                  | clo vs g1 g2 =>
                    obtain ⟨hcal, hcall⟩ := hinl rf R ρ w s.mem fid (args.toList.map (ev s.env) ++ cap) (args.map a.eval ++ vs) _ hsr.ms (by simp [g1]) (fun j x hj => by
                      rw [List.getElem?_append] at hj
                      simp only [List.length_map, Array.length_toList] at hj
                      split at hj
                      · rename_i hlt
                        simp only [List.getElem?_map, Option.map_eq_some_iff] at hj
                        obtain ⟨y, hy, rfl⟩ := hj
                        have hy' : args[j] = y := by simpa [hlt] using hy
                        rw [getD_some (u := a.eval y) (by rw [Array.getElem?_append_left (by simpa using hlt)]; simp [hlt, hy'])]
                        exact hsr.ev y
                      · rename_i hge
                        have hlt : j - args.size < vs.size := by rw [g1]; exact (List.getElem?_eq_some_iff.1 hj).1
                        have := g2 _ x hj
                        rw [getD_eq hlt] at this
                        rw [getD_some (u := vs[j - args.size]) (by rw [Array.getElem?_append_right (by simpa using hge)]; simp [hlt])]
                        exact this) h
                    unfold Oper.wp
                    have hr : (execOp a.eval o).run C.P w = .ok (.enter fid (args.map a.eval ++ vs)) w := by
                      simp [execOp, hop, resolve, hvx, Deferred.ofValue, invoke, callFunc_run hcal]
                    rw [hr]
                    simp only [Oper.upon]
                    refine hcall.mono fun en w' hw' => ?_
                    obtain ⟨v, av, R', ρ', mem', rfl, k1, k2, k3, k4, k5⟩ := hw'
                    have k6 := landT_holds k5
                    have hsr' := hsr.putB hd k1 k2 (land_VR (tgt := isTarget ops.toList i) k4)
                    refine opsR_sound hC hinl hQ rest (pre ++ [o]) (i + 1) slot ⟨putA s.env o.dst (land (isTarget ops.toList i) av), mem'⟩ log R' ρ' _ w' ho' hi' (by simp only [look_putA]; exact hsr') (by simp only; omega) hbs ?_ k6
                    intro b hb1 hb2
                    rw [k2.hρ b (by omega)]
                    exact hfree b hb1 (by omega)
                | _ => simp [hfx, Tree.holds] at h
              | _ => simp [hop, Tree.holds] at h
            | _ => simp [hop, Tree.holds] at h

/-! ### a region that draws -/

def itemsOf (C : Ctx) : List Oper → Nat → Nat → List Item
  | [], _, _ => []
  | o :: r, i, slot => ⟨i, slot, o⟩ :: itemsOf C r (i + 1) (slot + slotsOf C o.op)

theorem items_spec (C : Ctx) : ∀ (ops : List Oper) (i slot : Nat), (itemsOf C ops i slot).length = ops.length ∧
    (∀ p ∈ itemsOf C ops i slot, i ≤ p.i ∧ p.i < i + ops.length ∧ ops[p.i - i]? = some p.o ∧ slot ≤ p.slot ∧ p.slot + slotsOf C p.o.op ≤ slot + nSlots C ops) ∧
    (∀ j, i ≤ j → j < i + ops.length → ∃ p ∈ itemsOf C ops i slot, p.i = j) ∧ (itemsOf C ops i slot).Pairwise (fun p q => p.i < q.i ∧ p.slot + slotsOf C p.o.op ≤ q.slot)
  | [], i, slot => ⟨rfl, fun p hp => by simp [itemsOf] at hp, fun j h1 h2 => by simp at h2; omega, List.Pairwise.nil⟩
  | o :: r, i, slot => by
    obtain ⟨h1, h2, h3, h4⟩ := items_spec C r (i + 1) (slot + slotsOf C o.op)
    refine ⟨by simp [itemsOf, h1], fun p hp => ?_, fun j j1 j2 => ?_, ?_⟩
    · simp only [itemsOf, List.mem_cons] at hp
      rcases hp with rfl | hp
      · simp [nSlots]
      · obtain ⟨k1, k2, k3, k4, k5⟩ := h2 p hp
        refine ⟨by omega, by simp; omega, ?_, by omega, by simp only [nSlots]; omega⟩
        rw [show p.i - i = (p.i - (i + 1)) + 1 by omega, List.getElem?_cons_succ]
        exact k3
    · by_cases e : j = i
      · exact ⟨_, by simp only [itemsOf]; exact List.mem_cons_self, e.symm⟩
      · obtain ⟨p, hp, hpi⟩ := h3 j (by omega) (by simp at j2; omega)
        exact ⟨p, by simp only [itemsOf]; exact List.mem_cons_of_mem _ hp, hpi⟩
    · simp only [itemsOf]
      refine List.pairwise_cons.2 ⟨fun q hq => ?_, h4⟩
      obtain ⟨k1, _, _, k4, _⟩ := h2 q hq
      exact ⟨by simp only; omega, k4⟩

theorem opsR_draw {α : Type} {Q : α → Prop} {fx : Fx} {inl : FuncId → List AV → Mem → (AV → Mem → Tree α) → Tree α} {all : List Oper} {k : St → Tree α} :
    ∀ (rest : List Oper) (i slot : Nat) (s : St) (log : List Log), (opsR C fx inl all true rest i slot s log k).holds Q →
      ∃ s' lgs ls, (k s').holds Q ∧ drawOk all lgs = true ∧ (∀ x ∈ log, x ∈ lgs) ∧ runF' C fx.nt all (itemsOf C rest i slot) (look s.env) s.mem = some (look s'.env, s'.mem, ls) ∧ ∀ x ∈ ls, x ∈ lgs ∨ (x.reads = [] ∧ x.writes = [])
  | [], i, slot, s, log, h => by
    simp only [opsR, Bool.not_true, Bool.false_or] at h
    cases hd : drawOk all log with
    | false => simp [hd, Tree.holds] at h
    | true =>
      simp only [hd, cond_true] at h
      exact ⟨s, log, [], h, hd, fun x hx => hx, rfl, fun x hx => by simp at hx⟩
  | o :: rest, i, slot, s, log, h => by
    simp only [opsR] at h
    cases hd : dstOk fx.nt o with
    | false => simp [hd, Tree.holds] at h
    | true =>
      simp only [hd, Bool.not_true, cond_false] at h
      cases hg : guardOf all (look s.env) o with
      | none => simp [hg, Tree.holds] at h
      | some bb =>
        cases bb with
        | false =>
          simp only [hg] at h
          obtain ⟨s', lgs, ls, h1, h2, h3, h4, h5⟩ := opsR_draw rest _ _ _ _ h
          refine ⟨s', lgs, ⟨i, [], []⟩ :: ls, h1, h2, h3, ?_, fun x hx => ?_⟩
          · simp only [itemsOf, runF', stepF, hd, Bool.not_true, cond_false, hg]
            simp only [look_putA] at h4
            rw [h4]
          · rcases List.mem_cons.1 hx with rfl | hx
            · exact .inr ⟨rfl, rfl⟩
            · exact h5 x hx
        | true =>
          simp only [hg] at h
          cases hs : simple C s.mem slot (ev s.env) o with
          | none => simp [hs, Tree.holds] at h
          | some e =>
            simp only [hs] at h
            obtain ⟨hc, h1⟩ := guards_holds h
            have h2 := landT_holds h1
            obtain ⟨s', lgs, ls, h1, h2, h3, h4, h5⟩ := opsR_draw rest _ _ _ _ h2
            refine ⟨s', lgs, ⟨i, e.reads, e.writes⟩ :: ls, h1, h2, fun x hx => h3 x (List.mem_cons_of_mem _ hx), ?_, fun x hx => ?_⟩
            · simp only [itemsOf, runF', stepF, hd, Bool.not_true, cond_false, hg, hs, conds_all hc, cond_true]
              simp only [look_putA] at h4
              rw [h4]
            · rcases List.mem_cons.1 hx with rfl | hx
              · exact .inl (h3 _ List.mem_cons_self)
              · exact h5 x hx

theorem clash_nil {x y : Log} (h : (x.reads = [] ∧ x.writes = []) ∨ (y.reads = [] ∧ y.writes = [])) : clash x y = false := by
  have m1 : ∀ l : List Rng, meets [] l = false := fun l => rfl
  have m2 : ∀ l : List Rng, meets l [] = false := fun l => by induction l with
    | nil => rfl
    | cons a l ih => simp [meets]
  unfold clash
  rcases h with ⟨h1, h2⟩ | ⟨h1, h2⟩ <;> simp [h1, h2, m1, m2]

theorem drawOk_spec {all : List Oper} {lgs : List Log} (h : drawOk all lgs = true) :
    (∀ i o, all[i]? = some o → ∀ e ∈ o.after.toList, binding e = true → e.on < i) ∧
    (∀ i j o p, all[i]? = some o → all[j]? = some p → j < i → bit all i j = true ∨ tmpClash all o p = false) ∧
    (∀ x ∈ lgs, ∀ y ∈ lgs, x.i < y.i → bit all y.i x.i = true ∨ clash x y = false) := by
  have getO_eq : ∀ (l : List Nat) i, getO l i 0 = l.getD i 0 := fun l i => by
    unfold getO
    rw [List.getD_eq_getElem?_getD]
    cases l[i]? <;> rfl
  have blt_lt : ∀ {a b : Nat}, a < b → Nat.blt a b = true := fun h => by rw [Nat.blt_eq]; exact h
  unfold drawOk at h
  simp only [Bool.and_eq_true, List.all_eq_true] at h
  obtain ⟨⟨h1, h2⟩, h3⟩ := h
  refine ⟨fun i o hi e he hb => ?_, fun i j o p hi hj hji => ?_, fun x hx y hy hxy => ?_⟩
  · have := h1 (o, i) (List.mk_mem_zipIdx_iff_getElem?.2 hi) e he
    simp only [hb, Bool.not_true, Bool.false_or, Nat.blt_eq] at this
    exact this
  · have := h2 (o, i) (List.mk_mem_zipIdx_iff_getElem?.2 hi) (p, j) (List.mk_mem_zipIdx_iff_getElem?.2 hj)
    simp only [blt_lt hji, Bool.not_true, Bool.false_or, Bool.or_eq_true, Bool.not_eq_true', getO_eq] at this
    exact this
  · have := h3 y hy x hx
    simp only [blt_lt hxy, Bool.not_true, Bool.false_or, Bool.or_eq_true, Bool.not_eq_true', getO_eq] at this
    exact this

theorem draw_sound (hC : OrcOk C) (hM : C.P.follows .mixedOrders = true) {α : Type} {Q : α → Prop} {fx : Fx} {inl : FuncId → List AV → Mem → (AV → Mem → Tree α) → Tree α} {ops : Array Oper} {k : St → Tree α} {Q' : Exit → Act → World → Prop} {id : Nat}
    (hQ : ∀ R ρ s a w, SR rf R ρ (look s.env) s.mem a w fx.nt → (k s).holds Q → Q' .normal a w) {s : St} {m0 : Nat} (hsr : SR rf R ρ (look s.env) s.mem a w fx.nt)
    (hsl : m0 + nSlots C ops.toList ≤ s.mem.length) (hbs : rf.base ≤ m0) (hfree : ∀ b, m0 ≤ b → ρ b = none)
    (h : (opsR C fx inl ops.toList true ops.toList 0 m0 s [] k).holds Q) : (Code.region id ops true).wp C.P Q' a w := by
  obtain ⟨s', lgs, ls, h1, h2, _, h4, h5⟩ := opsR_draw _ _ _ _ _ h
  obtain ⟨d1, d2, d3⟩ := drawOk_spec h2
  obtain ⟨i1, i2, i3, i4⟩ := items_spec C ops.toList 0 m0
  refine wp_region_any hM ?_
  have hsr' : SR rf R ρ (look s.env) s.mem a { w with drawn := w.drawn + 1 } fx.nt := ⟨hsr.ms.heap rfl ⟨rfl, rfl⟩, fun t => (hsr.tm t).heap rfl ⟨rfl, rfl⟩, hsr.sz, hsr.df⟩
  refine any_sound hC (rf := rf) (nt := fx.nt) (fun i o hi => d1 i o (by simpa using hi)) (fun i j o p hi hj => d2 i j o p (by simpa using hi) (by simpa using hj)) ops.size (itemsOf C ops.toList 0 m0) _ _ _ R ρ a _ _ _ ls (by rw [i1]; simp) (i4.imp (fun h => h.1)) (fun p hp => ?_) (by simp) (fun j hj => ?_) (fun i hi hlis => ?_) h4 (fun x hx y hy hxy => ?_) (fun p hp hp1 => ?_) (i4.imp (fun h => h.2)) hsr' (fun R ρ a w hs => hQ R ρ s' a w hs h1)
  · have := (i2 p hp).2.2.1
    simpa using this
  · refine ⟨fun _ => i3 j (Nat.zero_le _) (by simpa using hj), fun _ => by simp [Array.getD, hj]⟩
  · simp [Array.getD, hi] at hlis
  · rcases h5 x hx with h5x | h5x
    · rcases h5 y hy with h5y | h5y
      · exact d3 x h5x y h5y hxy
      · exact .inr (clash_nil (.inr h5y))
    · exact .inr (clash_nil (.inl h5x))
  · obtain ⟨_, _, _, k4, k5⟩ := i2 p hp
    exact ⟨by omega, by omega, fun b b1 _ => hfree b (by omega)⟩

end
end Go.Flat
end

section
/- What is live at the head of a loop, its blocks numbered anew; nil slices that are one's own. -/
set_option linter.unusedSimpArgs false
set_option linter.unusedVariables false
namespace Go.Flat
open Go

section
variable {C : Ctx} {rf : Ref} {R : Nat → Prop} {ρ : Loc} {w : World} {mem : Mem} {a : Act} {g : EnvF} {nt : Nat}

theorem look_live {live : List Nat} {f : Nat → AV} (t : Nat) : look (live.map fun x => (x, f x)) t = .undef ∨ (t ∈ live ∧ look (live.map fun x => (x, f x)) t = f t) := by
  induction live with
  | nil => exact .inl rfl
  | cons x l ih =>
    simp only [List.map_cons, look]
    cases hb : Nat.beq x t with
    | true => simp only [cond_true]; rw [Nat.eq_of_beq_eq_true hb]; exact .inr ⟨List.mem_cons_self, rfl⟩
    | false =>
      simp only [cond_false]
      rcases ih with h | ⟨h1, h2⟩
      · exact .inl h
      · exact .inr ⟨List.mem_cons_of_mem _ h1, h2⟩

def locC (base : Nat) (bl : List Nat) (ρ : Loc) : Loc := fun i => if i < base then ρ i else match bl[i - base]? with | some b => ρ b | none => none
theorem locC_lt {base : Nat} {bl : List Nat} {i : Nat} (h : i < base) : locC base bl ρ i = ρ i := by simp [locC, h]
theorem locC_ge {base : Nat} {bl : List Nat} {i b : Nat} (h : base ≤ i) (hb : bl[i - base]? = some b) : locC base bl ρ i = ρ b := by
  have : ¬ i < base := by omega
  simp [locC, this, hb]
theorem gcC_SR {live : List Nat} {s s' : St} (h : SR rf R ρ (look s.env) s.mem a w nt) (hg : gcC live rf.base s = some s') : ∃ ρ', SR rf R ρ' (look s'.env) s'.mem a w nt := by
  unfold gcC at hg
  simp only at hg
  generalize hbl : reach s.mem rf.base (live.map fun t => (t, look s.env t)) = bl at hg
  cases hq : ((live.map fun t => (t, look s.env t)).all (fun x => okP1 (okLoc rf.base bl) x.2) && (bl.all (fun b => slotP (okLoc rf.base bl) (getSlot s.mem b)) && ((s.mem.take rf.base).all (slotBelow rf.base) && (nodupB bl && bl.all (fun b => Nat.ble rf.base b))))) with
  | false => rw [hq] at hg; cases hg
  | true =>
    simp only [hq, cond_true, Option.some.injEq] at hg
    subst hg
    simp only [Bool.and_eq_true] at hq
    obtain ⟨q1, q2, q3, q4, q5⟩ := hq
    have hbase := h.ms.base
    have hge : ∀ {i b : Nat}, bl[i]? = some b → rf.base ≤ b := fun hb => Nat.le_of_ble_eq_true (all_getL q5 hb)
    have hρ : ∀ b x, okLoc rf.base bl b = true → ρ b = some x → locC rf.base bl ρ (tau rf.base bl b) = some x := fun b x hb hx => by
      unfold okLoc at hb
      unfold tau
      cases hlt : Nat.blt b rf.base with
      | true =>
        have : b < rf.base := by simpa using hlt
        simp only [cond_true]; rw [locC_lt this]; exact hx
      | false =>
        rw [hlt, Bool.false_or] at hb
        simp only [cond_false]
        rw [locC_ge (b := b) (by omega) (by rw [show rf.base + idxOf b bl - rf.base = idxOf b bl by omega]; exact idxOf_get hb)]
        exact hx
    have hslot : ∀ i s1, getSlot (s.mem.take rf.base ++ bl.map fun b => (getSlot s.mem b).map (renSlot (tau rf.base bl))) i = some s1 →
        (i < rf.base ∧ getSlot s.mem i = some s1) ∨ (rf.base ≤ i ∧ ∃ b s0, bl[i - rf.base]? = some b ∧ getSlot s.mem b = some s0 ∧ s1 = renSlot (tau rf.base bl) s0) := fun i s1 hs => by
      have hlen : (s.mem.take rf.base).length = rf.base := by simp; omega
      have hs := getSlot_some hs
      by_cases hi : i < rf.base
      · rw [List.getElem?_append_left (by omega), List.getElem?_take, if_pos hi] at hs
        refine .inl ⟨hi, ?_⟩
        unfold getSlot; rw [hs]
      · rw [List.getElem?_append_right (by omega), hlen, List.getElem?_map] at hs
        cases hb : bl[i - rf.base]? with
        | none => simp [hb] at hs
        | some b =>
          rw [hb, Option.map_some] at hs
          cases hs0 : getSlot s.mem b with
          | none => rw [hs0] at hs; cases hs
          | some s0 =>
            rw [hs0] at hs
            exact .inr ⟨by omega, b, s0, rfl, hs0, by cases hs; rfl⟩
    have hdom : ∀ i x, locC rf.base bl ρ i = some x → (i < rf.base ∧ ρ i = some x) ∨ (rf.base ≤ i ∧ ∃ b, bl[i - rf.base]? = some b ∧ ρ b = some x) := fun i x hx => by
      by_cases hi : i < rf.base
      · rw [locC_lt hi] at hx; exact .inl ⟨hi, hx⟩
      · cases hb : bl[i - rf.base]? with
        | none => simp [locC, hi, hb] at hx
        | some b => rw [locC_ge (by omega) hb] at hx; exact .inr ⟨by omega, b, rfl, hx⟩
    -- what stands behind a new name
    have pre : ∀ i s1 x, getSlot (s.mem.take rf.base ++ bl.map fun b => (getSlot s.mem b).map (renSlot (tau rf.base bl))) i = some s1 → locC rf.base bl ρ i = some x →
        ∃ b s0, getSlot s.mem b = some s0 ∧ ρ b = some x ∧ s0.frozen = s1.frozen ∧ ((i < rf.base ∧ b = i) ∨ (rf.base ≤ i ∧ bl[i - rf.base]? = some b)) := fun i s1 x hs hx => by
      rcases hslot i s1 hs with ⟨h1, h2⟩ | ⟨h1, b, s0, h2, h3, h4⟩
      · rcases hdom i x hx with ⟨_, h6⟩ | ⟨h6, _⟩
        · exact ⟨i, s1, h2, h6, rfl, .inl ⟨h1, rfl⟩⟩
        · omega
      · rcases hdom i x hx with ⟨h6, _⟩ | ⟨_, b', h6, h7⟩
        · omega
        · rw [h2] at h6; cases h6
          exact ⟨b, s0, h3, h7, by rw [h4]; rfl, .inr ⟨h1, h2⟩⟩
    refine ⟨locC rf.base bl ρ, ⟨?_, fun t => ?_, h.sz, h.df⟩⟩
    · exact
        { blk := fun i s1 hs => by
            rcases hslot i s1 hs with ⟨h1, h2⟩ | ⟨h1, b, s0, h2, h3, h4⟩
            · have hb : slotBelow rf.base (some s1) = true := by
                refine List.all_eq_true.1 q3 (some s1) (List.mem_of_getElem? (i := i) ?_)
                rw [List.getElem?_take, if_pos h1]
                exact getSlot_some h2
              rcases h.ms.blk i s1 h2 with ⟨x, k1, k2⟩ | ⟨k1, k2⟩
              · refine .inl ⟨x, by rw [locC_lt h1]; exact k1, (k2.cut hb).mono rfl (fun _ h => h) (fun _ _ => rfl) (.refl w) (fun b y hby => ?_)⟩
                unfold upTo at hby
                split at hby
                · rename_i hlt; rw [locC_lt hlt]; exact hby
                · cases hby
              · exact .inr ⟨by rw [locC_lt h1]; exact k1, k2⟩
            · subst h4
              have hsp : slotP (okLoc rf.base bl) (some s0) = true := by
                have := all_getL q2 h2
                rw [h3] at this; exact this
              rcases h.ms.blk b s0 h3 with ⟨x, k1, k2⟩ | ⟨k1, k2⟩
              · exact .inl ⟨x, by rw [locC_ge h1 h2]; exact k1, k2.reP hsp hρ⟩
              · exact .inr ⟨by rw [locC_ge h1 h2]; exact k1, renBlk_empty.2 k2⟩
          dom := fun i x hx => by
            have hlen : (s.mem.take rf.base).length = rf.base := by simp; omega
            rw [List.length_append, hlen, List.length_map]
            rcases hdom i x hx with ⟨h1, _⟩ | ⟨h1, b, h2, _⟩
            · omega
            · have := (List.getElem?_eq_some_iff.1 h2).1; omega
          inj := fun i j x s1 s2 hs1 hs2 h1 h2 => by
            obtain ⟨b, s0, c1, c2, _, c3⟩ := pre i s1 x hs1 h1
            obtain ⟨b', s0', d1, d2, _, d3⟩ := pre j s2 x hs2 h2
            have e := h.ms.inj b b' x s0 s0' c1 d1 c2 d2
            subst e
            rcases c3 with ⟨c3, c4⟩ | ⟨c3, c4⟩ <;> rcases d3 with ⟨d3, d4⟩ | ⟨d3, d4⟩
            · omega
            · have := hge d4; omega
            · have := hge c4; omega
            · have := nodupB_inj q4 c4 d4; omega
          lt := fun i x hx => by
            rcases hdom i x hx with ⟨_, h1⟩ | ⟨_, b, _, h1⟩
            · exact h.ms.lt _ x h1
            · exact h.ms.lt _ x h1
          nold := fun i x s1 hs hx => by
            obtain ⟨b, s0, c1, c2, _, _⟩ := pre i s1 x hs hx
            exact h.ms.nold b x s0 c1 c2
          oldk := h.ms.oldk
          oldlt := h.ms.oldlt
          nR := fun i x s1 hs hf hx => by
            obtain ⟨b, s0, c1, c2, c3, _⟩ := pre i s1 x hs hx
            exact h.ms.nR b x s0 c1 (by rw [c3]; exact hf) c2
          Rlt := h.ms.Rlt
          R0 := h.ms.R0
          Rn := h.ms.Rn
          R0k := h.ms.R0k
          ρ0 := fun b hb => by rw [locC_lt hb]; exact h.ms.ρ0 b hb
          szk := h.ms.szk
          size := h.ms.size
          base := by simp; omega }
    · simp only [List.map_map]
      rcases look_live (live := live) (f := fun t => ren1 (tau rf.base bl) (look s.env t)) t with e | ⟨e1, e2⟩
      · have e' : look (List.map ((fun x => (x.1, ren1 (tau rf.base bl) x.2)) ∘ fun t => (t, look s.env t)) live) t = .undef := e
        rw [e']; exact .undef
      · have e' : look (List.map ((fun x => (x.1, ren1 (tau rf.base bl) x.2)) ∘ fun t => (t, look s.env t)) live) t = ren1 (tau rf.base bl) (look s.env t) := e2
        rw [e']
        refine (h.tm t).reP1 ?_ hρ
        have := List.all_eq_true.1 q1 (t, look s.env t) (List.mem_map.2 ⟨t, e1, rfl⟩)
        exact this

theorem look_nil (env : Env) (u m et esz t : Nat) : look (env.map fun y => bif Nat.beq y.1 u then (y.1, nilTo m et esz y.2) else y) t = look env t ∨
    (look env t = .nsl ∧ look (env.map fun y => bif Nat.beq y.1 u then (y.1, nilTo m et esz y.2) else y) t = .lsl false m et esz 0) := by
  induction env with
  | nil => exact .inl rfl
  | cons x l ih =>
    obtain ⟨k, v⟩ := x
    simp only [List.map_cons]
    cases hb : Nat.beq k t with
    | true =>
      cases hu : Nat.beq k u with
      | false => simp only [cond_false, look, hb, cond_true]; exact .inl trivial
      | true =>
        simp only [cond_true, look, hb]
        cases v <;> first | exact .inl rfl | exact .inr ⟨rfl, rfl⟩
    | false =>
      cases hu : Nat.beq k u with
      | false => simp only [cond_false, look, hb]; exact ih
      | true =>
        simp only [cond_true, look, hb, cond_false]
        exact ih

theorem nil_SR {s : St} {x : Nat × Nat × Nat} (h : SR rf R ρ (look s.env) s.mem a w nt) : SR rf R ρ (look (nilAt s x).env) (nilAt s x).mem a w nt := by
  unfold nilAt
  cases hz : Nat.beq x.2.2 0 with
  | true => simp only [cond_true]; exact h
  | false =>
    simp only [cond_false]
    have hnone : ρ s.mem.length = none := by
      cases hx : ρ s.mem.length with
      | none => rfl
      | some y => exact absurd (h.ms.dom _ y hx) (Nat.lt_irrefl _)
    have hs : ∀ b s1, getSlot (s.mem ++ [some ⟨.many x.2.1 x.2.2 true [], false⟩]) b = some s1 → getSlot s.mem b = some s1 ∨ (b = s.mem.length ∧ s1 = ⟨.many x.2.1 x.2.2 true [], false⟩) := fun b s1 hs1 => by
      unfold getSlot at hs1 ⊢
      by_cases hb : b < s.mem.length
      · rw [List.getElem?_append_left hb] at hs1; exact .inl hs1
      · rw [List.getElem?_append_right (by omega)] at hs1
        by_cases hb2 : b = s.mem.length
        · subst hb2; simp at hs1; exact .inr ⟨rfl, hs1.symm⟩
        · rw [List.getElem?_eq_none (by simp; omega)] at hs1; cases hs1
    have hs2 : ∀ b s1 y, getSlot (s.mem ++ [some ⟨.many x.2.1 x.2.2 true [], false⟩]) b = some s1 → ρ b = some y → getSlot s.mem b = some s1 := fun b s1 y h1 h2 => by
      rcases hs b s1 h1 with h3 | ⟨rfl, _⟩
      · exact h3
      · rw [hnone] at h2; cases h2
    refine ⟨?_, fun t => ?_, h.sz, h.df⟩
    · exact
        { blk := fun b s1 h1 => by
            rcases hs b s1 h1 with h3 | ⟨rfl, rfl⟩
            · exact h.ms.blk b s1 h3
            · exact .inr ⟨hnone, rfl⟩
          dom := fun b y hy => by have := h.ms.dom b y hy; simp; omega
          inj := fun b b' y s1 s2 h1 h2 h3 h4 => h.ms.inj b b' y s1 s2 (hs2 b s1 y h1 h3) (hs2 b' s2 y h2 h4) h3 h4
          lt := h.ms.lt
          nold := fun b y s1 h1 h3 => h.ms.nold b y s1 (hs2 b s1 y h1 h3) h3
          oldk := h.ms.oldk
          oldlt := h.ms.oldlt
          nR := fun b y s1 h1 hf h3 => h.ms.nR b y s1 (hs2 b s1 y h1 h3) hf h3
          Rlt := h.ms.Rlt
          R0 := h.ms.R0
          Rn := h.ms.Rn
          R0k := h.ms.R0k
          ρ0 := h.ms.ρ0
          szk := h.ms.szk
          size := h.ms.size
          base := by have := h.ms.base; simp; omega }
    · rcases look_nil s.env x.1 s.mem.length x.2.1 x.2.2 t with e | ⟨e1, e2⟩
      · rw [e]; exact h.tm t
      · rw [e2]
        have := h.tm t
        rw [e1] at this
        generalize a.tmps.getD t undef = v at this
        cases this
        exact .lsl0

theorem nils_SR : ∀ {l : List (Nat × Nat × Nat)} {s : St}, SR rf R ρ (look s.env) s.mem a w nt → SR rf R ρ (look (l.foldl stepNil s).env) (l.foldl stepNil s).mem a w nt
  | [], s, h => h
  | x :: l, s, h => by
    rw [List.foldl_cons]
    refine nils_SR ?_
    unfold stepNil
    cases isNil (look s.env x.1) with
    | true => exact nil_SR h
    | false => exact h

end
end Go.Flat
end

section
/- What the evaluator says of a function's text, the model's machine does. Part 3: the whole text, and calls. -/
set_option linter.unusedSimpArgs false
set_option linter.unusedVariables false
namespace Go.Flat
open Go

section
variable {C : Ctx} {rf : Ref} {R : Nat → Prop} {ρ : Loc} {w : World} {mem : Mem} {a : Act} {g : EnvF} {nt : Nat}

def KQ {α : Type} (rf : Ref) (Q : α → Prop) (k : K α) (nt : Nat) : Exit → Act → World → Prop
  | .normal, a, w => ∃ R ρ s, SR rf R ρ (look s.env) s.mem a w nt ∧ (k .normal s).holds Q
  | .exit id, a, w => ∃ R ρ s, SR rf R ρ (look s.env) s.mem a w nt ∧ (k (.exit id) s).holds Q
  | .ret, a, w => ∃ R ρ s, SR rf R ρ (look s.env) s.mem a w nt ∧ (k .ret s).holds Q
  | _, _, _ => False

theorem SR.known {b : Bool} {s : St} {t : Nat} (h : SR rf R ρ (look s.env) s.mem a w nt) (ht : look s.env t = .lit (.bool b)) : SR rf R ρ (look ((t, .kb b) :: s.env)) s.mem a w nt := by
  refine ⟨h.ms, fun u => ?_, h.sz, h.df⟩
  simp only [look]
  by_cases e : t = u
  · subst e
    simp only [Nat.beq_refl, cond_true]
    have := h.tm t
    rw [ht] at this
    generalize a.tmps.getD t Go.undef = v at this
    cases this
    exact .kb
  · have : Nat.beq t u = false := by
      cases hb : Nat.beq t u with
      | false => rfl
      | true => exact absurd (Nat.eq_of_beq_eq_true hb) e
    simp only [this, cond_false]
    exact h.tm u

theorem look_map {live : List Nat} {f : Nat → AV} (t : Nat) : look (live.map fun x => (x, f x)) t = f t ∨ look (live.map fun x => (x, f x)) t = .undef := by
  induction live with
  | nil => exact .inr rfl
  | cons x l ih =>
    simp only [List.map_cons, look]
    cases hb : Nat.beq x t with
    | true => simp only [cond_true]; rw [Nat.eq_of_beq_eq_true hb]; exact .inl rfl
    | false => simpa using ih

theorem look_mem {env : Env} {t : Nat} : look env t = .undef ∨ ∃ x ∈ env, look env t = x.2 := by
  induction env with
  | nil => exact .inl rfl
  | cons x l ih =>
    obtain ⟨u, v⟩ := x
    simp only [look]
    cases hb : Nat.beq u t with
    | true => exact .inr ⟨(u, v), List.mem_cons_self, rfl⟩
    | false =>
      simp only [cond_false]
      rcases ih with h | ⟨x, hx, h⟩
      · exact .inl h
      · exact .inr ⟨x, List.mem_cons_of_mem _ hx, h⟩

theorem gc_SR {live : List Nat} {m : Nat} {s s' : St} (h : SR rf R ρ (look s.env) s.mem a w nt) (hg : gc live m s = some s') (hb : rf.base ≤ m) : ∃ ρ', SR rf R ρ' (look s'.env) s'.mem a w nt := by
  unfold gc at hg
  simp only at hg
  cases hq : ((live.map fun t => (t, look s.env t)).all (fun x => locsBelow m x.2) && (s.mem.take m).all (slotBelow m)) with
  | false => rw [hq] at hg; cases hg
  | true =>
    simp only [hq, cond_true, Option.some.injEq] at hg
    subst hg
    simp only [Bool.and_eq_true] at hq
    by_cases hm : m ≤ s.mem.length
    · refine ⟨upTo m ρ, h.ms.cut hb hm hq.2, fun t => ?_, h.sz, h.df⟩
      rcases look_map (live := live) (f := look s.env) t with e | e
      · rcases look_mem (env := live.map fun t => (t, look s.env t)) (t := t) with e2 | ⟨x, hx, e2⟩
        · simp only [e2]; exact .undef
        · have hbl := List.all_eq_true.1 hq.1 x hx
          rw [← e2] at hbl
          simp only
          rw [e] at hbl ⊢
          exact (h.tm t).cut hbl
      · simp only [e]; exact .undef
    · refine ⟨ρ, by simp only; rw [List.take_of_length_le (by omega)]; exact h.ms, fun t => ?_, h.sz, h.df⟩
      rcases look_map (live := live) (f := look s.env) t with e | e
      · simp only [e]; exact h.tm t
      · simp only [e]; exact .undef

theorem forget_VR {R : Nat → Prop} {ρ : Loc} {w : World} {x : AV} {v : Value} (h : VR R ρ w x v) : VR R ρ w (forget x) v := by
  cases h with
  | kb => exact .lit trivial
  | ki h => exact .lit h
  | lit h => exact .lit h
  | nsl => exact .nsl
  | vsl0 => exact .vsl0
  | vsl vals hx hl he h1 h2 h3 h4 => exact .vsl vals hx hl he h1 h2 h3 h4
  | vptr vals hx h2 h3 h4 => exact .vptr vals hx h2 h3 h4
  | ptr h => exact .ptr h
  | lsl0 => exact .lsl0
  | lsl h1 h2 h3 h4 h5 => exact .lsl h1 h2 h3 h4 h5
  | clo vs h1 h2 => exact .clo vs h1 h2
  | iface h1 h2 => exact .iface h1 h2
  | agg vs h1 h2 h3 => exact .agg vs h1 h2 h3
  | tup vs h1 h2 => exact .tup vs h1 h2
  | undef => exact .undef

theorem look_forget (env : Env) (t : Nat) : look (env.map fun x => (x.1, forget x.2)) t = forget (look env t) := by
  induction env with
  | nil => rfl
  | cons x l ih =>
    obtain ⟨u, v⟩ := x
    simp only [List.map_cons, look]
    cases Nat.beq u t with
    | true => rfl
    | false => simpa using ih

theorem forget_leaf (a : AV) : (forget a).leaf = a.leaf := by cases a <;> rfl
theorem forget_slot {mem : Mem} {b : Nat} {s' : Slot} (h : getSlot (mem.map forgetSlot) b = some s') : ∃ s, getSlot mem b = some s ∧ s'.frozen = s.frozen ∧ (s' = s ∨ ∃ cs, s.blk = .one cs ∧ s'.blk = .one (cs.map forget)) := by
  unfold getSlot at h ⊢
  rw [List.getElem?_map] at h
  cases hm : mem[b]? with
  | none => simp [hm] at h
  | some o =>
    cases o with
    | none => simp [hm, forgetSlot] at h
    | some s =>
      obtain ⟨blk, fr⟩ := s
      cases blk with
      | one cs => simp [hm, forgetSlot] at h; subst h; exact ⟨_, rfl, rfl, .inr ⟨cs, rfl, rfl⟩⟩
      | many et esz fl rows => simp [hm, forgetSlot] at h; subst h; exact ⟨_, rfl, rfl, .inl rfl⟩
theorem forget_MS {mem : Mem} (h : MS rf R ρ mem w) : MS rf R ρ (mem.map forgetSlot) w :=
  { blk := fun b s' hs' => by
      obtain ⟨s, h1, h2, h3⟩ := forget_slot hs'
      rcases h3 with rfl | ⟨cs, e1, e2⟩
      · exact h.blk b s' h1
      · rcases h.blk b s h1 with ⟨x, k1, k2⟩ | ⟨k1, k2⟩
        · refine .inl ⟨x, k1, ?_⟩
          rw [e1] at k2
          rw [e2]
          obtain ⟨c, e, j1, j2, j3⟩ := k2
          refine ⟨c, e, j1, by simpa using j2, fun j q hj => ?_⟩
          rw [List.getElem?_map] at hj
          simp only [Option.map_eq_some_iff] at hj
          obtain ⟨q0, hq0, rfl⟩ := hj
          obtain ⟨l1, v, l2, l3⟩ := j3 j q0 hq0
          exact ⟨by rw [forget_leaf]; exact l1, v, l2, forget_VR l3⟩
        · rw [e1] at k2; exact k2.elim
    dom := fun b x hb => by simpa using h.dom b x hb
    inj := fun b b' x s s' hs hs' => by
      obtain ⟨s1, h1, _⟩ := forget_slot hs
      obtain ⟨s2, h2, _⟩ := forget_slot hs'
      exact h.inj b b' x s1 s2 h1 h2
    lt := h.lt
    nold := fun b x s hs => by
      obtain ⟨s1, h1, _⟩ := forget_slot hs
      exact h.nold b x s1 h1
    oldk := h.oldk
    oldlt := h.oldlt
    nR := fun b x s hs hf => by
      obtain ⟨s1, h1, h2, _⟩ := forget_slot hs
      exact h.nR b x s1 h1 (by rw [← h2]; exact hf)
    Rlt := h.Rlt
    R0 := h.R0
    Rn := h.Rn
    R0k := h.R0k
    ρ0 := h.ρ0
    szk := h.szk
    size := h.size
    base := by simpa using h.base }

theorem forget_SR {s : St} (h : SR rf R ρ (look s.env) s.mem a w nt) : SR rf R ρ (look (forgetS s).env) (forgetS s).mem a w nt :=
  ⟨forget_MS h.ms, fun t => by simp only [forgetS, look_forget]; exact forget_VR (h.tm t), h.sz, h.df⟩

theorem look_bind : ∀ (args : List AV) (n t : Nat), look (bindArgs n args) t = if n ≤ t then (args[t - n]?).getD .undef else .undef
  | [], n, t => by simp [bindArgs, look]
  | x :: args, n, t => by
    simp only [bindArgs, look]
    cases hb : Nat.beq n t with
    | true =>
      have := Nat.eq_of_beq_eq_true hb
      subst this
      simp
    | false =>
      have hne : n ≠ t := fun e => by subst e; simp at hb
      simp only [cond_false, look_bind args (n + 1) t]
      by_cases h1 : n + 1 ≤ t
      · rw [if_pos h1, if_pos (by omega), show t - n = (t - (n + 1)) + 1 by omega, List.getElem?_cons_succ]
      · rw [if_neg h1, if_neg (by omega)]

/-- entering a function -/
theorem SR.enter (hm : MS rf R ρ mem w) {args : List AV} {vs : Array Value} (hl : vs.size = args.length) (hv : ∀ (i : Nat) (x : AV), args[i]? = some x → VR R ρ w x (vs.getD i undef)) (n : Nat) :
    SR rf R ρ (look (bindArgs 0 args)) mem { tmps := vs ++ Array.replicate (n - vs.size) undef, defers := [] } w n := by
  refine ⟨hm, fun t => ?_, by simp; omega, rfl⟩
  rw [look_bind]
  simp only [Nat.zero_le, if_true, Nat.sub_zero]
  cases hx : args[t]? with
  | none => exact .undef
  | some x =>
    have hlt : t < vs.size := by rw [hl]; exact (List.getElem?_eq_some_iff.1 hx).1
    have := hv t x hx
    rw [getD_eq hlt] at this
    simp only [Option.getD_some]
    rw [getD_some (u := vs[t]) (by rw [Array.getElem?_append_left hlt]; simp [hlt])]
    exact this

def resSem (tmps : Array Value) : ResultVar → Sem Value
  | .tmp t => pure (tmps.getD t undef)
  | .cell x t => do loadVar t (← asAddr (tmps.getD x undef))

theorem resAll_run {env : Env} (h : SR rf R ρ (look env) mem a w nt) : ∀ {rs : List ResultVar} {avs : List AV}, resAll C env mem rs = some avs →
    ∃ vs : List Value, (rs.mapM (resSem a.tmps)).run C.P w = .ok vs w ∧ vs.length = avs.length ∧ ∀ (i : Nat) (x : AV), avs[i]? = some x → ∃ v, vs[i]? = some v ∧ VR R ρ w x v
  | [], avs, hr => by
    simp [resAll] at hr
    subst hr
    exact ⟨[], rfl, rfl, fun i x hx => by simp at hx⟩
  | r :: rs, avs, hr => by
    simp only [resAll] at hr
    cases h1 : resOf C env mem r with
    | none => simp [h1] at hr
    | some av =>
      cases h2 : resAll C env mem rs with
      | none => simp [h1, h2] at hr
      | some avs' =>
        simp [h1, h2] at hr
        subst hr
        obtain ⟨vs, k1, k2, k3⟩ := resAll_run h h2
        have hone : ∃ v, (resSem a.tmps r).run C.P w = .ok v w ∧ VR R ρ w av v := by
          cases r with
          | tmp t =>
            simp [resOf] at h1
            subst h1
            exact ⟨_, rfl, h.tm t⟩
          | cell x t =>
            simp only [resOf] at h1
            cases hl : loadA C.P mem t (look env x) with
            | none => simp [hl] at h1
            | some p =>
              obtain ⟨v, gg⟩ := p
              simp [hl] at h1
              subst h1
              obtain ⟨xb, o, u, e1, e2, e3⟩ := loadA_run h.ms (h.tm x) hl
              refine ⟨u, ?_, e3⟩
              simp only [resSem, e1, asAddr, Sem.run_bind, Sem.run_pure, Result.andThen_ok, e2]
        obtain ⟨v, m1, m2⟩ := hone
        refine ⟨v :: vs, ?_, by simp [k2], fun i x hx => ?_⟩
        · rw [List.mapM_cons]
          simp only [Sem.run_bind, m1, Result.andThen_ok, k1, Sem.run_pure]
        · cases i with
          | zero => simp at hx; subst hx; exact ⟨v, rfl, m2⟩
          | succ i => simp at hx; simpa using k3 i x hx

theorem results_run {env : Env} (h : SR rf R ρ (look env) mem a w nt) {fn : Func} {avs : List AV} (hr : resAll C env mem fn.results.toList = some avs) :
    ∃ v, (results fn a.tmps).run C.P w = .ok v w ∧ VR R ρ w (results1 avs) v := by
  obtain ⟨vs, k1, k2, k3⟩ := resAll_run h hr
  have hrun : (results fn a.tmps).run C.P w = .ok (if h : vs.toArray.size = 1 then vs.toArray[0] else .tuple vs.toArray) w := by
    have e : results fn a.tmps = (do
        let vs ← fn.results.mapM (resSem a.tmps)
        pure (if h : vs.size = 1 then vs[0] else .tuple vs)) := by
      unfold results
      congr 1
    rw [e]
    simp only [Sem.run_bind]
    rw [Array.mapM_eq_mapM_toList]
    simp only [Sem.run_map, k1, Result.andThen_ok, Sem.run_pure]
  refine ⟨_, hrun, ?_⟩
  have tupv : ∀ (l : List AV), avs = l → l.length ≠ 1 → VR R ρ w (.tup l) (.tuple vs.toArray) := fun l hl hne => by
    subst hl
    refine .tup _ (by simp [k2]) (fun i c hc => ?_)
    obtain ⟨v, h1, h2⟩ := k3 i c hc
    rw [getD_some (u := v) (by simpa using h1)]
    exact h2
  unfold results1
  split
  · rename_i x
    obtain ⟨v, h1, h2⟩ := k3 0 x rfl
    have : vs = [v] := by
      cases vs with
      | nil => simp at h1
      | cons y ys =>
        simp at h1
        subst h1
        have : ys = [] := List.eq_nil_of_length_eq_zero (by simpa using k2)
        rw [this]
    subst this
    simpa using h2
  · rename_i hne
    have hl : avs.length ≠ 1 := fun h1 => by
      obtain ⟨x, hx⟩ := List.length_eq_one_iff.1 h1
      exact hne x hx
    have : ¬ vs.toArray.size = 1 := by simp [k2, hl]
    rw [dif_neg this]
    exact tupv avs rfl hl

theorem MS.back {R' : Nat → Prop} {ρ' : Loc} {mem' : Mem} {w' : World} (h0 : MS rf R ρ mem w) (h : MS ⟨w, ρ, R, rf.Old, mem.length⟩ R' ρ' mem' w') : MS rf R' ρ' mem' w' where
  blk := h.blk
  dom := h.dom
  inj := h.inj
  lt := h.lt
  nold := h.nold
  oldk x hx := (h.oldk x hx).trans (h0.oldk x hx)
  oldlt := h.oldlt
  nR := h.nR
  Rlt := h.Rlt
  R0 x hx := h.R0 x (h0.R0 x hx)
  Rn x hx := (h.Rn x hx).elim (h0.Rn x) .inr
  R0k x hx := (h.R0k x (h0.R0 x hx)).trans (h0.R0k x hx)
  ρ0 b hb := (h.ρ0 b (by have := h0.base; simp only; omega)).trans (h0.ρ0 b hb)
  szk := h0.szk.trans h.szk
  size := Nat.le_trans h0.size h.size
  base := Nat.le_trans h0.base h.base

theorem MS.start (h0 : MS rf R ρ mem w) : MS ⟨w, ρ, R, rf.Old, mem.length⟩ R ρ mem w where
  blk := h0.blk
  dom := h0.dom
  inj := h0.inj
  lt := h0.lt
  nold := h0.nold
  oldk x hx := rfl
  oldlt := h0.oldlt
  nR := h0.nR
  Rlt := h0.Rlt
  R0 x hx := hx
  Rn x hx := .inl hx
  R0k x hx := rfl
  ρ0 b hb := rfl
  szk := .refl w
  size := Nat.le_refl _
  base := Nat.le_refl _

/-- no function of the program is the one that counts goroutines -/
def Named (P : Program) : Prop := ∀ (g : FuncId) (fn : Func), P.funcs[g]? = some fn → (fn.name == "runtime.NumGoroutine") = false

theorem exec_sound (hC : OrcOk C) (hMu : MutsOk C) (hN : Named C.P) (hM : C.P.follows .mixedOrders = true) {α : Type} {Q : α → Prop} :
    ∀ (n : Nat) (fx : Fx) (code : Code) (s : St) (k : K α) (rf : Ref) (R : Nat → Prop) (ρ : Loc) (a : Act) (w : World), rf.base = fx.base → SR rf R ρ (look s.env) s.mem a w fx.nt → (exec C n fx code s k).holds Q →
      code.wp C.P (KQ rf Q k fx.nt) a w := by
  intro n
  induction n using Nat.strongRecOn with
  | _ n ihs =>
  cases n with
  | zero => intro fx code s k rf R ρ a w _ _ h; exact h.elim
  | succ n =>
    have ih := ihs n (Nat.lt_succ_self n)
    intro fx code s k rf R ρ a w hb hsr h
    cases code with
    | skip => exact wp_skip ⟨R, ρ, s, hsr, h⟩
    | label l => exact wp_label ⟨R, ρ, s, hsr, h⟩
    | ret => exact wp_ret ⟨R, ρ, s, hsr, h⟩
    | exit id => exact wp_exit ⟨R, ρ, s, hsr, h⟩
    | seq x y =>
      simp only [exec] at h
      refine wp_seq (wp_mono (ih fx x s _ rf R ρ a w hb hsr h) fun e a' w' hq => ?_)
      cases e with
      | normal =>
        obtain ⟨R', ρ', s', h1, h2⟩ := hq
        exact ih fx y s' k rf R' ρ' a' w' hb h1 h2
      | exit id => exact hq
      | ret => exact hq
      | goto l => exact hq
      | panic c => exact hq
      | outgrown => exact hq
    | cond c x y =>
      simp only [exec] at h
      have hc := hsr.ev c
      generalize hv : a.eval c = v at hc
      cases hcv : ev s.env c <;> simp only [hcv] at h <;> try exact h.elim
      · rename_i u
        cases u <;> simp only at h <;> try exact h.elim
        rename_i b
        simp only [ev] at hcv
        rw [hcv] at hc
        have hvb : v = .bool b := by cases hc; rfl
        subst hvb
        cases c with
        | tmp t =>
          simp only [Tree.holds] at h
          have ht : look s.env t = .lit (.bool b) := hcv
          have hsr' := hsr.known ht
          cases b with
          | true => exact wp_cond hv (ih fx x ⟨(t, .kb true) :: s.env, s.mem⟩ k rf R ρ a w hb hsr' (h.1 rfl))
          | false => exact wp_cond hv (ih fx y ⟨(t, .kb false) :: s.env, s.mem⟩ k rf R ρ a w hb hsr' (h.2 rfl))
        | _ => exact h.elim
      · rename_i b
        simp only [ev] at hcv
        rw [hcv] at hc
        have hvb := kb_inv hc
        subst hvb
        cases b with
        | true => exact wp_cond hv (ih fx x s k rf R ρ a w hb hsr h)
        | false => exact wp_cond hv (ih fx y s k rf R ρ a w hb hsr h)
    | block id c =>
      simp only [exec] at h
      refine wp_block (wp_mono (ih fx c s _ rf R ρ a w hb hsr h) fun e a' w' hq => ?_)
      cases e with
      | normal => exact hq
      | exit id' =>
        obtain ⟨R', ρ', s', h1, h2⟩ := hq
        simp only at h2
        simp only [Exit.inBlock]
        by_cases he : id' = id
        · subst he
          simp only [Nat.beq_refl, cond_true] at h2
          rw [if_pos rfl]
          exact ⟨R', ρ', s', h1, h2⟩
        · have : Nat.beq id' id = false := by
            cases hbb : Nat.beq id' id with
            | false => rfl
            | true => exact absurd (Nat.eq_of_beq_eq_true hbb) he
          simp only [this, cond_false] at h2
          rw [if_neg he]
          exact ⟨R', ρ', s', h1, h2⟩
      | ret => exact hq
      | goto l => exact hq
      | panic c => exact hq
      | outgrown => exact hq
    | loop c =>
      -- rounds, as many as there is fuel
      have key : ∀ (m : Nat), m ≤ n + 1 → ∀ (s : St) (R : Nat → Prop) (ρ : Loc) (a : Act) (w : World), SR rf R ρ (look s.env) s.mem a w fx.nt → (exec C m fx (.loop c) s k).holds Q → Code.rounds C.P c (KQ rf Q k fx.nt) m a w := by
        intro m
        induction m with
        | zero => intro _ s R ρ a w _ h; exact h.elim
        | succ m ihm =>
          intro hm s R ρ a w hsr h
          simp only [exec] at h
          rw [rounds_succ]
          cases hg : gcAt C fx c s with
          | none => simp [hg, Tree.holds] at h
          | some s0 =>
          simp only [hg] at h
          have hgc : ∀ (s s0 : St) (R : Nat → Prop) (ρ : Loc) (a : Act) (w : World), SR rf R ρ (look s.env) s.mem a w fx.nt → gcAt C fx c s = some s0 → ∃ ρ'', SR rf R ρ'' (look s0.env) s0.mem a w fx.nt := by
            intro s s0 R ρ a w hsr hg
            unfold gcAt at hg
            cases hr : firstReg c with
            | none => simp [hr] at hg
            | some r =>
              simp only [hr] at hg
              cases hh : C.hints fx.f r with
              | none => simp [hh] at hg; subst hg; exact ⟨ρ, hsr⟩
              | some lm =>
                obtain ⟨live, mm⟩ := lm
                simp only [hh] at hg
                cases hm9 : Nat.beq mm 999 with
                | false =>
                  simp only [hm9, cond_false] at hg
                  cases hg0 : gc live (fx.base + mm) s with
                  | none => simp [hg0] at hg
                  | some s1 =>
                    simp only [hg0, Option.some.injEq] at hg
                    subst hg
                    obtain ⟨ρ1, h1⟩ := gc_SR hsr hg0 (by omega)
                    exact ⟨ρ1, forget_SR (nils_SR h1)⟩
                | true =>
                  simp only [hm9, cond_true] at hg
                  cases hg0 : gcC live fx.base s with
                  | none => simp [hg0] at hg
                  | some s1 =>
                    simp only [hg0, Option.some.injEq] at hg
                    subst hg
                    rw [← hb] at hg0
                    obtain ⟨ρ1, h1⟩ := gcC_SR hsr hg0
                    exact ⟨ρ1, forget_SR (nils_SR h1)⟩
          obtain ⟨ρ0, hsr0⟩ := hgc s s0 R ρ a w hsr hg
          have body := ihs m (by omega) fx c s0 _ rf R ρ0 a w hb hsr0 h
          refine wp_mono body fun e a' w' hq => ?_
          cases e with
          | normal =>
            obtain ⟨R', ρ', s', h1, h2⟩ := hq
            simp only [Exit.then]
            cases hg1 : gcAt C fx c s' with
            | none => simp [hg1, Tree.holds] at h2
            | some s1 =>
              simp only [hg1] at h2
              obtain ⟨ρ1, h3⟩ := hgc s' s1 R' ρ' a' w' h1 hg1
              exact ihm (by omega) s1 R' ρ1 a' w' h3 h2
          | exit id => exact hq
          | ret => exact hq
          | goto l => exact hq
          | panic c => exact hq
          | outgrown => exact hq
      exact wp_loop_rounds (n + 1) (key (n + 1) (Nat.le_refl _) s R ρ a w hsr h)
    | region id ops draw =>
      simp only [exec] at h
      have hinl : InlOk C Q (fun g args mem k' => match C.wr g args mem with
        | some (r, mem', cs) => guards cs (k' r mem')
        | none => match C.P.funcs[g]? with
        | some fn => (match fn.body with
          | some body => exec C n ⟨g, fn.ntmps, mem.length⟩ body ⟨bindArgs 0 args, mem⟩ fun e s' => match e with
            | .exit _ => .fail 9
            | _ => (match resAll C s'.env s'.mem fn.results.toList with
              | some vs => k' (results1 vs) (cutBack mem.length (results1 vs) s'.mem)
              | none => .fail 8)
          | none => .fail 10)
        | none => .fail 11) := by
        intro rf R ρ w mem g args vs k' hm hl hv hq
        cases hmu : C.wr g args mem with
        | some p =>
          obtain ⟨r, mem', cs⟩ := p
          simp only [hmu] at hq
          obtain ⟨hcs, hq⟩ := guards_holds hq
          obtain ⟨m1, m2, m3⟩ := hMu g args mem r mem' cs hmu hcs
          refine ⟨m1, (m2 rf R ρ w vs hm hl hv).mono fun e w' h' => ?_⟩
          obtain ⟨v, R', ρ', k1, k2, k3, k4⟩ := h'
          exact ⟨v, r, R', ρ', mem', k1, k2, k3, m3, k4, hq⟩
        | none =>
        simp only [hmu] at hq
        cases hf : C.P.funcs[g]? with
        | none => simp [hf, Tree.holds] at hq
        | some fn =>
          cases hbd : fn.body with
          | none => simp [hf, hbd, Tree.holds] at hq
          | some body =>
            simp only [hf, hbd] at hq
            refine ⟨⟨fn, hf, hN g fn hf, by simp [hbd]⟩, calls_of_wp hf hbd ?_⟩
            have hsr0 := SR.enter (hm.start) hl hv fn.ntmps
            have fin : ∀ (R' : Nat → Prop) (ρ' : Loc) (s' : St) (a' : Act) (w' : World), SR ⟨w, ρ, R, rf.Old, mem.length⟩ R' ρ' (look s'.env) s'.mem a' w' fn.ntmps →
                (match resAll C s'.env s'.mem fn.results.toList with
                  | some vs => k' (results1 vs) (cutBack mem.length (results1 vs) s'.mem)
                  | none => .fail 8).holds Q →
                a'.defers = [] ∧ ∃ v, (results fn a'.tmps).run C.P w' = .ok v w' ∧ ∃ v0 av R'' ρ'' mem', Ending.returned v = .returned v0 ∧ MS rf R'' ρ'' mem' w' ∧ PostB R ρ w R'' ρ'' w' mem.length ∧ mem.length ≤ mem'.length ∧ VR R'' ρ'' w' av v0 ∧ (k' av mem').holds Q := by
              intro R' ρ' s' a' w' h1 h2
              cases hra : resAll C s'.env s'.mem fn.results.toList with
              | none => simp [hra, Tree.holds] at h2
              | some avs =>
                simp only [hra] at h2
                obtain ⟨v, e1, e2⟩ := results_run h1 hra
                refine ⟨h1.df, v, e1, ?_⟩
                have hms := hm.back h1.ms
                have hlen : mem.length ≤ s'.mem.length := h1.ms.base
                unfold cutBack at h2
                cases hcb : (locsBelow mem.length (results1 avs) && (s'.mem.take mem.length).all (slotBelow mem.length)) with
                | false =>
                  simp only [hcb, cond_false] at h2
                  exact ⟨v, _, R', ρ', _, rfl, hms, ⟨h1.ms.R0, h1.ms.R0k, h1.ms.szk, h1.ms.ρ0⟩, hlen, e2, h2⟩
                | true =>
                  simp only [hcb, cond_true] at h2
                  simp only [Bool.and_eq_true] at hcb
                  refine ⟨v, _, R', upTo mem.length ρ', _, rfl, hms.cut hm.base hlen hcb.2, ⟨h1.ms.R0, h1.ms.R0k, h1.ms.szk, fun b hb => ?_⟩, by simp; omega, e2.cut hcb.1, h2⟩
                  have := h1.ms.ρ0 b hb
                  simp only [upTo, hb, if_true]
                  exact this
            refine wp_mono (ih ⟨g, fn.ntmps, mem.length⟩ body ⟨bindArgs 0 args, mem⟩ _ ⟨w, ρ, R, rf.Old, mem.length⟩ R ρ _ w rfl hsr0 hq) fun e a' w' hkq => ?_
            cases e with
            | normal => obtain ⟨R', ρ', s', h1, h2⟩ := hkq; exact fin R' ρ' s' a' w' h1 h2
            | ret => obtain ⟨R', ρ', s', h1, h2⟩ := hkq; exact fin R' ρ' s' a' w' h1 h2
            | exit id => obtain ⟨R', ρ', s', h1, h2⟩ := hkq; exact h2.elim
            | goto l => exact hkq.elim
            | panic c => exact hkq.elim
            | outgrown => exact hkq.elim
      have hsr' : SR rf R ρ (look s.env) (s.mem ++ List.replicate (nSlots C ops.toList) none) a w fx.nt := ⟨hsr.ms.extend _, hsr.tm, hsr.sz, hsr.df⟩
      have hfree : ∀ b, s.mem.length ≤ b → ρ b = none := fun b hb => by
        cases hx : ρ b with
        | none => rfl
        | some x => have := hsr.ms.dom b x hx; omega
      have hQ : ∀ R ρ s a w, SR rf R ρ (look s.env) s.mem a w fx.nt → (k .normal s).holds Q → KQ rf Q k fx.nt .normal a w := fun R ρ s a w h1 h2 => ⟨R, ρ, s, h1, h2⟩
      cases draw with
      | true => exact draw_sound hC hM hQ (s := ⟨s.env, s.mem ++ List.replicate (nSlots C ops.toList) none⟩) (m0 := s.mem.length) hsr' (by simp) hsr.ms.base hfree h
      | false =>
        refine wp_region ?_
        have := opsR_sound hC hinl hQ ops.toList [] 0 s.mem.length ⟨s.env, s.mem ++ List.replicate (nSlots C ops.toList) none⟩ [] R ρ a w rfl rfl hsr' (by simp) hsr.ms.base (fun b hb _ => hfree b hb) h
        rw [List.range_eq_range']
        simpa using this
    | _ => exact h.elim

theorem viewRes_VR (hm : MS rf R ρ mem w) {avs vs : List AV} {tb : List Nat} {g : List Bool} {v : Value} (h : VR R ρ w (results1 avs) v) (hv : viewAll mem avs = some (vs, tb, g)) (hg : ∀ c ∈ g, c = true) :
    VR (fun x => R x ∨ ∃ b ∈ tb, ρ b = some x) (fun _ => none) w (results1 vs) v ∧ (∀ b ∈ tb, ∃ s, getSlot mem b = some s) := by
  by_cases h1 : ∃ a, avs = [a]
  · obtain ⟨a, rfl⟩ := h1
    simp only [viewAll] at hv
    cases h2 : viewTop mem a with
    | none => simp [h2] at hv
    | some p =>
      obtain ⟨v', b, g'⟩ := p
      simp only [h2, List.append_nil, Option.some.injEq, Prod.mk.injEq] at hv
      obtain ⟨rfl, rfl, rfl⟩ := hv
      exact viewTop_VR hm h h2 hg
  · have e1 : results1 avs = .tup avs := by
      rcases avs with _ | ⟨a, _ | ⟨b, t⟩⟩
      · rfl
      · exact absurd ⟨a, rfl⟩ h1
      · rfl
    rw [e1] at h
    cases h with
    | tup us k1 k2 =>
      obtain ⟨m1, m2, m3⟩ := viewAll_VR hm (us := us.toList) hv hg (by simpa using k1) (fun i a u hi hu => by
        have := k2 i a hi
        rw [getD_some (by simpa using hu)] at this
        exact this)
      have e2 : results1 vs = .tup vs := by
        rcases vs with _ | ⟨a, _ | ⟨b, t⟩⟩
        · rfl
        · simp at m1
          rcases avs with _ | ⟨c, _ | ⟨d, t⟩⟩
          · simp at m1
          · exact absurd ⟨c, rfl⟩ h1
          · simp at m1
        · rfl
      rw [e2]
      refine ⟨.tup us (by rw [m1]; exact k1) (fun i c hc => ?_), m3⟩
      have hlt : i < us.size := by rw [k1, ← m1]; exact (List.getElem?_eq_some_iff.1 hc).1
      rw [getD_eq hlt]
      exact m2 i c us[i] hc (by simp [hlt])

/-- the same value, or one that says no more -/
def Fits (x y : AV) : Prop := ∀ (R : Nat → Prop) (ρ : Loc) (w : World) (v : Value), VR R ρ w x v → VR R ρ w y v

theorem Fits.refl (x : AV) : Fits x x := fun _ _ _ _ h => h

/-- THE LAW: what the evaluator comes to is what the call comes to -/
theorem pure_of_run (hC : OrcOk C) (hMu : MutsOk C) (hN : Named C.P) (hM : C.P.follows .mixedOrders = true) (n : Nat) (f : FuncId) (args : List AV) (r : AV) (hr : locsBelow 0 r = true)
    (h : (runF C n f args).holds fun x => Fits x r) : Callable C.P f ∧ PureOk C.P f args r := by
  unfold runF at h
  cases hf : C.P.funcs[f]? with
  | none => simp [hf, Tree.holds] at h
  | some fn =>
    cases hbd : fn.body with
    | none => simp [hf, hbd, Tree.holds] at h
    | some body =>
      simp only [hf, hbd] at h
      refine ⟨⟨fn, hf, hN f fn hf, by simp [hbd]⟩, fun w R vs hR hl hv => calls_of_wp hf hbd ?_⟩
      have hm : MS ⟨w, fun _ => none, R, fun x => x < w.heap.size, 0⟩ R (fun _ => none) [] w :=
        { blk := fun b s hs => (by simp [getSlot] at hs), dom := fun b x hb => (by cases hb), inj := fun b b' x s s' hs => (by simp [getSlot] at hs), lt := fun b x hb => (by cases hb), nold := fun b x s hs => (by simp [getSlot] at hs), oldk := fun x hx => rfl, oldlt := fun x hx => hx,
          nR := fun b x s hs => (by simp [getSlot] at hs), Rlt := hR, R0 := fun x hx => hx, Rn := fun x hx => .inl hx, R0k := fun x hx => rfl, ρ0 := fun b hb => rfl, szk := .refl w, size := Nat.le_refl _, base := Nat.le_refl _ }
      have hsr := SR.enter hm hl hv fn.ntmps
      have fin : ∀ (R' : Nat → Prop) (ρ' : Loc) (s' : St) (a' : Act) (w' : World), SR ⟨w, fun _ => none, R, fun x => x < w.heap.size, 0⟩ R' ρ' (look s'.env) s'.mem a' w' fn.ntmps →
          (match resAll C s'.env s'.mem fn.results.toList with
            | some vs => endT s'.mem vs
            | none => .fail 15).holds (fun x => Fits x r) →
          a'.defers = [] ∧ ∃ v, (results fn a'.tmps).run C.P w' = .ok v w' ∧ ∃ v0, Ending.returned v = .returned v0 ∧ (∀ x, x < w.heap.size → w'.heap[x]? = w.heap[x]?) ∧ (w.heap.size ≤ w'.heap.size ∧ Side w w') ∧
            VR (fun x => R x ∨ (w.heap.size ≤ x ∧ x < w'.heap.size)) (fun _ => none) w' r v0 := by
        intro R' ρ' s' a' w' h1 h2
        cases hra : resAll C s'.env s'.mem fn.results.toList with
        | none => simp [hra, Tree.holds] at h2
        | some avs =>
          simp only [hra] at h2
          unfold endT at h2
          cases hvw : viewAll s'.mem avs with
          | none => simp [hvw, Tree.holds] at h2
          | some p =>
          obtain ⟨vs', tb, gv⟩ := p
          simp only [hvw] at h2
          obtain ⟨hg, h2⟩ := guards_holds h2
          simp only [Tree.holds] at h2
          obtain ⟨v, e1, e2⟩ := results_run h1 hra
          obtain ⟨e2, e5⟩ := viewRes_VR h1.ms e2 hvw hg
          refine ⟨h1.df, v, e1, v, rfl, h1.ms.oldk, ⟨h1.ms.size, h1.ms.szk.1⟩, ?_⟩
          have e3 := (h2 _ _ w' v e2)
          refine e3.mono (fun x hx => ?_) (fun _ _ => rfl) (.refl w') (fun _ _ h => h)
          rcases hx with hx | ⟨b, hb, hx⟩
          · rcases h1.ms.Rn x hx with h3 | h3
            · exact .inl h3
            · exact .inr ⟨Nat.le_of_not_lt h3, h1.ms.Rlt x hx⟩
          · obtain ⟨s, hs⟩ := e5 b hb
            exact .inr ⟨Nat.le_of_not_lt (h1.ms.nold b x s hs hx), h1.ms.lt b x hx⟩
      refine wp_mono (exec_sound hC hMu hN hM n ⟨f, fn.ntmps, 0⟩ body ⟨bindArgs 0 args, []⟩ _ _ R _ _ w rfl hsr h) fun e a' w' hkq => ?_
      cases e with
      | normal => obtain ⟨R', ρ', s', h1, h2⟩ := hkq; exact fin R' ρ' s' a' w' h1 h2
      | ret => obtain ⟨R', ρ', s', h1, h2⟩ := hkq; exact fin R' ρ' s' a' w' h1 h2
      | exit id => obtain ⟨R', ρ', s', h1, h2⟩ := hkq; exact h2.elim
      | goto l => exact hkq.elim
      | panic c => exact hkq.elim
      | outgrown => exact hkq.elim

end
end Go.Flat
end

section
/- Codes of typed values, tables of contracts, and the ends of ways. -/
set_option linter.unusedSimpArgs false
set_option linter.unusedVariables false
namespace Go.Flat
open Go

/-- cells that say no more than others, and that are shared values -/
def FitsL (cs cs' : List AV) : Prop :=
  cs'.length = cs.length ∧ ∀ (i : Nat) (c c' : AV), cs[i]? = some c → cs'[i]? = some c' → Fits c c' ∧ c'.leaf = true ∧ noLoc c' = true

theorem FitsL.nil : FitsL [] [] := ⟨rfl, fun i c c' h => by simp at h⟩
theorem FitsL.cons {a a' : AV} {cs cs' : List AV} (h : Fits a a') (hl : a'.leaf = true) (hn : noLoc a' = true) (hs : FitsL cs cs') : FitsL (a :: cs) (a' :: cs') := by
  refine ⟨by simp [hs.1], fun i c c' h1 h2 => ?_⟩
  cases i with
  | zero => simp at h1 h2; subst h1; subst h2; exact ⟨h, hl, hn⟩
  | succ i => simp at h1 h2; exact hs.2 i c c' h1 h2

theorem FitsL.append {a a' b b' : List AV} (h : FitsL a a') (h' : FitsL b b') : FitsL (a ++ b) (a' ++ b') := by
  refine ⟨by simp [h.1, h'.1], fun i c c' h1 h2 => ?_⟩
  rw [List.getElem?_append] at h1 h2
  rw [h.1] at h2
  split at h1
  · rename_i hlt; simp only [hlt, if_true] at h2; exact h.2 i c c' h1 h2
  · rename_i hlt; simp only [hlt, if_false] at h2; exact h'.2 _ c c' h1 h2

theorem FitsL.get {cs cs' : List AV} (h : FitsL cs cs') {i : Nat} {c' : AV} (hc : cs'[i]? = some c') : ∃ c, cs[i]? = some c ∧ Fits c c' ∧ c'.leaf = true ∧ noLoc c' = true := by
  have hlt := (List.getElem?_eq_some_iff.1 hc).1
  have hlt' : i < cs.length := by rw [← h.1]; exact hlt
  exact ⟨cs[i], by simp [hlt'], h.2 i _ _ (by simp [hlt']) hc⟩

theorem Fits.trans {a b c : AV} (h : Fits a b) (h' : Fits b c) : Fits a c := fun R ρ w v hv => h' R ρ w v (h R ρ w v hv)

theorem Fits.agg {cs cs' : List AV} (h : FitsL cs cs') : Fits (.agg cs) (.agg cs') := fun R ρ w v hv => by
  cases hv with
  | agg vs h1 h2 h3 =>
    refine .agg vs (by rw [h1, h.1]) (fun i c hc => ?_) (fun i c hc => ?_)
    · obtain ⟨_, _, _, h5, _⟩ := h.get hc; exact h5
    · obtain ⟨c0, hc0, h4, _⟩ := h.get hc; exact h4 R ρ w _ (h3 i c0 hc0)

theorem Fits.vsl {kn : Bool} {esz len : Nat} {rows rows' : Nat → List AV} (kn' : Bool) (h : ∀ r, r < len → FitsL (rows r) (rows' r)) : Fits (.vsl kn esz len rows) (.vsl kn' esz len rows') := fun R ρ w v hv => by
  cases hv with
  | vsl0 => exact .vsl0
  | vsl vals hR hl h0 hrl hlf hcell hvr =>
    refine .vsl vals hR hl h0 (fun r hr => by rw [(h r hr).1]; exact hrl r hr) (fun r j c hr hc => ?_) (fun r j c hr hc => ?_) (fun r j c hr hc => ?_)
    · obtain ⟨_, _, _, h5⟩ := (h r hr).get hc; exact h5
    · obtain ⟨c0, hc0, _⟩ := (h r hr).get hc; exact hcell r j c0 hr hc0
    · obtain ⟨c0, hc0, h4, _⟩ := (h r hr).get hc; exact h4 R ρ w _ (hvr r j c0 hr hc0)

theorem Fits.nsl {kn : Bool} {esz : Nat} {rows : Nat → List AV} : Fits .nsl (.vsl kn esz 0 rows) := fun R ρ w v hv => by
  cases hv with
  | nsl => exact .vsl0

theorem Fits.ki {k : IntKind} {n : Int} : Fits (.ki k n) (.lit (.int k n)) := fun R ρ w v hv => by
  cases hv with
  | ki h => exact .lit h
theorem Fits.kb {b : Bool} : Fits (.kb b) (.lit (.bool b)) := fun R ρ w v hv => by
  cases hv with
  | kb => exact .lit trivial

theorem PureOk.fits {P : Program} {f : FuncId} {args args' : List AV} {r r' : AV} (hl : args'.length = args.length) (ha : ∀ (i : Nat) (a a' : AV), args[i]? = some a → args'[i]? = some a' → Fits a a')
    (hr : Fits r r') (h : PureOk P f args' r) : PureOk P f args r' := fun w R vs hR hs hv => by
  refine (h w R vs hR (by rw [hl]; exact hs) (fun i a' hi => ?_)).mono fun e w' h' => ?_
  · have hlt : i < args.length := by rw [← hl]; exact (List.getElem?_eq_some_iff.1 hi).1
    exact ha i args[i] a' (by simp [hlt]) hi _ _ _ _ (hv i args[i] (by simp [hlt]))
  · obtain ⟨v, h1, h2, h3, h4⟩ := h'
    exact ⟨v, h1, h2, h3, hr _ _ _ _ h4⟩

/-- a contract: what a call comes to -/
def Con (P : Program) (f : FuncId) (args : List AV) (r : AV) : Prop := (Callable P f ∧ PureOk P f args r) ∨ ExtOk P f args r

theorem Con.args {P : Program} {f : FuncId} {args args' : List AV} {r : AV} (hl : args'.length = args.length) (ha : ∀ (i : Nat) (a a' : AV), args[i]? = some a → args'[i]? = some a' → Fits a a') (h : Con P f args' r) : Con P f args r := by
  rcases h with ⟨h1, h2⟩ | ⟨h1, h2⟩
  · exact .inl ⟨h1, h2.fits hl ha (Fits.refl r)⟩
  · refine .inr ⟨h1, fun w R vs hs hv => h2 w R vs (by rw [hl]; exact hs) (fun i a' hi => ?_)⟩
    have hlt : i < args.length := by rw [← hl]; exact (List.getElem?_eq_some_iff.1 hi).1
    exact ha i args[i] a' (by simp [hlt]) hi _ _ _ _ (hv i args[i] (by simp [hlt]))

/-- a code: how a value of the evaluator is read as one of a type, and how it is written -/
structure Cdc (α : Type) where
  dec : AV → Option (α × List Bool)
  enc : α → AV
  ok : ∀ a x g, dec a = some (x, g) → (∀ c ∈ g, c = true) → Fits a (enc x)

structure Ent where
  f : FuncId
  run : List AV → Option (AV × List Bool)

def Ent.ok (P : Program) (e : Ent) : Prop := ∀ args r g, e.run args = some (r, g) → (∀ c ∈ g, c = true) → Con P e.f args r

def orcOf : List Ent → Orc
  | [], _, _ => none
  | e :: t, f, args => bif Nat.beq e.f f then e.run args else orcOf t f args

def isOf : List Ent → FuncId → Bool
  | [], _ => false
  | e :: t, f => Nat.beq e.f f || isOf t f

theorem orcOf_ok {P : Program} : ∀ {t : List Ent}, (∀ e ∈ t, e.ok P) → ∀ f args r g, orcOf t f args = some (r, g) → (∀ c ∈ g, c = true) → Con P f args r
  | [], _, _, _, _, _, h, _ => by simp [orcOf] at h
  | e :: t, ht, f, args, r, g, h, hg => by
    unfold orcOf at h
    cases hq : Nat.beq e.f f with
    | true =>
      simp only [hq, cond_true] at h
      have := Nat.eq_of_beq_eq_true hq
      subst this
      exact ht e List.mem_cons_self args r g h hg
    | false =>
      simp only [hq, cond_false] at h
      exact orcOf_ok (fun e he => ht e (List.mem_cons_of_mem _ he)) f args r g h hg

abbrev Hints := FuncId → Nat → Option (List Nat × Nat)
def ctxOf (P : Program) (t : List Ent) (hints : Hints) : Ctx := { P, orc := orcOf t, isOrc := isOf t, hints, wr := fun _ _ _ => none, nils := fun _ _ => [] }

theorem ctxOf_ok {P : Program} {t : List Ent} {hints : Hints} (h : ∀ e ∈ t, e.ok P) : OrcOk (ctxOf P t hints) := ⟨fun f args r g _ h1 h2 => orcOf_ok h f args r g h1 h2, fun _ _ h => (by cases h), fun _ _ h => (by cases h), fun _ _ _ _ _ h => absurd rfl h⟩

theorem all_nil {P : Program} : ∀ e ∈ ([] : List Ent), e.ok P := fun e he => by cases he
theorem all_cons {P : Program} {e : Ent} {t : List Ent} (h : e.ok P) (ht : ∀ e ∈ t, e.ok P) : ∀ x ∈ e :: t, x.ok P := fun x hx => by
  rcases List.mem_cons.1 hx with rfl | hx
  · exact h
  · exact ht x hx
theorem all_app {P : Program} {s t : List Ent} (h : ∀ e ∈ s, e.ok P) (ht : ∀ e ∈ t, e.ok P) : ∀ x ∈ s ++ t, x.ok P := fun x hx => by
  rcases List.mem_append.1 hx with hx | hx
  · exact h x hx
  · exact ht x hx

section ents
variable {α β γ δ : Type}
def ent0 (f : FuncId) (spec : AV) : Ent := ⟨f, fun | [] => some (spec, []) | _ => none⟩
def ent1 (f : FuncId) (A : Cdc α) (spec : α → AV) : Ent :=
  ⟨f, fun | [a] => (match A.dec a with | some (x, g) => some (spec x, g) | none => none) | _ => none⟩
def ent2 (f : FuncId) (A : Cdc α) (B : Cdc β) (spec : α → β → AV) : Ent :=
  ⟨f, fun | [a, b] => (match A.dec a with | some (x, g) => (match B.dec b with | some (y, h) => some (spec x y, g ++ h) | none => none) | none => none) | _ => none⟩
def ent3 (f : FuncId) (A : Cdc α) (B : Cdc β) (D : Cdc γ) (spec : α → β → γ → AV) : Ent :=
  ⟨f, fun | [a, b, c] => (match A.dec a with | some (x, g) => (match B.dec b with | some (y, h) => (match D.dec c with | some (z, i) => some (spec x y z, g ++ (h ++ i)) | none => none) | none => none) | none => none) | _ => none⟩
def ent4 (f : FuncId) (A : Cdc α) (B : Cdc β) (D : Cdc γ) (E : Cdc δ) (spec : α → β → γ → δ → AV) : Ent :=
  ⟨f, fun | [a, b, c, d] => (match A.dec a with | some (x, g) => (match B.dec b with | some (y, h) => (match D.dec c with | some (z, i) => (match E.dec d with | some (u, j) => some (spec x y z u, g ++ (h ++ (i ++ j))) | none => none) | none => none) | none => none) | none => none) | _ => none⟩

variable {P : Program} {f : FuncId} {A : Cdc α} {B : Cdc β} {D : Cdc γ} {E : Cdc δ}

theorem ent0_ok {spec : AV} (h : Con P f [] spec) : (ent0 f spec).ok P := fun args r g hr hg => by
  unfold ent0 at hr
  cases args with
  | nil => simp at hr; obtain ⟨rfl, _⟩ := hr; exact h
  | cons _ _ => simp at hr

theorem ent1_ok {spec : α → AV} (h : ∀ x, Con P f [A.enc x] (spec x)) : (ent1 f A spec).ok P := fun args r g hr hg => by
  unfold ent1 at hr
  rcases args with _ | ⟨a, _ | ⟨b, t⟩⟩ <;> simp only at hr
  · cases hr
  · cases h1 : A.dec a with
    | none => simp [h1] at hr
    | some p =>
      obtain ⟨x, g1⟩ := p
      simp only [h1, Option.some.injEq, Prod.mk.injEq] at hr
      obtain ⟨rfl, rfl⟩ := hr
      refine Con.args (args' := [A.enc x]) rfl (fun i a1 a1' hi hi' => ?_) (h x)
      rcases i with _ | i <;> simp at hi hi'
      subst hi; subst hi'
      exact A.ok _ _ _ h1 hg
  · cases hr

theorem ent2_ok {spec : α → β → AV} (h : ∀ x y, Con P f [A.enc x, B.enc y] (spec x y)) : (ent2 f A B spec).ok P := fun args r g hr hg => by
  unfold ent2 at hr
  rcases args with _ | ⟨a, _ | ⟨b, _ | ⟨c, t⟩⟩⟩ <;> simp only at hr
  · cases hr
  · cases hr
  · cases h1 : A.dec a with
    | none => simp [h1] at hr
    | some p =>
      obtain ⟨x, g1⟩ := p
      cases h2 : B.dec b with
      | none => simp [h1, h2] at hr
      | some q =>
        obtain ⟨y, g2⟩ := q
        simp only [h1, h2, Option.some.injEq, Prod.mk.injEq] at hr
        obtain ⟨rfl, rfl⟩ := hr
        refine Con.args (args' := [A.enc x, B.enc y]) rfl (fun i a1 a1' hi hi' => ?_) (h x y)
        rcases i with _ | _ | i <;> simp at hi hi'
        · subst hi; subst hi'; exact A.ok _ _ _ h1 (fun c hc => hg c (by simp [hc]))
        · subst hi; subst hi'; exact B.ok _ _ _ h2 (fun c hc => hg c (by simp [hc]))
  · cases hr

theorem ent3_ok {spec : α → β → γ → AV} (h : ∀ x y z, Con P f [A.enc x, B.enc y, D.enc z] (spec x y z)) : (ent3 f A B D spec).ok P := fun args r g hr hg => by
  unfold ent3 at hr
  rcases args with _ | ⟨a, _ | ⟨b, _ | ⟨c, _ | ⟨d, t⟩⟩⟩⟩ <;> simp only at hr
  · cases hr
  · cases hr
  · cases hr
  · cases h1 : A.dec a with
    | none => simp [h1] at hr
    | some p =>
      obtain ⟨x, g1⟩ := p
      cases h2 : B.dec b with
      | none => simp [h1, h2] at hr
      | some q =>
        obtain ⟨y, g2⟩ := q
        cases h3 : D.dec c with
        | none => simp [h1, h2, h3] at hr
        | some q =>
          obtain ⟨z, g3⟩ := q
          simp only [h1, h2, h3, Option.some.injEq, Prod.mk.injEq] at hr
          obtain ⟨rfl, rfl⟩ := hr
          refine Con.args (args' := [A.enc x, B.enc y, D.enc z]) rfl (fun i a1 a1' hi hi' => ?_) (h x y z)
          rcases i with _ | _ | _ | i <;> simp at hi hi'
          · subst hi; subst hi'; exact A.ok _ _ _ h1 (fun c hc => hg c (by simp [hc]))
          · subst hi; subst hi'; exact B.ok _ _ _ h2 (fun c hc => hg c (by simp [hc]))
          · subst hi; subst hi'; exact D.ok _ _ _ h3 (fun c hc => hg c (by simp [hc]))
  · cases hr

theorem ent4_ok {spec : α → β → γ → δ → AV} (h : ∀ x y z u, Con P f [A.enc x, B.enc y, D.enc z, E.enc u] (spec x y z u)) : (ent4 f A B D E spec).ok P := fun args r g hr hg => by
  unfold ent4 at hr
  rcases args with _ | ⟨a, _ | ⟨b, _ | ⟨c, _ | ⟨d, _ | ⟨d', t⟩⟩⟩⟩⟩ <;> simp only at hr
  · cases hr
  · cases hr
  · cases hr
  · cases hr
  · cases h1 : A.dec a with
    | none => simp [h1] at hr
    | some p =>
      obtain ⟨x, g1⟩ := p
      cases h2 : B.dec b with
      | none => simp [h1, h2] at hr
      | some q =>
        obtain ⟨y, g2⟩ := q
        cases h3 : D.dec c with
        | none => simp [h1, h2, h3] at hr
        | some q =>
          obtain ⟨z, g3⟩ := q
          cases h4 : E.dec d with
          | none => simp [h1, h2, h3, h4] at hr
          | some q =>
            obtain ⟨u, g4⟩ := q
            simp only [h1, h2, h3, h4, Option.some.injEq, Prod.mk.injEq] at hr
            obtain ⟨rfl, rfl⟩ := hr
            refine Con.args (args' := [A.enc x, B.enc y, D.enc z, E.enc u]) rfl (fun i a1 a1' hi hi' => ?_) (h x y z u)
            rcases i with _ | _ | _ | _ | i <;> simp at hi hi'
            · subst hi; subst hi'; exact A.ok _ _ _ h1 (fun c hc => hg c (by simp [hc]))
            · subst hi; subst hi'; exact B.ok _ _ _ h2 (fun c hc => hg c (by simp [hc]))
            · subst hi; subst hi'; exact D.ok _ _ _ h3 (fun c hc => hg c (by simp [hc]))
            · subst hi; subst hi'; exact E.ok _ _ _ h4 (fun c hc => hg c (by simp [hc]))
  · cases hr
end ents

/-- the ways on, by name -/
def kSeq {α : Type} (C : Ctx) (n : Nat) (fx : Fx) (b : Code) (k : K α) : K α := fun e s' => match e with
  | .normal => exec C n fx b s' k
  | .exit id => k (.exit id) s'
  | .ret => k .ret s'
def kBlock {α : Type} (id : Nat) (k : K α) : K α := fun e s' => match e with
  | .exit id' => bif Nat.beq id' id then k .normal s' else k (.exit id') s'
  | .normal => k .normal s'
  | .ret => k .ret s'
def kEnd (C : Ctx) (rs : List ResultVar) : K AV := fun e s => match e with
  | .exit _ => .fail 16
  | _ => (match resAll C s.env s.mem rs with
    | some vs => endT s.mem vs
    | none => .fail 15)

theorem holds_node {α : Type} {Q : α → Prop} {c : Bool} {t e : Tree α} (h1 : c = true → t.holds Q) (h2 : c = false → e.holds Q) : (Tree.node c t e).holds Q := ⟨h1, h2⟩
theorem holds_mono {α : Type} {Q Q' : α → Prop} (h : ∀ x, Q x → Q' x) : ∀ {t : Tree α}, t.holds Q → t.holds Q'
  | .leaf x, ht => h x ht
  | .node c t e, ht => ⟨fun hc => holds_mono h (ht.1 hc), fun hc => holds_mono h (ht.2 hc)⟩
  | .fail _, ht => ht.elim

/-- numbers and signs as cells -/
def int? (k : IntKind) : AV → Option Int
  | .lit (.int k' n) => bif decide (k' = k) then some n else none
  | .ki k' n => bif decide (k' = k) then some n else none
  | _ => none
def bool? : AV → Option Bool
  | .lit (.bool n) => some n
  | .kb n => some n
  | _ => none

theorem int?_ok {k : IntKind} {a : AV} {n : Int} (h : int? k a = some n) : Fits a (.lit (.int k n)) := by
  unfold int? at h
  split at h
  · rename_i k' m
    cases hq : decide (k' = k) with
    | false => simp [hq] at h
    | true => have := of_decide_eq_true hq; subst this; simp at h; subst h; exact Fits.refl _
  · rename_i k' m
    cases hq : decide (k' = k) with
    | false => simp [hq] at h
    | true => have := of_decide_eq_true hq; subst this; simp at h; subst h; exact Fits.ki
  · cases h
theorem bool?_ok {a : AV} {n : Bool} (h : bool? a = some n) : Fits a (.lit (.bool n)) := by
  unfold bool? at h
  split at h
  · cases h; exact Fits.refl _
  · cases h; exact Fits.kb
  · cases h

def cInt (k : IntKind) : Cdc Int := ⟨fun a => (match int? k a with | some n => some (n, []) | none => none), fun n => .lit (.int k n), fun a x g h _ => by
  cases h1 : int? k a with
  | none => simp [h1] at h
  | some n => simp [h1] at h; obtain ⟨rfl, _⟩ := h; exact int?_ok h1⟩
def cBool : Cdc Bool := ⟨fun a => (match bool? a with | some n => some (n, []) | none => none), fun n => .lit (.bool n), fun a x g h _ => by
  cases h1 : bool? a with
  | none => simp [h1] at h
  | some n => simp [h1] at h; obtain ⟨rfl, _⟩ := h; exact bool?_ok h1⟩

/-- rows of cells as values of a type -/
structure Row (α : Type) where
  n : Nat
  d : α
  dec : List AV → Option (α × List Bool)
  cells : α → List AV
  ok : ∀ a x g, dec a = some (x, g) → (∀ c ∈ g, c = true) → FitsL a (cells x)

def Row.agg {α : Type} (r : Row α) : Cdc α := ⟨fun | .agg cs => r.dec cs | _ => none, fun x => .agg (r.cells x), fun a x g h hg => by
  split at h
  · exact Fits.agg (r.ok _ _ _ h hg)
  · cases h⟩

def decRow {α : Type} (r : Row α) (cs : List AV) : α := match r.dec cs with | some (x, _) => x | none => r.d
def okRow {α : Type} (r : Row α) (cs : List AV) : Bool := match r.dec cs with | some (_, g) => g.all id | none => false

def decKn {α : Type} (r : Row α) (rows : Nat → List AV) : Nat → Nat → Option (List α × List Bool)
  | 0, _ => some ([], [])
  | n + 1, i => match r.dec (rows i) with
    | some (x, g) => (match decKn r rows n (i + 1) with
      | some (l, h) => some (x :: l, g ++ h)
      | none => none)
    | none => none

def Row.rows {α : Type} (r : Row α) (xs : List α) : Nat → List AV := fun i => r.cells (xs.getD i r.d)
def Row.sl {α : Type} (r : Row α) (xs : List α) : AV := .vsl false r.n xs.length (r.rows xs)

def Row.decSl {α : Type} (r : Row α) : AV → Option (List α × List Bool)
  | .nsl => some ([], [])
  | .vsl true esz len rows => bif Nat.beq esz r.n then decKn r rows len 0 else none
  | .vsl false esz len rows => bif Nat.beq esz r.n then some ((List.range len).map (fun i => decRow r (rows i)), [(List.range len).all fun i => okRow r (rows i)]) else none
  | _ => none

theorem decKn_ok {α : Type} {r : Row α} {rows : Nat → List AV} : ∀ (n i : Nat) (l : List α) (g : List Bool), decKn r rows n i = some (l, g) → (∀ c ∈ g, c = true) → l.length = n ∧ ∀ j, j < n → FitsL (rows (i + j)) (r.cells (l.getD j r.d))
  | 0, i, l, g, h, _ => by simp [decKn] at h; obtain ⟨rfl, _⟩ := h; exact ⟨rfl, fun j hj => by omega⟩
  | n + 1, i, l, g, h, hg => by
    simp only [decKn] at h
    cases h1 : r.dec (rows i) with
    | none => simp [h1] at h
    | some p =>
      obtain ⟨x, g1⟩ := p
      cases h2 : decKn r rows n (i + 1) with
      | none => simp [h1, h2] at h
      | some q =>
        obtain ⟨l2, g2⟩ := q
        simp [h1, h2] at h
        obtain ⟨rfl, rfl⟩ := h
        obtain ⟨e1, e2⟩ := decKn_ok n (i + 1) l2 g2 h2 (fun c hc => hg c (by simp [hc]))
        refine ⟨by simp [e1], fun j hj => ?_⟩
        cases j with
        | zero => simpa using r.ok _ _ _ h1 (fun c hc => hg c (by simp [hc]))
        | succ j => have := e2 j (by omega); rw [show i + (j + 1) = i + 1 + j by omega]; simpa using this

theorem decRow_ok {α : Type} {r : Row α} {cs : List AV} (h : okRow r cs = true) : FitsL cs (r.cells (decRow r cs)) := by
  unfold okRow at h
  unfold decRow
  cases h1 : r.dec cs with
  | none => simp [h1] at h
  | some p =>
    obtain ⟨x, g⟩ := p
    simp only [h1] at h ⊢
    exact r.ok _ _ _ h1 (fun c hc => by have := List.all_eq_true.1 h c hc; simpa using this)

def Row.list {α : Type} (r : Row α) : Cdc (List α) := ⟨r.decSl, r.sl, fun a x g h hg => by
  unfold Row.decSl at h
  split at h
  · simp at h; obtain ⟨rfl, _⟩ := h; exact Fits.nsl
  · rename_i esz len rows
    cases hq : Nat.beq esz r.n with
    | false => simp [hq] at h
    | true =>
      have := Nat.eq_of_beq_eq_true hq
      subst this
      simp only [hq, cond_true] at h
      obtain ⟨e1, e2⟩ := decKn_ok len 0 x g h hg
      unfold Row.sl
      rw [e1]
      exact Fits.vsl _ fun j hj => by have := e2 j hj; simpa [Row.rows] using this
  · rename_i esz len rows
    cases hq : Nat.beq esz r.n with
    | false => simp [hq] at h
    | true =>
      have := Nat.eq_of_beq_eq_true hq
      subst this
      simp only [hq, cond_true, Option.some.injEq, Prod.mk.injEq] at h
      obtain ⟨rfl, rfl⟩ := h
      have hall := hg _ List.mem_cons_self
      unfold Row.sl
      simp only [List.length_map, List.length_range]
      refine Fits.vsl _ fun j hj => ?_
      have := List.all_eq_true.1 hall j (by simp [hj])
      have h2 := decRow_ok this
      simpa [Row.rows, hj] using h2
  · cases h⟩

/-- what is written is read -/
theorem decSl_map {α : Type} (r : Row α) (xs : List α) (rows : Nat → List AV) (h : ∀ i, i < xs.length → r.dec (rows i) = some (xs.getD i r.d, [])) :
    (List.range xs.length).map (fun i => decRow r (rows i)) = xs ∧ ((List.range xs.length).all fun i => okRow r (rows i)) = true := by
  constructor
  · apply List.ext_getElem?
    intro i
    by_cases hi : i < xs.length
    · simp [hi, decRow, h i hi]
    · simp [hi]
  · rw [List.all_eq_true]
    intro i hi
    have hi : i < xs.length := by simpa using hi
    simp [okRow, h i hi]

end Go.Flat
end

section
/- From a run of the evaluator to a contract; what values that stand for something are like. -/
set_option linter.unusedSimpArgs false
set_option linter.unusedVariables false
namespace Go.Flat
open Go

/-- a value of the evaluator that some value of the model fits -/
def Sat (a : AV) : Prop := ∃ (R : Nat → Prop) (ρ : Loc) (w : World) (v : Value), VR R ρ w a v

theorem Sat.int {k : IntKind} {n : Int} (h : Sat (.lit (.int k n))) : inK k n = true := by
  obtain ⟨R, ρ, w, v, h⟩ := h
  cases h with
  | lit h => exact h
theorem Sat.cells {cs : List AV} (h : Sat (.agg cs)) : ∀ c ∈ cs, Sat c := fun c hc => by
  obtain ⟨R, ρ, w, v, h⟩ := h
  obtain ⟨i, hi⟩ := List.mem_iff_getElem?.1 hc
  cases h with
  | agg vs h1 h2 h3 => exact ⟨R, ρ, w, _, h3 i c hi⟩
theorem Sat.rows {kn : Bool} {esz len : Nat} {rows : Nat → List AV} (h : Sat (.vsl kn esz len rows)) : ∀ r, r < len → ∀ c ∈ rows r, Sat c := fun r hr c hc => by
  obtain ⟨R, ρ, w, v, h⟩ := h
  obtain ⟨i, hi⟩ := List.mem_iff_getElem?.1 hc
  cases h with
  | vsl0 => omega
  | vsl vals hR hl h0 hrl hlf hcell hvr => exact ⟨R, ρ, w, _, hvr r i c hr hi⟩
theorem Sat.len {kn : Bool} {esz len : Nat} {rows : Nat → List AV} (h : Sat (.vsl kn esz len rows)) : len ≤ maxLen := by
  obtain ⟨R, ρ, w, v, h⟩ := h
  cases h with
  | vsl0 => exact Nat.zero_le _
  | vsl vals hR hl h0 hrl hlf hcell hvr => exact hl.1
theorem Sat.fits {a b : AV} (h : Sat a) (hf : Fits a b) : Sat b := by
  obtain ⟨R, ρ, w, v, h⟩ := h
  exact ⟨R, ρ, w, v, hf R ρ w v h⟩

theorem i64_range {n : Int} (h : Sat (.lit (.int .i64 n))) : -9223372036854775808 ≤ n ∧ n ≤ 9223372036854775807 := by
  have := inK_iff.1 h.int
  simp only [IntKind.min, IntKind.max, IntKind.signed, IntKind.bits, if_true] at this
  omega
theorem u64_range {n : Int} (h : Sat (.lit (.int .u64 n))) : 0 ≤ n ∧ n ≤ 18446744073709551615 := by
  have := inK_iff.1 h.int
  simp only [IntKind.min, IntKind.max, IntKind.signed, IntKind.bits, if_true, Bool.false_eq_true, if_false] at this
  omega

/-- the call is one of a function with a body, as a sign -/
def callB (P : Program) (f : FuncId) : Bool := match P.funcs[f]? with
  | some fn => !(fn.name == "runtime.NumGoroutine") && fn.body.isSome
  | none => false

theorem callB_ok {P : Program} {f : FuncId} (h : callB P f = true) : Callable P f := by
  unfold callB at h
  cases hf : P.funcs[f]? with
  | none => simp [hf] at h
  | some fn =>
    simp only [hf, Bool.and_eq_true, Bool.not_eq_true'] at h
    exact ⟨fn, hf, h.1, h.2⟩

theorem PureOk.ranged {P : Program} {f : FuncId} {args : List AV} {r : AV} (h : (∀ a ∈ args, Sat a) → PureOk P f args r) : PureOk P f args r := fun w R vs hR hs hv =>
  h (fun a ha => by
    obtain ⟨i, hi⟩ := List.mem_iff_getElem?.1 ha
    exact ⟨R, _, w, _, hv i a hi⟩) w R vs hR hs hv

theorem ExtOk.ranged {P : Program} {f : FuncId} {args : List AV} {r : AV} (hn : noRefs r = true) (h : (∀ a ∈ args, Sat a) → ExtOk P f args r) : ExtOk P f args r := ⟨hn, fun w R vs hs hv =>
  (h (fun a ha => by
    obtain ⟨i, hi⟩ := List.mem_iff_getElem?.1 ha
    exact ⟨R, _, w, _, hv i a hi⟩)).2 w R vs hs hv⟩

/-- THE ROAD from a run to a contract -/
theorem con_of_run {P : Program} {t : List Ent} {hints : Hints} (ht : ∀ e ∈ t, e.ok P) (hN : Named P) (hM : P.follows .mixedOrders = true) {f : FuncId} (hc : callB P f = true) {args : List AV} {r : AV} (hr : locsBelow 0 r = true)
    (h : (∀ a ∈ args, Sat a) → ∃ n, (runF (ctxOf P t hints) n f args).holds fun x => Fits x r) : Con P f args r :=
  .inl ⟨callB_ok hc, PureOk.ranged fun hs => by
    obtain ⟨n, hn⟩ := h hs
    exact (pure_of_run (C := ctxOf P t hints) (ctxOf_ok ht) (fun _ _ _ _ _ _ h => by cases h) hN hM n f args r hr hn).2⟩

/-- the same where the run comes to one value -/
theorem con_of_leaf {P : Program} {t : List Ent} {hints : Hints} (ht : ∀ e ∈ t, e.ok P) (hN : Named P) (hM : P.follows .mixedOrders = true) {f : FuncId} (hc : callB P f = true) {args : List AV} {r : AV} (hr : locsBelow 0 r = true) (n : Nat)
    (h : runF (ctxOf P t hints) n f args = .leaf r) : Con P f args r :=
  con_of_run ht hN hM hc hr fun _ => ⟨n, by rw [h]; exact Fits.refl r⟩

theorem VR.lit_of {R : Nat → Prop} {ρ : Loc} {w : World} {v u : Value} (h : VR R ρ w (.lit v) u) : u = v := by
  cases h with
  | lit h => rfl

theorem args3 {P : Program} {w : World} {R : Nat → Prop} {vs : Array Value} {a b c : Value} (hs : vs.size = 3) (hv : ∀ (i : Nat) (x : AV), [AV.lit a, AV.lit b, AV.lit c][i]? = some x → VR R (fun _ => none) w x (vs.getD i undef)) : vs = #[a, b, c] := by
  apply Array.ext
  · simp [hs]
  · intro i h1 h2
    have h2' : i < 3 := by simpa using h2
    rcases i with _ | _ | _ | i
    · have := VR.lit_of (hv 0 _ rfl); rw [getD_eq h1] at this; exact this
    · have := VR.lit_of (hv 1 _ rfl); rw [getD_eq h1] at this; exact this
    · have := VR.lit_of (hv 2 _ rfl); rw [getD_eq h1] at this; exact this
    · omega

end Go.Flat
end
