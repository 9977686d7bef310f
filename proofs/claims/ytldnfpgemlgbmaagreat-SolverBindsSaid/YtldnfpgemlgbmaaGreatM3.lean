/- What is proved in the end: SolverBinds returns true whatever the input, and its input reads as it did; no condition.
This text: FlatOpsE, FlatSim, FlatDraw, FlatDraw2, FlatDraw3. -/
import Derived.ChangeKeysEq
import Derived.Laws.StructEq
import Derived.Test.YtldnfpgemlgbmaaGreatM2

section
/- Each operation of the evaluator does what the model's operation does. Part 10: operations on two values. -/
set_option linter.unusedSimpArgs false
set_option linter.unusedVariables false
namespace Go.Flat
open Go

section
variable {C : Ctx} {rf : Ref} {R : Nat → Prop} {ρ : Loc} {w : World} {mem : Mem} {slot : Nat} {a : Act} {o : Oper} {e : Eff} {f : Operand → AV}

theorem int_of_leafV {x : AV} {v : Value} {k : IntKind} {n : Int} (h : VR R ρ w x v) (hx : leafV x = some (.int k n)) : inK k n = true := by
  have e1 := h.leafV hx
  subst e1
  cases x <;> simp [leafV] at hx
  · subst hx; cases h with | lit h => exact h
  · obtain ⟨rfl, rfl⟩ := hx; cases h with | ki h => exact h

theorem int_of_toV {x : AV} {v : Value} {k : IntKind} {n : Int} (h : VR R ρ w x v) (hx : Flat.toV x = some (.int k n)) : inK k n = true := by
  have e1 := h.toV hx
  subst e1
  cases x <;> simp [Flat.toV, leafV] at hx
  · subst hx; cases h with | lit h => exact h
  · obtain ⟨rfl, rfl⟩ := hx; cases h with | ki h => exact h
  · split at hx <;> simp at hx

/-- an operation whose outcome is told by 'det' -/
theorem det_sim (hm : MS rf R ρ mem w) {op : BinOp} {t t' : TypeId} {x y : Operand} {u u' r : Value} {v : AV} {g : List Bool} (hop : o.op = .binOp op t x y t') (e1 : u = a.eval x) (e2 : u' = a.eval y)
    (hd : det C.P (do eqGuard op t x y u u'; binOp op t u u') = some r) (hv : VR R ρ w v r) : Sim C rf R ρ w mem slot a o (.val v g) := by
  have hrun := det_run C.P _ r hd w
  refine .val hm (v := r) ?_ rfl hv
  have : (execOp a.eval o) = (do pure (.value (← (do eqGuard op t x y (a.eval x) (a.eval y); binOp op t (a.eval x) (a.eval y))))) := by simp only [execOp, hop]
  rw [this, ← e1, ← e2, Sem.run_bind, hrun]
  rfl

theorem binA_sim (hm : MS rf R ρ mem w) (hv : ∀ x, VR R ρ w (f x) (a.eval x)) {op : BinOp} {t t' : TypeId} {x y : Operand} (hop : o.op = .binOp op t x y t') (hs : binA C.P op t x y (f x) (f y) = some e) : Sim C rf R ρ w mem slot a o e := by
  unfold binA at hs
  cases hx : Flat.toV (f x) with
  | none => simp [hx] at hs
  | some u =>
    cases hy : Flat.toV (f y) with
    | none => simp [hx, hy] at hs
    | some u' =>
      simp only [hx, hy] at hs
      have e1 := (hv x).toV hx
      have e2 := (hv y).toV hy
      cases hd : det C.P (do eqGuard op t x y u u'; binOp op t u u') with
      | none => simp [hd] at hs
      | some r =>
        simp only [hd] at hs
        cases hr : ofRes2 (known (f x) && known (f y)) u u' r with
        | none => simp [hr] at hs
        | some v =>
          simp [hr] at hs
          subst hs
          refine det_sim hm hop e1 e2 hd ?_
          unfold ofRes2 at hr
          split at hr
          · rename_i k n k' n'
            have hk : inK k n = true := int_of_toV (hv x) hx
            obtain ⟨_, _, h2⟩ := det_bind C.P _ _ _ hd
            exact ofRes_VR hr (int_bin C.P op t _ _ _ _ r hk h2)
          · exact ofResB_VR hr

theorem divA_sim (hm : MS rf R ρ mem w) (hv : ∀ x, VR R ρ w (f x) (a.eval x)) {op : BinOp} {t t' : TypeId} {x y : Operand} (hop : o.op = .binOp op t x y t') (hs : divA op (f x) (f y) = some e) (hc : ∀ c ∈ e.conds, c = true) : Sim C rf R ρ w mem slot a o e := by
  unfold divA at hs
  cases hx : leafV (f x) with
  | none => simp [hx] at hs
  | some u =>
    cases u with
    | int k n =>
      cases hy : leafV (f y) with
      | none => simp [hx, hy] at hs
      | some u' =>
        cases u' with
        | int k' n' =>
          simp only [hx, hy] at hs
          have e1 := (hv x).leafV hx
          have e2 := (hv y).leafV hy
          have hk := int_of_leafV (hv x) hx
          generalize hq : (decide (k = k') || isShift op) = q at hs
          cases q with
          | false => simp at hs
          | true =>
            simp only [cond_true] at hs
            cases hdv : divV op k n n' with
            | none => simp [hdv] at hs
            | some p =>
              obtain ⟨v, c⟩ := p
              simp only [hdv, Option.some.injEq] at hs
              subst hs
              have hcc := hc c (by simp [Eff.val])
              have hd : det C.P (do eqGuard op t x y (.int k n) (.int k' n'); binOp op t (.int k n) (.int k' n')) = some v := by
                cases op <;> simp only [divV, Option.some.injEq, Prod.mk.injEq, reduceCtorEq] at hdv
                · obtain ⟨rfl, rfl⟩ := hdv
                  have hn : ¬ n' = 0 := by simpa using hcc
                  have hkk : k = k' := by simpa [isShift] using hq
                  subst hkk
                  simp [eqGuard, binOp, Op.intDiv, hn]
                  rfl
                · obtain ⟨rfl, rfl⟩ := hdv
                  have hn : ¬ n' = 0 := by simpa using hcc
                  have hkk : k = k' := by simpa [isShift] using hq
                  subst hkk
                  simp [eqGuard, binOp, Op.intDiv, hn]
                  rfl
                · obtain ⟨rfl, rfl⟩ := hdv
                  have hn : ¬ n' < 0 := by have : 0 ≤ n' := by simpa using hcc
                                           omega
                  simp [eqGuard, binOp, Op.shift, hn]
                  rfl
                · obtain ⟨rfl, rfl⟩ := hdv
                  have hn : ¬ n' < 0 := by have : 0 ≤ n' := by simpa using hcc
                                           omega
                  simp [eqGuard, binOp, Op.shift, hn]
                  rfl
              refine det_sim hm hop e1 e2 hd ?_
              obtain ⟨_, _, h2⟩ := det_bind C.P _ _ _ hd
              have hok := int_bin C.P op t _ _ _ _ v hk h2
              cases op <;> simp only [divV, Option.some.injEq, Prod.mk.injEq, reduceCtorEq] at hdv <;> obtain ⟨rfl, _⟩ := hdv <;> exact .lit hok
        | _ => simp [hx, hy] at hs
    | _ => simp [hx] at hs

/-- a value and the cells of it -/
def Formed (P : Program) (t : TypeId) (xs : List Value) (x : Value) : Prop := (aggT P t = some true ∧ x = .agg xs.toArray) ∨ (aggT P t = some false ∧ xs = [x])

theorem cutV_run {P : Program} {t : TypeId} {xs l : List Value} {off : Nat} (h : cutV P t xs off = some l) (w : World) : ∃ x, (part t xs.toArray off).run P w = .ok x w ∧ Formed P t l x := by
  unfold cutV at h
  cases ht : aggT P t with
  | none => simp [ht] at h
  | some b =>
    cases b with
    | true =>
      simp only [ht] at h
      cases hn : szOf P t with
      | none => simp [hn] at h
      | some n =>
        simp only [hn] at h
        cases hq : Nat.ble (off + n) xs.length with
        | false => simp [hq] at h
        | true =>
          simp only [hq, cond_true, Option.some.injEq] at h
          subst h
          refine ⟨.agg ((xs.drop off).take n).toArray, ?_, .inl ⟨ht, rfl⟩⟩
          simp [part, run_isAgg ht, run_sizeOf hn, List.extract_eq_take_drop]
    | false =>
      simp only [ht] at h
      cases hx : xs[off]? with
      | none => simp [hx] at h
      | some v =>
        simp [hx] at h
        subst h
        exact ⟨v, by simp [part, run_isAgg ht, hx], .inr ⟨ht, rfl⟩⟩

theorem eqFields_run {P : Program} {d : Nat} (dd : Nat) (IH : ∀ t xs ys r, eqC P d t xs ys = some r → ∀ w x y, Formed P t xs x → Formed P t ys y → (Op.equalIn (dd + d) t x y).run P w = .ok r w) (xs ys : List Value) (w : World) :
    ∀ (fs : List Field) (r : Bool), conjO (fun f => bif f.name == "_" then none else eqPart (fun l => cutV P f.type l f.offset) (fun a b => eqC P d f.type a b) xs ys) fs = some r → (Op.eqFields (dd + d) xs.toArray ys.toArray fs).run P w = .ok r w
  | [], r, h => by simp [conjO] at h; subst h; simp [Op.eqFields]
  | f :: fs, r, h => by
    simp only [conjO] at h
    cases hn : (f.name == "_") with
    | true => simp [hn] at h
    | false =>
      simp only [hn, cond_false] at h
      cases h1 : eqPart (fun l => cutV P f.type l f.offset) (fun a b => eqC P d f.type a b) xs ys with
      | none => simp [h1] at h
      | some b =>
        simp only [h1] at h
        cases h2 : conjO (fun f => bif f.name == "_" then none else eqPart (fun l => cutV P f.type l f.offset) (fun a b => eqC P d f.type a b) xs ys) fs with
        | none => simp [h2] at h
        | some c =>
          simp only [h2, Option.some.injEq] at h
          subst h
          have ih := eqFields_run dd IH xs ys w fs c h2
          unfold eqPart at h1
          cases ha : cutV P f.type xs f.offset with
          | none => simp [ha] at h1
          | some la =>
            cases hb : cutV P f.type ys f.offset with
            | none => simp [ha, hb] at h1
            | some lb =>
              simp only [ha, hb] at h1
              obtain ⟨x, p1, f1⟩ := cutV_run ha w
              obtain ⟨y, p2, f2⟩ := cutV_run hb w
              have p3 := IH f.type la lb b h1 w x y f1 f2
              have hn' : f.name ≠ "_" := by simpa using hn
              simp only [Op.eqFields, hn', ne_eq, not_false_eq_true, if_true, Sem.run_bind, p1, p2, p3, Result.andThen_ok]
              cases b
              · simp
              · simpa using ih

theorem eqItems_run {P : Program} {d : Nat} (dd : Nat) (IH : ∀ t xs ys r, eqC P d t xs ys = some r → ∀ w x y, Formed P t xs x → Formed P t ys y → (Op.equalIn (dd + d) t x y).run P w = .ok r w) (e : TypeId) (sz : Nat) (xs ys : List Value) (w : World) :
    ∀ (is : List Nat) (r : Bool), conjO (fun i => eqPart (fun l => cutV P e l (i * sz)) (fun a b => eqC P d e a b) xs ys) is = some r → (Op.eqItems (dd + d) e sz xs.toArray ys.toArray is).run P w = .ok r w
  | [], r, h => by simp [conjO] at h; subst h; simp [Op.eqItems]
  | i :: is, r, h => by
    simp only [conjO] at h
    cases h1 : eqPart (fun l => cutV P e l (i * sz)) (fun a b => eqC P d e a b) xs ys with
    | none => simp [h1] at h
    | some b =>
      simp only [h1] at h
      cases h2 : conjO (fun i => eqPart (fun l => cutV P e l (i * sz)) (fun a b => eqC P d e a b) xs ys) is with
      | none => simp [h2] at h
      | some c =>
        simp only [h2, Option.some.injEq] at h
        subst h
        have ih := eqItems_run dd IH e sz xs ys w is c h2
        unfold eqPart at h1
        cases ha : cutV P e xs (i * sz) with
        | none => simp [ha] at h1
        | some la =>
          cases hb : cutV P e ys (i * sz) with
          | none => simp [ha, hb] at h1
          | some lb =>
            simp only [ha, hb] at h1
            obtain ⟨x, p1, f1⟩ := cutV_run ha w
            obtain ⟨y, p2, f2⟩ := cutV_run hb w
            have p3 := IH e la lb b h1 w x y f1 f2
            simp only [Op.eqItems, Sem.run_bind, p1, p2, p3, Result.andThen_ok]
            cases b
            · simp
            · simpa using ih

def isAggD : TypeDesc → Bool
  | .struct _ | .array _ _ => true
  | _ => false

theorem aggT_of {P : Program} {t : TypeId} {kd : TypeDesc} (hu : P.underlying t = some kd) : aggT P t = some (isAggD kd) := by
  unfold aggT
  rw [hu]
  cases kd <;> rfl

theorem eqC_run {P : Program} : ∀ (d : Nat) (t : TypeId) (xs ys : List Value) (r : Bool), eqC P d t xs ys = some r → ∀ (dd : Nat) (w : World) (x y : Value), Formed P t xs x → Formed P t ys y → (Op.equalIn (dd + d) t x y).run P w = .ok r w
  | 0, t, xs, ys, r, h => by simp [eqC] at h
  | d + 1, t, xs, ys, r, h => by
    intro dd w x y fx fy
    have IH : ∀ t xs ys r, eqC P d t xs ys = some r → ∀ w x y, Formed P t xs x → Formed P t ys y → (Op.equalIn (dd + d) t x y).run P w = .ok r w := fun t xs ys r h w x y => eqC_run d t xs ys r h dd w x y
    simp only [eqC] at h
    cases hu : P.underlying t with
    | none => simp [hu] at h
    | some kd =>
      have hagg : aggT P t = some (isAggD kd) := aggT_of hu
      cases kd with
      | bool =>
        simp only [hu] at h
        have fx' : xs = [x] := by rcases fx with ⟨h1, _⟩ | ⟨_, h2⟩; (rw [hagg] at h1; simp [isAggD] at h1); exact h2
        have fy' : ys = [y] := by rcases fy with ⟨h1, _⟩ | ⟨_, h2⟩; (rw [hagg] at h1; simp [isAggD] at h1); exact h2
        subst fx' fy'
        cases x <;> simp at h
        cases y <;> simp at h
        subst h
        rw [show dd + (d + 1) = (dd + d) + 1 from rfl]
        simpa using run_equalIn_bool' w (dd + d) t _ _ hu
      | int kk =>
        simp only [hu] at h
        have fx' : xs = [x] := by rcases fx with ⟨h1, _⟩ | ⟨_, h2⟩; (rw [hagg] at h1; simp [isAggD] at h1); exact h2
        have fy' : ys = [y] := by rcases fy with ⟨h1, _⟩ | ⟨_, h2⟩; (rw [hagg] at h1; simp [isAggD] at h1); exact h2
        subst fx' fy'
        cases x <;> simp only at h <;> try (cases h; done)
        cases y <;> simp only at h <;> try (cases h; done)
        rename_i k n k' n'
        cases hq : decide (k = k') with
        | false => simp [hq] at h
        | true =>
          have := of_decide_eq_true hq
          subst this
          simp [hq] at h
          subst h
          rw [show dd + (d + 1) = (dd + d) + 1 from rfl]
          simpa using run_equalIn_int w (dd + d) t k kk n n' hu
      | struct fs =>
        simp only [hu] at h
        have fx' : x = .agg xs.toArray := by rcases fx with ⟨_, h2⟩ | ⟨h1, _⟩; exact h2; (rw [hagg] at h1; simp [isAggD] at h1)
        have fy' : y = .agg ys.toArray := by rcases fy with ⟨_, h2⟩ | ⟨h1, _⟩; exact h2; (rw [hagg] at h1; simp [isAggD] at h1)
        subst fx' fy'
        cases hp : P.stoodInHeld t with
        | true => simp [hp] at h
        | false =>
          simp only [hp, cond_false] at h
          have hfs : P.fieldsOf t = fs := by simp [Program.fieldsOf, hu]
          rw [show dd + (d + 1) = (dd + d) + 1 from rfl, run_equalIn_struct w (dd + d) t _ _ (by rw [hfs]; exact hu) hp, hfs]
          exact eqFields_run dd IH xs ys w fs.toList r h
      | array n el =>
        simp only [hu] at h
        have fx' : x = .agg xs.toArray := by rcases fx with ⟨_, h2⟩ | ⟨h1, _⟩; exact h2; (rw [hagg] at h1; simp [isAggD] at h1)
        have fy' : y = .agg ys.toArray := by rcases fy with ⟨_, h2⟩ | ⟨h1, _⟩; exact h2; (rw [hagg] at h1; simp [isAggD] at h1)
        subst fx' fy'
        cases hs : szOf P el with
        | none => simp [hs] at h
        | some sz =>
          simp only [hs] at h
          unfold szOf at hs
          cases hi : P.info? el with
          | none => simp [hi] at hs
          | some i =>
            simp [hi] at hs
            have hc : P.cellsOf el = sz := by simp [Program.cellsOf, hi, hs]
            rw [show dd + (d + 1) = (dd + d) + 1 from rfl, run_equalIn_array w (dd + d) _ _ hu hi, hc]
            exact eqItems_run dd IH el sz xs ys w (List.range n) r h
      | _ => simp [hu] at h

theorem eqA_sim (hm : MS rf R ρ mem w) (hv : ∀ x, VR R ρ w (f x) (a.eval x)) {op : BinOp} {ne : Bool} {t t' : TypeId} {x y : Operand} (hop : o.op = .binOp op t x y t') (hne : op = bif ne then .neq else .eql) (hs : eqA C.P ne t (f x) (f y) = some e) : Sim C rf R ρ w mem slot a o e := by
  unfold eqA at hs
  cases hx : Flat.toV (f x) with
  | none => simp [hx] at hs
  | some u =>
    cases u with
    | agg xs =>
      cases hy : Flat.toV (f y) with
      | none => simp [hx, hy] at hs
      | some u' =>
        cases u' with
        | agg ys =>
          simp only [hx, hy] at hs
          have e1 := (hv x).toV hx
          have e2 := (hv y).toV hy
          cases hg : C.P.eqGuardType C.P.depth t with
          | true => simp [hg] at hs
          | false =>
            simp only [hg, cond_false] at hs
            cases ht : aggT C.P t with
            | none => simp [ht] at hs
            | some b =>
              cases b with
              | false => simp [ht] at hs
              | true =>
                simp only [ht] at hs
                cases hq : eqC C.P 100 t xs.toList ys.toList with
                | none => simp [hq] at hs
                | some r =>
                  simp only [hq, Option.some.injEq] at hs
                  subst hs
                  have hr := eqC_run 100 t _ _ r hq 9900 w (.agg xs) (.agg ys) (.inl ⟨ht, by simp⟩) (.inl ⟨ht, by simp⟩)
                  have hr' : (Op.equalIn 10000 t (.agg xs) (.agg ys)).run C.P w = .ok r w := hr
                  refine .val hm (v := .bool (bif ne then !r else r)) ?_ rfl ?_
                  · have h0 : (execOp a.eval o) = (do pure (.value (← (do eqGuard op t x y (a.eval x) (a.eval y); binOp op t (a.eval x) (a.eval y))))) := by simp only [execOp, hop]
                    rw [h0, ← e1, ← e2]
                    subst hne
                    cases ne
                    · simp only [cond_false, Sem.run_bind, run_eqGuard_agg w _ t x y xs ys hg, Result.andThen_ok, run_eql_struct w t xs ys, hr']
                      rfl
                    · simp only [cond_true, Sem.run_bind, run_eqGuard_agg w _ t x y xs ys hg, Result.andThen_ok, run_neq_struct w t xs ys, hr']
                      rfl
                  · simp only [Eff.val]
                    cases (f x).cells.all known && (f y).cells.all known
                    · exact .lit trivial
                    · exact .kb
        | _ => simp [hx, hy] at hs
    | _ => simp [hx] at hs

theorem binX_sim (hm : MS rf R ρ mem w) (hv : ∀ x, VR R ρ w (f x) (a.eval x)) {op : BinOp} {t t' : TypeId} {x y : Operand} (hop : o.op = .binOp op t x y t') (hs : binX C.P op t x y (f x) (f y) = some e) (hc : ∀ c ∈ e.conds, c = true) : Sim C rf R ρ w mem slot a o e := by
  unfold binX at hs
  split at hs
  · split at hs
    · exact eqA_sim (ne := false) hm hv hop rfl hs
    · exact binA_sim hm hv hop hs
  · split at hs
    · exact eqA_sim (ne := true) hm hv hop rfl hs
    · exact binA_sim hm hv hop hs
  · cases hk : known (f y) <;> simp only [hk, cond_true, cond_false] at hs
    · exact divA_sim hm hv hop hs hc
    · exact binA_sim hm hv hop hs
  · cases hk : known (f y) <;> simp only [hk, cond_true, cond_false] at hs
    · exact divA_sim hm hv hop hs hc
    · exact binA_sim hm hv hop hs
  · cases hk : known (f y) <;> simp only [hk, cond_true, cond_false] at hs
    · exact divA_sim hm hv hop hs hc
    · exact binA_sim hm hv hop hs
  · cases hk : known (f y) <;> simp only [hk, cond_true, cond_false] at hs
    · exact divA_sim hm hv hop hs hc
    · exact binA_sim hm hv hop hs
  · exact binA_sim hm hv hop hs

theorem bif_upd0 {c : Bool} {z : Option Eff} (hz : z = some e → e.upd = []) (h : (bif c then z else none) = some e) : e.upd = [] := by
  cases c with
  | false => cases h
  | true => exact hz h

theorem binX_upd {P : Program} {op : BinOp} {t : TypeId} {xo yo : Operand} {x y : AV} (h : binX P op t xo yo x y = some e) : e.upd = [] := by
  have hA : ∀ op, binA P op t xo yo x y = some e → e.upd = [] := fun op h => by
    unfold binA at h
    repeat' split at h
    all_goals first | (cases h; done) | (cases h; rfl)
  have hD : ∀ op, divA op x y = some e → e.upd = [] := fun op h => by
    unfold divA at h
    split at h
    · split at h
      · refine bif_upd0 ?_ h
        intro h
        split at h
        · cases h; rfl
        · cases h
      · cases h
    · cases h
  have hE : ∀ ne, eqA P ne t x y = some e → e.upd = [] := fun ne h => by
    unfold eqA at h
    split at h
    · split at h
      · cases hq : P.eqGuardType P.depth t <;> simp only [hq, cond_true, cond_false] at h
        · repeat' split at h
          all_goals first | (cases h; done) | (cases h; rfl)
        · cases h
      · cases h
    · cases h
  unfold binX at h
  split at h
  · split at h
    · exact hE _ h
    · exact hA _ h
  · split at h
    · exact hE _ h
    · exact hA _ h
  · cases hk : known y <;> simp only [hk, cond_true, cond_false] at h
    · exact hD _ h
    · exact hA _ h
  · cases hk : known y <;> simp only [hk, cond_true, cond_false] at h
    · exact hD _ h
    · exact hA _ h
  · cases hk : known y <;> simp only [hk, cond_true, cond_false] at h
    · exact hD _ h
    · exact hA _ h
  · cases hk : known y <;> simp only [hk, cond_true, cond_false] at h
    · exact hD _ h
    · exact hA _ h
  · exact hA _ h

end
end Go.Flat
end

section
/- One operation: the evaluator's step stands for the model's. -/
set_option linter.unusedSimpArgs false
set_option linter.unusedVariables false
namespace Go.Flat
open Go

section
variable {C : Ctx} {rf : Ref} {R : Nat → Prop} {ρ : Loc} {w : World} {mem : Mem} {slot : Nat} {a : Act} {o : Oper} {e : Eff} {f : Operand → AV}

theorem arr_of {α : Type} {x : Array α} {l : List α} (h : x.toList = l) : x = l.toArray := by rw [← h]

theorem simple_sim (hC : OrcOk C) (hm : MS rf R ρ mem w) (hv : ∀ x, VR R ρ w (f x) (a.eval x)) (hs : simple C mem slot f o = some e) (hc : ∀ c ∈ e.conds, c = true)
    (hsl0 : slotsOf C o.op ≠ 0 → slot + slotsOf C o.op ≤ mem.length ∧ rf.base ≤ slot ∧ ∀ b, slot ≤ b → b < slot + slotsOf C o.op → ρ b = none) : Sim C rf R ρ w mem slot a o e := by
  have hsl : slotsOf C o.op = 1 → slot < mem.length ∧ rf.base ≤ slot ∧ ρ slot = none := fun h1 => by
    obtain ⟨k1, k2, k3⟩ := hsl0 (by omega)
    rw [h1] at k1 k3
    exact ⟨by omega, k2, k3 slot (by omega) (by omega)⟩
  cases hop : o.op with
  | move x =>
    simp only [simple, hop, Option.some.injEq] at hs
    subst hs
    exact .val hm (v := a.eval x) (by simp [execOp, hop]) rfl (hv x)
  | assign x =>
    simp only [simple, hop, Option.some.injEq] at hs
    subst hs
    exact .val hm (v := a.eval x) (by simp [execOp, hop]) rfl (hv x)
  | pick c x y =>
    simp only [simple, hop] at hs
    have hcv := hv c
    cases hfc : f c <;> rw [hfc] at hcv <;> simp [hfc] at hs
    rename_i b
    have hb := kb_inv hcv
    cases b with
    | true => simp at hs; subst hs; exact .val hm (v := a.eval x) (by simp [execOp, hop, hb, asBool]) rfl (hv x)
    | false => simp at hs; subst hs; exact .val hm (v := a.eval y) (by simp [execOp, hop, hb, asBool]) rfl (hv y)
  | alloc t =>
    obtain ⟨s1, s2, s3⟩ := hsl (by rw [hop]; rfl)
    simp only [simple, hop] at hs
    cases hz : zeroA C.P t with
    | none => simp [hz] at hs
    | some z =>
      simp only [hz] at hs
      cases hl : z.cells.all AV.leaf with
      | false => simp [hl] at hs
      | true =>
        simp [hl] at hs
        subst hs
        obtain ⟨i, v, k1, k2, k3, k4⟩ := zero_pw (R := R) (ρ := ρ) (w := w) hz hl
        refine .new (v := .pointer (some ⟨w.heap.size, 0, none⟩)) (obj := .cells v.cells t) hm ?_ rfl (by rw [hop]; rfl) s1 s2 s3 (.one_new hm k4 s3) ptr_new
        simp [execOp, hop, Instr.alloc, zeroValue, typeInfo, k1, k2, newVar, newRow, World.alloc_eq]
  | box t x =>
    obtain ⟨s1, s2, s3⟩ := hsl (by rw [hop]; rfl)
    simp only [simple, hop] at hs
    cases hl : (f x).cells.all AV.leaf with
    | false => simp [hl] at hs
    | true =>
      simp [hl] at hs
      subst hs
      refine .new (v := .pointer (some ⟨w.heap.size, 0, none⟩)) (obj := .cells (a.eval x).cells t) hm ?_ rfl (by rw [hop]; rfl) s1 s2 s3 (.one_new hm ((hv x).pw hl) s3) ptr_new
      simp [execOp, hop, Instr.box, newVar, newRow, World.alloc_eq]
  | build t parts =>
    simp only [simple, hop] at hs
    obtain ⟨v, h1, rfl⟩ := valO_some hs
    obtain ⟨p1, p2⟩ := parts_ok (parts := parts) hv
    obtain ⟨vs, k1, k2⟩ := buildA_run p1 p2 h1
    exact .val hm (v := .agg vs) (by simp [execOp, hop, k1]) rfl k2
  | buildSlice t len parts =>
    obtain ⟨p1, p2⟩ := parts_ok (parts := parts) hv
    simp only [simple, hop] at hs
    cases h0 : Nat.beq len 0 with
    | true =>
      have := Nat.eq_of_beq_eq_true h0
      subst this
      obtain ⟨s1, s2, s3⟩ := hsl (by rw [hop]; rfl)
      simp only [h0, cond_true] at hs
      unfold emptyA at hs
      cases hp : parts.toList with
      | cons p ps => simp [hp] at hs
      | nil =>
      have hpa : parts = #[] := by simpa using hp
      subst hpa
      simp only [hp] at hs
      cases hu : C.P.underlying t with
      | none => simp [hu] at hs
      | some d =>
        cases d with
        | slice el =>
          simp only [hu] at hs
          cases hn : szOf C.P el with
          | none => simp [hn] at hs
          | some n =>
            simp only [hn] at hs
            cases hq : Nat.beq n 0 with
            | true => simp [hq] at hs
            | false =>
              simp [hq] at hs
              subst hs
              have hn0 : 0 < n := by
                rcases Nat.eq_zero_or_pos n with h | h
                · subst h; simp at hq
                · exact h
              have hnew : (w.alloc (.cells #[] el)).heap[w.heap.size]? = some (.cells #[] el) := heap_alloc_new w _
              refine .new (v := .slice (some ⟨w.heap.size, 0, none⟩) 0 0) (obj := .cells #[] el) hm ?_ rfl (by rw [hop]; rfl) s1 s2 s3 ⟨#[], hnew, hn0, by simp, fun r row hr => by simp at hr, fun _ r row hr => by simp at hr⟩ (.lsl (by simp [Loc.upd]) (Nat.le_refl _) (by simp [maxLen]) hnew (by simp))
              simp [execOp, hop, Instr.buildSlice, run_underlying hu, run_sizeOf hn, Instr.fill, newRow, World.alloc_eq]
              congr 2
              apply Array.ext' <;> simp
        | _ => simp [hu] at hs
    | false =>
      simp only [h0, cond_false] at hs
      obtain ⟨v, h1, rfl⟩ := valO_some hs
      obtain ⟨u, ob, k1, k2⟩ := buildSliceA_run p1 p2 hm h1
      intro K Q hK
      unfold Oper.wp
      have hr : (execOp a.eval o).run C.P w = .ok (.value u) (w.alloc ob) := by simp [execOp, hop, k1]
      rw [hr]
      exact hK _ ρ (w.alloc ob) u (hm.share ob) ⟨fun _ h => .inl h, fun x hx => heap_alloc_old w ob x (hm.Rlt x hx), .alloc w ob, fun _ _ h => h, fun _ _ => rfl⟩ (fun _ => rfl) k2
  | load t x =>
    simp only [simple, hop] at hs
    cases hl : loadA C.P mem t (f x) with
    | none => simp [hl] at hs
    | some p =>
      obtain ⟨v, g⟩ := p
      simp [hl] at hs
      subst hs
      obtain ⟨xb, ofs, u, k1, k2, k3⟩ := loadA_run hm (hv x) hl
      exact .val hm (v := u) (by simp [execOp, hop, k1, Instr.loadAt, Instr.sureAddr, k2]) rfl k3
  | store t x y =>
    simp only [simple, hop] at hs
    obtain ⟨yb, ofs, w', k1, k2, k3, k4, k5, k6⟩ := storeA_run hm (hv x) (hv y) hs hc
    intro K Q hK
    unfold Oper.wp
    have hr : (execOp a.eval o).run C.P w = .ok .skip w' := by simp [execOp, hop, k1, Instr.storeAt, Instr.sureAddr, k2]
    rw [hr]
    exact hK R ρ w' Go.undef k3 ⟨fun _ h => h, k4, k5, fun _ _ h => h, fun _ _ => rfl⟩ (fun _ => rfl) (by rw [k6]; exact .undef)
  | nilCheck x =>
    simp only [simple, hop] at hs
    have hx := hv x
    generalize hvx : a.eval x = vx at hx
    cases hfx : f x <;> rw [hfx] at hx <;> simp [hfx] at hs
    · subst hs
      cases hx with
      | vptr vals hR h2 h3 h4 =>
        exact .val hm (v := a.eval x) (by simp [execOp, hop, hvx]) rfl (by rw [hvx]; exact .vptr vals hR h2 h3 h4)
    · subst hs
      cases hx with
      | ptr h => exact .val hm (v := a.eval x) (by simp [execOp, hop, hvx]) rfl (by rw [hvx]; exact .ptr h)
  | binOp op t x y t' =>
    simp only [simple, hop] at hs
    exact binX_sim hm hv hop hs hc
  | unOp op t x =>
    simp only [simple, hop] at hs
    cases hx : leafV (f x) with
    | none => simp [hx] at hs
    | some u =>
      simp only [hx] at hs
      obtain ⟨r, v, h1, h2, rfl⟩ := detRes_some hs
      have e1 := (hv x).leafV hx
      have hrun := det_run C.P _ r h1 w
      exact .val hm (v := r) (by simp [execOp, hop, ← e1, hrun]) rfl (ofRes_VR h2 (int_un C.P op u r h1))
  | convert s d x =>
    simp only [simple, hop] at hs
    cases hx : leafV (f x) with
    | none => simp [hx] at hs
    | some u =>
      have e1 := (hv x).leafV hx
      cases u with
      | int k n =>
        simp only [hx] at hs
        cases hus : C.P.underlying s with
        | none => simp [hus] at hs
        | some ds =>
          cases hud : C.P.underlying d with
          | none => simp [hus, hud] at hs
          | some dd =>
            cases dd with
            | int k' =>
              simp [hus, hud] at hs
              subst hs
              refine .val hm (v := .int k' (k'.wrap n)) ?_ rfl ?_
              · have hconv : (convert s d (.int k n)).run C.P w = .ok (.int k' (k'.wrap n)) w := by
                  cases ds <;> simp [convert, run_underlying hus, run_underlying hud, Conv.intToInt]
                simp [execOp, hop, ← e1, hconv]
              · cases known (f x)
                · exact .lit (inK_wrap k' n)
                · exact .ki (inK_wrap k' n)
            | _ => simp [hus, hud] at hs
      | _ => simp [hx] at hs
  | fieldAddr t x fi =>
    simp only [simple, hop, fieldOf] at hs
    cases hu : C.P.underlying t with
    | none => simp [hu] at hs
    | some d =>
      cases d with
      | struct fs =>
        simp only [hu] at hs
        cases hfi : fs[fi]? with
        | none => simp [hfi] at hs
        | some fld =>
          simp only [hfi] at hs
          cases hn : szOf C.P fld.type with
          | none => simp [hn] at hs
          | some n =>
            simp only [hn] at hs
            cases hq : Nat.beq n 0 with
            | true => simp [hq] at hs
            | false =>
              simp only [hq, cond_false] at hs
              obtain ⟨p, hp, rfl⟩ := valO_some hs
              obtain ⟨b, i, k1, k2⟩ := offPtr_run (hv x) hp
              have hn0 : n ≠ 0 := fun e => by subst e; simp at hq
              exact .val hm (v := .pointer (some ⟨b, i + fld.offset, none⟩)) (by simp [execOp, hop, Instr.fieldAt, run_underlying hu, hfi, k1, Instr.sureAddr, fieldPlace, run_sizeOf hn, hn0, Addr.add_lit]) rfl k2
      | _ => simp [hu] at hs
  | field t x fi =>
    simp only [simple, hop, fieldOf] at hs
    cases hu : C.P.underlying t with
    | none => simp [hu] at hs
    | some d =>
      cases d with
      | struct fs =>
        simp only [hu] at hs
        cases hfi : fs[fi]? with
        | none => simp [hfi] at hs
        | some fld =>
          simp only [hfi] at hs
          have hx := hv x
          generalize hvx : a.eval x = vx at hx
          cases hfx : f x <;> rw [hfx] at hx <;> simp only [hfx] at hs <;> try (cases hs; done)
          obtain ⟨p, hp, rfl⟩ := valO_some hs
          cases hx with
          | agg vs g1 g2 g3 =>
            obtain ⟨v, k1, k2⟩ := partA_run (.agg vs g1 g2 g3) hp
            exact .val hm (v := v) (by simp [execOp, hop, Instr.field, run_underlying hu, hfi, hvx, asAgg, k1]) rfl k2
      | _ => simp [hu] at hs
  | indexAddr t x i =>
    simp only [simple, hop] at hs
    obtain ⟨v, k1, k2, k3⟩ := indexAddr_run hm (hv x) (hv i) hs hc
    exact .val hm (v := v) (by simp [execOp, hop, k1]) k3 k2
  | slice t x lo hi mx =>
    cases lo with
    | none => simp [simple, hop] at hs
    | some lo =>
      cases hi with
      | some _ => simp [simple, hop] at hs
      | none =>
        cases mx with
        | some _ => simp [simple, hop] at hs
        | none =>
          simp only [simple, hop] at hs
          obtain ⟨v, k1, k2, k3⟩ := sliceFrom_run (hv x) (hv lo) hs hc
          exact .val hm (v := v) (by simp [execOp, hop, k1]) k2 k3
  | extract x i =>
    simp only [simple, hop] at hs
    have hx := hv x
    generalize hvx : a.eval x = vx at hx
    cases hfx : f x <;> rw [hfx] at hx <;> simp only [hfx] at hs <;> try (cases hs; done)
    rename_i vs
    obtain ⟨p, hp, rfl⟩ := valO_some hs
    cases hx with
    | tup us g1 g2 =>
      have hlt : i < us.size := by rw [g1]; exact (List.getElem?_eq_some_iff.1 hp).1
      have := g2 i p hp
      rw [getD_eq hlt] at this
      exact .val hm (v := us[i]) (by simp [execOp, hop, hvx, Instr.extract, hlt]) rfl this
  | makeFunc fn first cap =>
    simp only [simple, hop] at hs
    cases fn with
    | func g =>
      cases hfl : first.toList with
      | cons y ys => simp [hfl] at hs
      | nil =>
        have hfa : first = #[] := by simpa using hfl
        simp [hfl] at hs
        subst hfa
        subst hs
        refine .val hm (v := .func (.func g) #[] (cap.map a.eval)) (by simp [execOp, hop, Instr.makeFunc]) rfl (.clo _ (by simp) (fun i c hi => ?_))
        simp only [List.getElem?_map, Option.map_eq_some_iff] at hi
        obtain ⟨y, hy, rfl⟩ := hi
        have hlt : i < cap.size := by simpa using (List.getElem?_eq_some_iff.1 hy).1
        have hy' : cap[i] = y := by simpa [hlt] using hy
        rw [getD_eq (by simpa using hlt)]
        simp only [Array.getElem_map, hy']
        exact hv y
    | _ => simp at hs
  | makeInterface t x =>
    simp only [simple, hop] at hs
    cases hq : (notIface C.P t && (f x).leaf) with
    | false => simp [hq] at hs
    | true =>
      simp [hq] at hs
      subst hs
      simp only [Bool.and_eq_true] at hq
      have hni : ∃ d, C.P.underlying t = some d ∧ (∀ ms, d ≠ .interface ms) := by
        have h1 := hq.1
        unfold notIface at h1
        cases hu : C.P.underlying t with
        | none => simp [hu] at h1
        | some d => refine ⟨d, rfl, fun ms e => ?_⟩; subst e; simp [hu] at h1
      obtain ⟨d, hu, hd⟩ := hni
      refine .val hm (v := .iface t (a.eval x)) ?_ rfl (.iface hq.2 (hv x))
      cases d <;> first | (exact absurd rfl (hd _)) | simp [execOp, hop, Instr.makeInterface, run_underlying hu]
  | typeAssert x xt t ok =>
    cases ok with
    | false => simp [simple, hop] at hs
    | true =>
      simp only [simple, hop] at hs
      have hx := hv x
      generalize hvx : a.eval x = vx at hx
      cases hfx : f x <;> rw [hfx] at hx <;> simp only [hfx] at hs <;> try (cases hs; done)
      rename_i u v
      cases hq : notIface C.P t with
      | false => simp [hq] at hs
      | true =>
        simp only [hq, cond_true] at hs
        have hni : ∃ d, C.P.underlying t = some d ∧ (∀ ms, d ≠ .interface ms) := by
          unfold notIface at hq
          cases hu : C.P.underlying t with
          | none => simp [hu] at hq
          | some d => refine ⟨d, rfl, fun ms e => ?_⟩; subst e; simp [hu] at hq
        obtain ⟨d, hu, hd⟩ := hni
        cases hx with
        | @iface _ _ v' hlf hvv =>
          cases hb : Nat.beq u t with
          | true =>
            have := Nat.eq_of_beq_eq_true hb
            subst this
            simp [hb] at hs
            subst hs
            refine .val hm (v := .tuple #[v', .bool true]) ?_ rfl ?_
            · cases d <;> first | (exact absurd rfl (hd _)) | simp [execOp, hop, hvx, Instr.typeAssert, run_underlying hu]
            · refine .tup _ rfl (fun i c hi => ?_)
              match i with
              | 0 => simp at hi; subst hi; exact hvv
              | 1 => simp at hi; subst hi; exact .kb
              | n + 2 => simp at hi
          | false =>
            have hne : u ≠ t := fun e => by subst e; simp at hb
            simp only [hb, cond_false] at hs
            cases hz : zeroA C.P t with
            | none => simp [hz] at hs
            | some z =>
              cases hzl : z.cells.all AV.leaf with
              | false => simp [hz, hzl] at hs
              | true =>
              simp [hz, hzl] at hs
              subst hs
              obtain ⟨i, zv, k1, k2, k3, k4⟩ := zero_pw (R := R) (ρ := ρ) (w := w) hz hzl
              refine .val hm (v := .tuple #[zv, .bool false]) ?_ rfl ?_
              · cases d <;> first | (exact absurd rfl (hd _)) | simp [execOp, hop, hvx, Instr.typeAssert, run_underlying hu, hne, zeroValue, typeInfo, k1, k2]
              · refine .tup _ rfl (fun i c hi => ?_)
                match i with
                | 0 => simp at hi; subst hi; exact k3
                | 1 => simp at hi; subst hi; exact .kb
                | n + 2 => simp at hi
  | makeSlice t l c =>
    obtain ⟨s1, s2, s3⟩ := hsl (by rw [hop]; rfl)
    simp only [simple, hop] at hs
    cases hu : C.P.underlying t with
    | none => simp [hu] at hs
    | some d =>
      cases d with
      | slice el =>
        simp only [hu] at hs
        cases hz : intOf (f l) with
        | none => simp [hz] at hs
        | some zk =>
          obtain ⟨z, kz⟩ := zk
          cases hz' : intOf (f c) with
          | none => simp [hz, hz'] at hs
          | some zk' =>
            obtain ⟨z', kz'⟩ := zk'
            simp only [hz, hz'] at hs
            cases hn : szOf C.P el with
            | none => simp [hn] at hs
            | some n =>
              cases hzr : zeroA C.P el with
              | none => simp [hn, hzr] at hs
              | some zr =>
                simp only [hn, hzr] at hs
                cases hq : (zr.cells.all AV.leaf && zr.cells.all noLoc && Nat.beq zr.cells.length n && !Nat.beq n 0 && bytesOk C.P el) with
                | false => simp [hq] at hs
                | true =>
                  simp only [hq, cond_true, Option.some.injEq] at hs
                  subst hs
                  simp only [Bool.and_eq_true, Bool.not_eq_true'] at hq
                  obtain ⟨⟨⟨⟨q1, q2⟩, q3⟩, q4⟩, q5⟩ := hq
                  have hn0 : 0 < n := by
                    rcases Nat.eq_zero_or_pos n with h | h
                    · subst h; simp at q4
                    · exact h
                  have c1 : z = z' := by simpa using hc _ List.mem_cons_self
                  have c2 : 0 ≤ z ∧ z < 16777216 := by simpa using hc _ (List.mem_cons_of_mem _ List.mem_cons_self)
                  subst c1
                  obtain ⟨k, e1, _⟩ := intOf_inv (hv l) hz
                  obtain ⟨k', e2, _⟩ := intOf_inv (hv c) hz'
                  obtain ⟨cells, r1, r2, r3⟩ := make_run (k := k) (k' := k') hu hn hzr q1 q2 (Nat.eq_of_beq_eq_true q3) hn0 q5 c2.1 c2.2 s3 hm
                  refine .new (v := .slice (some ⟨w.heap.size, 0, none⟩) z.toNat z.toNat) (obj := .cells cells el) hm (by simp [execOp, hop, e1, e2, r1]) rfl (by rw [hop]; rfl) s1 s2 s3 r3 (.lsl (by simp [Loc.upd]) (Nat.le_refl _) (by simp only [maxLen]; omega) (heap_alloc_new w _) r2)
      | _ => simp [hu] at hs
  | call cl =>
    obtain ⟨callee, args, argTypes⟩ := cl
    cases callee with
    | invoke r m => simp [simple, hop] at hs
    | builtin b =>
      cases b with
      | len =>
        simp only [simple, hop] at hs
        cases hA : args.toList with
        | nil => simp [hA] at hs
        | cons x xs =>
          cases xs with
          | cons y ys => simp [hA] at hs
          | nil =>
            cases hT : argTypes.toList with
            | nil => simp [hA, hT] at hs
            | cons t ts =>
              cases ts with
              | cons t' ts' => simp [hA, hT] at hs
              | nil =>
                simp only [hA, hT, List.map_cons, List.map_nil] at hs
                cases hu : C.P.underlying t with
                | none => simp [hu] at hs
                | some d =>
                  cases d with
                  | slice el =>
                    simp only [hu] at hs
                    obtain ⟨v, h1, rfl⟩ := valO_some hs
                    obtain ⟨u, k1, k2⟩ := lenA_run (t := t) (ty := o.type) (hv x) h1 _ hu ⟨el, rfl⟩
                    have ea := arr_of hA
                    have et := arr_of hT
                    exact .val hm (v := u) (by simp [execOp, hop, resolve, invoke, builtin, ea, et, k1]) rfl k2
                  | _ => simp [hu] at hs
      | append =>
        obtain ⟨s1, s2, s3⟩ := hsl (by rw [hop]; rfl)
        simp only [simple, hop] at hs
        cases hA : args.toList with
        | nil => simp [hA] at hs
        | cons x xs =>
          cases xs with
          | nil => simp [hA] at hs
          | cons y ys =>
            cases ys with
            | cons z zs => simp [hA] at hs
            | nil =>
              cases hT : argTypes.toList with
              | nil => simp [hA, hT] at hs
              | cons t ts =>
                cases ts with
                | nil => simp [hA, hT] at hs
                | cons t' ts' =>
                  cases ts' with
                  | cons t'' ts'' => simp [hA, hT] at hs
                  | nil =>
                    simp only [hA, hT, List.map_cons, List.map_nil] at hs
                    cases hb : Nat.beq t t' with
                    | false => simp [hb] at hs
                    | true =>
                      have := Nat.eq_of_beq_eq_true hb
                      subst this
                      simp only [hb, cond_true] at hs
                      obtain ⟨v', w', ρ', k1, k2, k3, k4⟩ := append_sim (ty := o.type) hm s1 s2 s3 (hv x) (hv y) hs hc
                      have ea := arr_of hA
                      have et := arr_of hT
                      intro K Q hK
                      unfold Oper.wp
                      have hr : (execOp a.eval o).run C.P w = .ok (.value v') w' := by simp [execOp, hop, resolve, invoke, builtin, ea, et, k1]
                      rw [hr]
                      exact hK R ρ' w' v' k2 (by rw [hop]; exact k3) (fun h0 => by rw [hop] at h0; simp [slotsOf] at h0) k4
      | max =>
        simp only [simple, hop] at hs
        cases hA : intsK (kindOf (args.toList.map f)) (args.toList.map f) with
        | none => simp [hA] at hs
        | some vs =>
          simp only [hA] at hs
          obtain ⟨r, v, h1, h2, rfl⟩ := detRes_some hs
          obtain ⟨e1, e2⟩ := ints_eq hv hA
          have hrun := det_run C.P _ r h1 w
          exact .val hm (v := r) (by
            have : (Builtin.max_ argTypes o.type vs.toArray).run C.P w = .ok r w := hrun
            simp [execOp, hop, resolve, invoke, builtin, e1, this]) rfl (ofRes_VR h2 (max_num e2 h1))
      | min =>
        simp only [simple, hop] at hs
        cases hA : intsK (kindOf (args.toList.map f)) (args.toList.map f) with
        | none => simp [hA] at hs
        | some vs =>
          simp only [hA] at hs
          obtain ⟨r, v, h1, h2, rfl⟩ := detRes_some hs
          obtain ⟨e1, e2⟩ := ints_eq hv hA
          have hrun := det_run C.P _ r h1 w
          exact .val hm (v := r) (by
            have : (Builtin.min_ argTypes o.type vs.toArray).run C.P w = .ok r w := hrun
            simp [execOp, hop, resolve, invoke, builtin, e1, this]) rfl (ofRes_VR h2 (min_num e2 h1))
      | _ => simp [simple, hop] at hs
    | value g =>
      simp only [simple, hop] at hs
      have hx := hv g
      generalize hvx : a.eval g = vx at hx
      cases hfx : f g <;> rw [hfx] at hx <;> simp only [hfx] at hs <;> try (cases hs; done)
      rename_i fid cap
      cases hq : C.isOrc fid with
      | false =>
        simp only [hq, cond_false] at hs
        cases hx with
        | clo vs g1 g2 =>
          obtain ⟨hcal, hcall⟩ := restA_sim (slot := slot) (k := slotsOf C o.op) (vs := args.map a.eval ++ vs) hC hm (by simp [g1]) (fun i x hi => by
            rw [List.getElem?_append] at hi
            simp only [List.length_map, Array.length_toList] at hi
            split at hi
            · rename_i hlt
              simp only [List.getElem?_map, Option.map_eq_some_iff] at hi
              obtain ⟨y, hy, rfl⟩ := hi
              have hy' : args[i] = y := by simpa [hlt] using hy
              rw [getD_some (u := a.eval y) (by rw [Array.getElem?_append_left (by simpa using hlt)]; simp [hlt, hy'])]
              exact hv y
            · rename_i hge
              have hlt : i - args.size < vs.size := by rw [g1]; exact (List.getElem?_eq_some_iff.1 hi).1
              have := g2 _ x hi
              rw [getD_eq hlt] at this
              rw [getD_some (u := vs[i - args.size]) (by rw [Array.getElem?_append_right (by simpa using hge)]; simp [hlt])]
              exact this) (fun g' hg' => by
              unfold newOf at hg'
              split at hg'
              · rename_i g1 
                cases hz : Nat.beq (C.nw g1) 0 with
                | true => simp only [hz, cond_true] at hg'; cases hg'
                | false =>
                  simp only [hz, cond_false, Option.some.injEq] at hg'
                  subst hg'
                  have e0 : slotsOf C o.op = C.nw g1 := by rw [hop]; rfl
                  rw [e0]
                  exact ⟨rfl, fun h0 => by rw [h0] at hz; cases hz⟩
              · cases hg') hsl0 hs hc
          intro K Q hK
          unfold Oper.wp
          have hr : (execOp a.eval o).run C.P w = .ok (.enter fid (args.map a.eval ++ vs)) w := by
            simp [execOp, hop, resolve, hvx, Deferred.ofValue, invoke, callFunc_run hcal]
          rw [hr]
          simp only [Oper.upon]
          refine hcall.mono fun en w' hw' => ?_
          obtain ⟨v, R', ρ', rfl, k1, k2, k3⟩ := hw'
          exact hK R' ρ' w' v k1 k2 (fun h0 => funext fun b => k2.ho b (by rw [h0]; omega)) k3
      | true =>
        simp only [hq, cond_true] at hs
        cases hx with
        | clo vs g1 g2 =>
          have hcs := callA_sim (slot := slot) (n := slotsOf C o.op) (vs := args.map a.eval ++ vs) hC hm (by simp [g1]) (fun i x hi => by
            rw [List.getElem?_append] at hi
            simp only [List.length_map, Array.length_toList] at hi
            split at hi
            · rename_i hlt
              simp only [List.getElem?_map, Option.map_eq_some_iff] at hi
              obtain ⟨y, hy, rfl⟩ := hi
              have hy' : args[i] = y := by simpa [hlt] using hy
              rw [getD_some (u := a.eval y) (by rw [Array.getElem?_append_left (by simpa using hlt)]; simp [hlt, hy'])]
              exact hv y
            · rename_i hge
              have hlt : i - args.size < vs.size := by rw [g1]; exact (List.getElem?_eq_some_iff.1 hi).1
              have := g2 _ x hi
              rw [getD_eq hlt] at this
              rw [getD_some (u := vs[i - args.size]) (by rw [Array.getElem?_append_right (by simpa using hge)]; simp [hlt])]
              exact this) hq hs hc
          rcases hcs with ⟨hcal, hcall⟩ | ⟨v, e1, e2, e3⟩
          rotate_left
          · exact .val hm (v := v) (by
              simp only [execOp, hop, resolve, hvx, Deferred.ofValue, invoke] 
              simpa using e1) e2 e3
          intro K Q hK
          unfold Oper.wp
          have hr : (execOp a.eval o).run C.P w = .ok (.enter fid (args.map a.eval ++ vs)) w := by
            simp [execOp, hop, resolve, hvx, Deferred.ofValue, invoke, callFunc_run hcal]
          rw [hr]
          simp only [Oper.upon]
          refine hcall.mono fun en w' hw' => ?_
          obtain ⟨v, R', rfl, k1, k2, k3⟩ := hw'
          exact hK R' ρ w' v k1 k2 (fun _ => rfl) k3
  | _ => simp [simple, hop] at hs

end
end Go.Flat
end

section
/- A region that draws its order: what is not ordered may be swapped. -/
set_option linter.unusedSimpArgs false
set_option linter.unusedVariables false
namespace Go.Flat
open Go

/-! ### what an operation reads and writes -/

/-- two memories agree on a range -/
def agree (m m' : Mem) (r : Rng) : Prop :=
  getSlot m r.1 = getSlot m' r.1 ∨
  (r.2.2 ≠ 0 ∧ ∃ cs cs' fr, getSlot m r.1 = some ⟨.one cs, fr⟩ ∧ getSlot m' r.1 = some ⟨.one cs', fr⟩ ∧ cs.length = cs'.length ∧ ∀ j, r.2.1 ≤ j → j < r.2.1 + r.2.2 → cs[j]? = cs'[j]?)

theorem agree_whole {m m' : Mem} {b : Nat} (h : agree m m' (whole b)) : getSlot m b = getSlot m' b := by
  rcases h with h | ⟨h, _⟩
  · exact h
  · exact absurd rfl h

theorem takeN_congr : ∀ (n : Nat) (l l' : List AV), (∀ j, j < n → l[j]? = l'[j]?) → takeN n l = takeN n l'
  | 0, l, l', _ => by simp [takeN]
  | n + 1, [], [], _ => rfl
  | n + 1, a :: l, [], h => by have := h 0 (by omega); simp at this
  | n + 1, [], a :: l, h => by have := h 0 (by omega); simp at this
  | n + 1, a :: l, b :: l', h => by
    have h0 := h 0 (by omega)
    simp at h0
    subst h0
    simp only [takeN]
    rw [takeN_congr n l l' (fun j hj => by have := h (j + 1) (by omega); simpa using this)]

theorem behind_local {m m' : Mem} {n : Nat} {a : AV} {cs : List AV} {g : List Rng} (h : behind m n a = some (cs, g)) (hn : n ≠ 0) (ha : ∀ r ∈ g, agree m m' r) :
    ∃ cs', behind m' n a = some (cs', g) ∧ ∀ j, j < n → cs[j]? = cs'[j]? := by
  cases a with
  | vptr c => simp [behind] at h; obtain ⟨rfl, rfl⟩ := h; exact ⟨c, rfl, fun _ _ => rfl⟩
  | ptr b esz row off =>
    simp only [behind] at h
    cases hs : getSlot m b with
    | none => simp [hs] at h
    | some s =>
      obtain ⟨blk, fr⟩ := s
      cases blk with
      | one c =>
        simp only [hs] at h
        cases hr : Nat.beq row 0 with
        | false => simp [hr] at h
        | true =>
          simp [hr] at h
          obtain ⟨rfl, rfl⟩ := h
          rcases ha _ List.mem_cons_self with h1 | ⟨_, c1, c2, fr', h1, h2, h3, h4⟩
          · simp only at h1
            rw [hs] at h1
            exact ⟨c.drop off, by simp [behind, ← h1, hr], fun _ _ => rfl⟩
          · simp only at h1 h2 h4
            rw [hs] at h1
            cases h1
            refine ⟨c2.drop off, by simp [behind, h2, hr], fun j hj => ?_⟩
            rw [List.getElem?_drop, List.getElem?_drop]
            exact h4 _ (by omega) (by omega)
      | many et esz' fl rows =>
        simp only [hs] at h
        cases he : Nat.beq esz esz' with
        | false => simp [he] at h
        | true =>
          cases hr : rows[row]? with
          | none => simp [he, hr] at h
          | some r =>
            simp [he, hr] at h
            obtain ⟨rfl, rfl⟩ := h
            have h1 := agree_whole (ha _ List.mem_cons_self)
            rw [hs] at h1
            exact ⟨r.drop off, by simp [behind, ← h1, he, hr], fun _ _ => rfl⟩
  | _ => simp [behind] at h

theorem loadA_local {P : Program} {m m' : Mem} {t : TypeId} {a v : AV} {g : List Rng} (h : loadA P m t a = some (v, g)) (ha : ∀ r ∈ g, agree m m' r) : loadA P m' t a = some (v, g) := by
  unfold loadA at h ⊢
  cases ht : aggT P t with
  | none => simp [ht] at h
  | some b =>
    cases b with
    | true =>
      simp only [ht] at h ⊢
      cases hn : szOf P t with
      | none => simp [hn] at h
      | some n =>
        simp only [hn] at h ⊢
        cases hb : behind m n a with
        | none => simp [hb] at h
        | some p =>
          obtain ⟨cs, g'⟩ := p
          simp only [hb] at h
          cases hk : takeN n cs with
          | none => simp [hk] at h
          | some l =>
            simp [hk] at h
            obtain ⟨rfl, rfl⟩ := h
            by_cases hn0 : n = 0
            · subst hn0
              simp [takeN] at hk
              subst hk
              -- a range of length 0 is the whole block
              cases a with
              | vptr c => simp [behind] at hb; obtain ⟨rfl, rfl⟩ := hb; simp [behind, takeN]
              | ptr b esz row off =>
                have hb2 := hb
                simp only [behind] at hb
                cases hs : getSlot m b with
                | none => simp [hs] at hb
                | some s =>
                  have hg : (b, off, 0) ∈ g' ∨ whole b ∈ g' := by
                    obtain ⟨blk, fr⟩ := s
                    cases blk with
                    | one c =>
                      simp only [hs] at hb
                      cases hr : Nat.beq row 0 with
                      | false => simp [hr] at hb
                      | true => simp [hr] at hb; left; rw [← hb.2]; simp
                    | many et esz' fl rows =>
                      simp only [hs] at hb
                      cases he : Nat.beq esz esz' with
                      | false => simp [he] at hb
                      | true =>
                        cases hr : rows[row]? with
                        | none => simp [he, hr] at hb
                        | some r => simp [he, hr] at hb; right; rw [← hb.2]; simp
                  have hsame : getSlot m b = getSlot m' b := by
                    rcases hg with hg | hg
                    · rcases ha _ hg with h1 | ⟨h1, _⟩
                      · exact h1
                      · exact absurd rfl h1
                    · exact agree_whole (ha _ hg)
                  have : behind m' 0 (.ptr b esz row off) = behind m 0 (.ptr b esz row off) := by simp only [behind, hsame]
                  rw [this, hb2]
                  simp [takeN]
              | _ => simp [behind] at hb
            · obtain ⟨cs', h1, h2⟩ := behind_local hb hn0 ha
              rw [h1]
              simp only
              rw [← takeN_congr n cs cs' h2, hk]
    | false =>
      simp only [ht] at h ⊢
      cases hb : behind m 1 a with
      | none => simp [hb] at h
      | some p =>
        obtain ⟨cs, g'⟩ := p
        cases cs with
        | nil => simp [hb] at h
        | cons c cs =>
          simp [hb] at h
          obtain ⟨rfl, rfl⟩ := h
          obtain ⟨cs', h1, h2⟩ := behind_local hb (by omega) ha
          rw [h1]
          have := h2 0 (by omega)
          cases cs' with
          | nil => simp at this
          | cons c' cs' => simp at this; subst this; rfl

theorem storeA_local {P : Program} {m m' : Mem} {t : TypeId} {a x : AV} {e : Eff} (h : storeA P m t a x = some e) (ha : ∀ r ∈ e.reads ++ e.writes, agree m m' r) : storeA P m' t a x = some e := by
  cases a with
  | ptr b esz row off =>
    simp only [storeA] at h ⊢
    cases hn : szOf P t with
    | none => simp [hn] at h
    | some n =>
      simp only [hn] at h ⊢
      cases hg : (Nat.beq x.cells.length n && x.cells.all AV.leaf && !Nat.beq n 0) with
      | false => simp [hg] at h
      | true =>
        simp only [hg, cond_true] at h ⊢
        cases hs : getSlot m b with
        | none => simp [hs] at h
        | some s =>
          obtain ⟨blk, fr⟩ := s
          cases fr with
          | true => cases blk <;> simp [hs] at h
          | false =>
            cases blk with
            | one cs =>
              simp only [hs] at h
              cases hq : (Nat.beq row 0 && Nat.ble (off + n) cs.length) with
              | false => simp [hq] at h
              | true =>
                simp [hq] at h
                subst h
                rcases ha (b, off, n) (by simp) with h1 | ⟨_, c1, c2, fr', h1, h2, h3, _⟩
                · simp only at h1
                  rw [hs] at h1
                  simp [← h1, hq]
                · simp only at h1 h2
                  rw [hs] at h1
                  cases h1
                  simp [h2, ← h3, hq]
            | many et esz' fl rows =>
              have hw : whole b ∈ e.reads ++ e.writes := by
                simp only [hs] at h
                cases he : Nat.beq esz esz' with
                | false => simp [he] at h
                | true =>
                  simp only [he, cond_true] at h
                  cases hw : (Nat.beq off 0 && Nat.beq n esz) with
                  | true => simp [hw] at h; subst h; simp
                  | false =>
                    simp only [hw, cond_false] at h
                    cases hr : rows[row]? with
                    | none => simp [hr] at h
                    | some r =>
                      simp only [hr] at h
                      cases hb : Nat.ble (off + n) r.length with
                      | false => simp [hb] at h
                      | true => simp [hb] at h; subst h; simp
              have h1 := agree_whole (ha _ hw)
              rw [← h1]
              exact h
  | _ => simp [storeA] at h

theorem viewFlat_local {m m' : Mem} {a v : AV} {tb : List Nat} {g : List Bool} (h : viewFlat m a = some (v, tb, g)) (ha : ∀ b ∈ tb, getSlot m b = getSlot m' b) : viewFlat m' a = some (v, tb, g) := by
  cases a with
  | ptr b esz row off =>
    have hb : b ∈ tb := by
      simp only [viewFlat] at h
      cases hs : getSlot m b with
      | none => simp [hs] at h
      | some s =>
        obtain ⟨blk, fr⟩ := s
        cases blk with
        | one cs =>
          simp only [hs] at h
          cases hq : (Nat.beq row 0 && cs.all noLoc) with
          | false => simp [hq] at h
          | true => simp [hq] at h; rw [← h.2.1]; simp
        | many et esz' fl rows =>
          cases fl with
          | false => simp [hs] at h
          | true =>
            simp only [hs] at h
            cases he : Nat.beq esz esz' with
            | false => simp [he] at h
            | true =>
              cases hr : rows[row]? with
              | none => simp [he, hr] at h
              | some r => simp [he, hr] at h; rw [← h.2.1]; simp
    simp only [viewFlat] at h ⊢
    rw [← ha b hb]
    exact h
  | lsl kn b et esz len =>
    have hb : b ∈ tb := by
      simp only [viewFlat] at h
      cases hs : getSlot m b with
      | none => simp [hs] at h
      | some s =>
        obtain ⟨blk, fr⟩ := s
        cases blk with
        | one cs => simp [hs] at h
        | many et' esz' fl rows =>
          cases fl with
          | false => simp [hs] at h
          | true =>
            simp only [hs] at h
            cases he : (Nat.beq et et' && Nat.beq esz esz') with
            | false => simp [he] at h
            | true => simp [he] at h; rw [← h.2.1]; simp
    simp only [viewFlat] at h ⊢
    rw [← ha b hb]
    exact h
  | clo f cs => cases cs <;> exact h
  | _ => exact h

theorem viewCells_local {m m' : Mem} : ∀ {args vs : List AV} {tb : List Nat} {g : List Bool}, viewCells m args = some (vs, tb, g) → (∀ b ∈ tb, getSlot m b = getSlot m' b) → viewCells m' args = some (vs, tb, g)
  | [], vs, tb, g, h, _ => h
  | x :: args, vs, tb, g, h, ha => by
    simp only [viewCells] at h ⊢
    cases h1 : viewFlat m x with
    | none => simp [h1] at h
    | some p =>
      obtain ⟨v, b1, g1⟩ := p
      simp only [h1] at h
      cases hlf : v.leaf with
      | false => simp [hlf] at h
      | true =>
      cases h2 : viewCells m args with
      | none => simp [hlf, h2] at h
      | some p2 =>
        obtain ⟨vs2, b2, g2⟩ := p2
        simp only [hlf, cond_true, h2, Option.some.injEq, Prod.mk.injEq] at h
        obtain ⟨rfl, rfl, rfl⟩ := h
        rw [viewFlat_local h1 (fun b hb => ha b (by simp [hb])), viewCells_local h2 (fun b hb => ha b (by simp [hb]))]
        simp [hlf]

theorem viewTop_local {m m' : Mem} {a v : AV} {tb : List Nat} {g : List Bool} (h : viewTop m a = some (v, tb, g)) (ha : ∀ b ∈ tb, getSlot m b = getSlot m' b) : viewTop m' a = some (v, tb, g) := by
  cases a with
  | agg cs =>
    simp only [viewTop] at h ⊢
    cases h2 : viewCells m cs with
    | none => simp [h2] at h
    | some p2 =>
      obtain ⟨vs2, b2, g2⟩ := p2
      simp only [h2, Option.some.injEq, Prod.mk.injEq] at h
      obtain ⟨rfl, rfl, rfl⟩ := h
      rw [viewCells_local h2 ha]
  | _ => simp only [viewTop] at h ⊢; exact viewFlat_local h ha

theorem viewAll_local {m m' : Mem} : ∀ {args vs : List AV} {tb : List Nat} {g : List Bool}, viewAll m args = some (vs, tb, g) → (∀ b ∈ tb, getSlot m b = getSlot m' b) → viewAll m' args = some (vs, tb, g)
  | [], vs, tb, g, h, _ => h
  | x :: args, vs, tb, g, h, ha => by
    simp only [viewAll] at h ⊢
    cases h1 : viewTop m x with
    | none => simp [h1] at h
    | some p =>
      obtain ⟨v, b1, g1⟩ := p
      cases h2 : viewAll m args with
      | none => simp [h1, h2] at h
      | some p2 =>
        obtain ⟨vs2, b2, g2⟩ := p2
        simp only [h1, h2, Option.some.injEq, Prod.mk.injEq] at h
        obtain ⟨rfl, rfl, rfl⟩ := h
        rw [viewTop_local h1 (fun b hb => ha b (by simp [hb])), viewAll_local h2 (fun b hb => ha b (by simp [hb]))]

theorem freeze_local {m m' : Mem} : ∀ (tb : List Nat), (∀ b ∈ tb, getSlot m b = getSlot m' b) → freeze m tb = freeze m' tb
  | [], _ => rfl
  | b :: tb, h => by
    simp only [Flat.freeze]
    rw [h b List.mem_cons_self, freeze_local tb (fun b hb => h b (List.mem_cons_of_mem _ hb))]

theorem callA_local {C : Ctx} {m m' : Mem} {g : FuncId} {args : List AV} {e : Eff} (h : callA C m g args = some e) (ha : ∀ r ∈ e.reads ++ e.writes, agree m m' r) : callA C m' g args = some e := by
  unfold callA at h ⊢
  cases h1 : viewAll m args with
  | none => simp [h1] at h
  | some p =>
    obtain ⟨vs, tb, gv⟩ := p
    simp only [h1] at h
    have htb : ∀ b ∈ tb, getSlot m b = getSlot m' b := by
      intro b hb
      refine agree_whole (ha _ ?_)
      cases h2 : C.orc g vs with
      | none => simp [h2] at h
      | some q =>
        obtain ⟨r, gr⟩ := q
        cases hn : noRefs r <;> simp [h2, hn] at h <;> subst h <;> simp <;> first | exact .inl ⟨b, hb, rfl⟩ | exact ⟨b, hb, rfl⟩
    rw [viewAll_local h1 htb]
    simp only
    rw [← freeze_local tb htb]
    exact h

theorem addNew_acc (base : Nat) : ∀ (l acc : List Nat) {b : Nat}, b ∈ acc → b ∈ addNew base acc l
  | [], acc, b, h => h
  | c :: l, acc, b, h => by
    unfold addNew
    cases (Nat.blt c base || acc.any (Nat.beq c)) with
    | true => exact addNew_acc base l acc h
    | false => exact addNew_acc base l (acc ++ [c]) (by simp [h])
theorem flatMap_same {f f' : Nat → List Nat} : ∀ {l : List Nat}, (∀ b ∈ l, f b = f' b) → l.flatMap f = l.flatMap f'
  | [], _ => rfl
  | a :: l, h => by
    rw [List.flatMap_cons, List.flatMap_cons, h a List.mem_cons_self, flatMap_same (fun b hb => h b (List.mem_cons_of_mem _ hb))]
theorem closeOf_local {m m' : Mem} {args : List AV} (h : ∀ b ∈ closeOf m args, getSlot m b = getSlot m' b) : closeOf m' args = closeOf m args := by
  unfold closeOf at h ⊢
  simp only at h ⊢
  rw [flatMap_same (f := fun b => slotLocs (getSlot m' b)) (f' := fun b => slotLocs (getSlot m b)) fun b hb => by
    show slotLocs (getSlot m' b) = slotLocs (getSlot m b)
    rw [h b (addNew_acc 0 _ _ hb)]]
theorem mutA_local {C : Ctx} {m m' : Mem} {g : FuncId} {args : List AV} {e : Eff} (h : mutA C m g args = some e) (ha : ∀ r ∈ e.reads ++ e.writes, agree m m' r) : mutA C m' g args = some e := by
  have key : ∀ b ∈ closeOf m args, getSlot m b = getSlot m' b := by
    have hr : e.reads = (closeOf m args).map whole := by
      unfold mutA at h
      cases hw : C.wl g with
      | none => simp [hw] at h
      | some run =>
        simp only [hw] at h
        generalize hbs : closeOf m args = bs at h
        cases hck : (nodupB bs && (args.all (okP1 (inL bs)) && (bs.map (getSlot m)).all fun s => s.isSome && slotP (inL bs) s)) with
        | false => simp only [hck, cond_false] at h; cases h
        | true =>
        simp only [hck, cond_true] at h
        cases hq : run (args.map (ren1 fun b => idxOf b bs)) ((bs.map (getSlot m)).map fun s => s.map (renSlot fun b => idxOf b bs)) with
        | none => simp only [hq] at h; cases h
        | some q =>
          obtain ⟨r, m1, cs⟩ := q
          simp only [hq] at h
          cases hck2 : (Nat.beq m1.length bs.length && (resP (fun b => Nat.blt b bs.length) r && m1.all fun s => s.isSome && slotP (fun b => Nat.blt b bs.length) s)) with
          | false => simp only [hck2, cond_false] at h; cases h
          | true =>
            simp only [hck2, cond_true, Option.some.injEq] at h
            subst h
            rfl
    intro b hb
    refine agree_whole (ha _ ?_)
    rw [hr]
    exact List.mem_append.2 (.inl (List.mem_map.2 ⟨b, hb, rfl⟩))
  have e1 := closeOf_local key
  have e2 : (closeOf m args).map (getSlot m') = (closeOf m args).map (getSlot m) := List.map_congr_left fun b hb => (key b hb).symm
  have e3 : mutA C m' g args = mutA C m g args := by
    unfold mutA
    cases C.wl g with
    | none => rfl
    | some run =>
      simp only
      rw [e1, e2]
  rw [e3]; exact h

theorem readA_local {C : Ctx} {m m' : Mem} {g : FuncId} {args : List AV} {e : Eff} (h : readA C m g args = some e) (ha : ∀ r ∈ e.reads ++ e.writes, agree m m' r) : readA C m' g args = some e := by
  unfold readA at h ⊢
  cases hrd : C.rd g with
  | none => simp only [hrd] at h ⊢; exact mutA_local h ha
  | some run =>
    simp only [hrd] at h ⊢
    cases hr : (run args).2 ((run args).1.map (getSlot m)) with
    | none => simp [hr] at h
    | some q =>
      obtain ⟨r, cs⟩ := q
      simp only [hr, Option.some.injEq] at h
      subst h
      have e2 : (run args).1.map (getSlot m') = (run args).1.map (getSlot m) := List.map_congr_left fun b hb => (agree_whole (ha (whole b) (List.mem_append.2 (.inl (List.mem_map.2 ⟨b, hb, rfl⟩))))).symm
      rw [e2, hr]

theorem restA_local {C : Ctx} {m m' : Mem} {slot : Nat} {fo : Operand} {g : FuncId} {args : List AV} {e : Eff} (h : restA C m slot fo g args = some e) (ha : ∀ r ∈ e.reads ++ e.writes, agree m m' r) : restA C m' slot fo g args = some e := by
  unfold restA at h ⊢
  split at h
  · exact h
  · exact readA_local h ha

theorem appendA_local {P : Program} {m m' : Mem} {slot : Nat} {t : TypeId} {s x : AV} {e : Eff} (h : appendA P m slot t s x = some e) (ha : ∀ r ∈ e.reads ++ e.writes, agree m m' r) : appendA P m' slot t s x = some e := by
  unfold appendA at h ⊢
  cases hu : P.underlying t with
  | none => simp [hu] at h
  | some d =>
    cases d with
    | slice el =>
      simp only [hu] at h ⊢
      cases hn : szOf P el with
      | none => simp [hn] at h
      | some n =>
        simp only [hn] at h ⊢
        cases hq : (Nat.beq n 0 || !bytesOk P el || !elemOk P el n) with
        | true => simp [hq] at h
        | false =>
          simp only [hq, cond_false] at h ⊢
          cases hv : viewFlat m x with
          | none => simp [hv] at h
          | some p =>
            obtain ⟨x', tx, gx⟩ := p
            simp only [hv] at h
            cases hadd : addOf n x' with
            | none => simp [hadd] at h
            | some p2 =>
              obtain ⟨rows2, kx⟩ := p2
              simp only [hadd] at h
              cases s with
              | nsl =>
                simp only [Option.some.injEq] at h
                subst h
                rw [viewFlat_local hv (fun b hb => agree_whole (ha _ (by simp; exact .inl ⟨b, hb, rfl⟩)))]
                simp [hadd]
              | lsl kn b et n' len =>
                simp only at h
                cases hs : getSlot m b with
                | none => simp [hs] at h
                | some s0 =>
                  obtain ⟨blk, fr⟩ := s0
                  cases blk with
                  | one cs => simp [hs] at h
                  | many et' n'' fl rows =>
                    cases fl with
                    | false => simp [hs] at h
                    | true =>
                      cases fr with
                      | true => simp [hs] at h
                      | false =>
                        simp only [hs] at h
                        cases hg : (Nat.beq el et && Nat.beq el et' && Nat.beq n n' && Nat.beq n n'') with
                        | false => simp [hg] at h
                        | true =>
                          simp only [hg, cond_true, Option.some.injEq] at h
                          subst h
                          have h1 := agree_whole (ha (whole b) (by simp))
                          rw [hs] at h1
                          rw [viewFlat_local hv (fun b hb => agree_whole (ha _ (by simp; exact .inl ⟨b, hb, rfl⟩)))]
                          simp [hadd, ← h1, hg]
              | _ => simp at h
    | _ => simp [hu] at h

/-- an operation sees no more of memory than it says -/
theorem simple_local {C : Ctx} {m m' : Mem} {slot : Nat} {f : Operand → AV} {o : Oper} {e : Eff} (h : simple C m slot f o = some e) (ha : ∀ r ∈ e.reads ++ e.writes, agree m m' r) : simple C m' slot f o = some e := by
  cases hop : o.op with
  | load t x =>
    simp only [simple, hop] at h ⊢
    cases hl : loadA C.P m t (f x) with
    | none => simp [hl] at h
    | some p =>
      obtain ⟨v, g⟩ := p
      simp [hl] at h
      subst h
      rw [loadA_local hl (fun r hr => ha r (by simp [hr]))]
  | store t x y =>
    simp only [simple, hop] at h ⊢
    exact storeA_local h ha
  | call cl =>
    obtain ⟨callee, args, argTypes⟩ := cl
    cases callee with
    | invoke r m => simp [simple, hop] at h
    | builtin b =>
      cases b with
      | append =>
        simp only [simple, hop] at h ⊢
        cases hA : args.toList with
        | nil => simp [hA] at h
        | cons x xs =>
          cases xs with
          | nil => simp [hA] at h
          | cons y ys =>
            cases ys with
            | cons z zs => simp [hA] at h
            | nil =>
              cases hT : argTypes.toList with
              | nil => simp [hA, hT] at h
              | cons t ts =>
                cases ts with
                | nil => simp [hA, hT] at h
                | cons t' ts' =>
                  cases ts' with
                  | cons t'' ts'' => simp [hA, hT] at h
                  | nil =>
                    simp only [hA, hT, List.map_cons, List.map_nil] at h ⊢
                    cases hb : Nat.beq t t' with
                    | false => simp [hb] at h
                    | true =>
                      simp only [hb, cond_true] at h ⊢
                      exact appendA_local h ha
      | _ => simpa only [simple, hop] using h
    | value g =>
      simp only [simple, hop] at h ⊢
      cases hfx : f g <;> simp only [hfx] at h ⊢ <;> try (cases h; done)
      rename_i fid cap
      cases hq : C.isOrc fid with
      | false =>
        simp only [hq, cond_false] at h ⊢
        exact restA_local h ha
      | true =>
        simp only [hq, cond_true] at h ⊢
        exact callA_local h ha
  | typeAssert x xt t ok => cases ok <;> simpa only [simple, hop] using h
  | slice t x lo hi mx => cases lo <;> cases hi <;> cases mx <;> simpa only [simple, hop] using h
  | _ => simpa only [simple, hop] using h

end Go.Flat
end

section
/- A region that draws its order: writes that do not meet may be swapped. -/
set_option linter.unusedSimpArgs false
set_option linter.unusedVariables false
namespace Go.Flat
open Go

theorem bifE {α : Type} {c : Bool} {x : Option α} {e : α} {p : Prop} (h : (bif c then x else none) = some e) (k : x = some e → p) : p := by
  cases c with
  | true => exact k h
  | false => cases h

theorem blt2 {a b c d : Nat} (h : (Nat.blt a b && Nat.blt c d) = false) : ¬ (a < b ∧ c < d) := fun ⟨x, y⟩ => by
  have h1 : Nat.blt a b = true := by rw [Nat.blt_eq]; exact x
  have h2 : Nat.blt c d = true := by rw [Nat.blt_eq]; exact y
  rw [h1, h2] at h
  cases h

def rngOf : W1 → Rng
  | .put b _ => whole b
  | .cells b off vs => (b, off, vs.length)

theorem freeze_rng (mem : Mem) : ∀ (tb : List Nat), ∀ u ∈ freeze mem tb, rngOf u ∈ tb.map whole
  | [], u, hu => by simp [Flat.freeze] at hu
  | b :: tb, u, hu => by
    simp only [Flat.freeze] at hu
    cases hs : getSlot mem b with
    | none => simp only [hs] at hu; exact List.mem_cons_of_mem _ (freeze_rng mem tb u hu)
    | some s =>
      simp only [hs, List.mem_cons] at hu
      rcases hu with rfl | hu
      · exact List.mem_cons_self
      · exact List.mem_cons_of_mem _ (freeze_rng mem tb u hu)

theorem val_upd {v : AV} {g : List Bool} {e : Eff} (h : some (Eff.val v g) = some e) : e.upd = [] := by cases h; rfl

theorem bif_upd {c : Bool} {a e : Eff} (ha : a.upd = []) (h : (bif c then some a else none) = some e) : e.upd = [] := by
  cases c with
  | false => simp at h
  | true => simp at h; rw [← h]; exact ha
theorem valO_upd {x : Option AV} {e : Eff} (h : valO x = some e) : e.upd = [] := by obtain ⟨v, _, rfl⟩ := valO_some h; rfl
theorem detRes_upd {P : Program} {kn : Bool} {s : Sem Value} {e : Eff} (h : detRes P kn s = some e) : e.upd = [] := by obtain ⟨_, v, _, _, rfl⟩ := detRes_some h; rfl

theorem storeA_rng {P : Program} {m : Mem} {t : TypeId} {a x : AV} {e : Eff} (h : storeA P m t a x = some e) : ∀ u ∈ e.upd, rngOf u ∈ e.writes := by
  cases a with
  | ptr b esz row off =>
    simp only [storeA] at h
    cases hn : szOf P t with
    | none => simp [hn] at h
    | some n =>
      simp only [hn] at h
      cases hg : (Nat.beq x.cells.length n && x.cells.all AV.leaf && !Nat.beq n 0) with
      | false => simp [hg] at h
      | true =>
        simp only [hg, cond_true] at h
        simp only [Bool.and_eq_true] at hg
        have hl := Nat.eq_of_beq_eq_true hg.1.1
        cases hs : getSlot m b with
        | none => simp [hs] at h
        | some s =>
          obtain ⟨blk, fr⟩ := s
          cases fr with
          | true => cases blk <;> simp [hs] at h
          | false =>
            cases blk with
            | one cs =>
              simp only [hs] at h
              cases hq : (Nat.beq row 0 && Nat.ble (off + n) cs.length) with
              | false => simp [hq] at h
              | true => simp [hq] at h; subst h; intro u hu; simp at hu; subst hu; simp [rngOf, hl]
            | many et esz' fl rows =>
              simp only [hs] at h
              cases he : Nat.beq esz esz' with
              | false => simp [he] at h
              | true =>
                simp only [he, cond_true] at h
                cases hw : (Nat.beq off 0 && Nat.beq n esz) with
                | true => simp [hw] at h; subst h; intro u hu; simp at hu; subst hu; simp [rngOf]
                | false =>
                  simp only [hw, cond_false] at h
                  cases hr : rows[row]? with
                  | none => simp [hr] at h
                  | some r =>
                    simp only [hr] at h
                    cases hb : Nat.ble (off + n) r.length with
                    | false => simp [hb] at h
                    | true => simp [hb] at h; subst h; intro u hu; simp at hu; subst hu; simp [rngOf]
  | _ => simp [storeA] at h

theorem callA_rng {C : Ctx} {m : Mem} {g : FuncId} {args : List AV} {e : Eff} (h : callA C m g args = some e) : ∀ u ∈ e.upd, rngOf u ∈ e.writes := by
  unfold callA at h
  cases h1 : viewAll m args with
  | none => simp [h1] at h
  | some p =>
    obtain ⟨vs, tb, gv⟩ := p
    simp only [h1] at h
    cases h2 : C.orc g vs with
    | none => simp [h2] at h
    | some q =>
      obtain ⟨r, gr⟩ := q
      cases hn : noRefs r with
      | true => simp [h2, hn] at h; subst h; intro u hu; simp at hu
      | false => simp [h2, hn] at h; subst h; exact freeze_rng m tb

theorem mutA_rng {C : Ctx} {m : Mem} {g : FuncId} {args : List AV} {e : Eff} (h : mutA C m g args = some e) : ∀ u ∈ e.upd, rngOf u ∈ e.writes := by
  unfold mutA at h
  cases hw : C.wl g with
  | none => simp [hw] at h
  | some run =>
    simp only [hw] at h
    generalize hbs : closeOf m args = bs at h
    cases hck : (nodupB bs && (args.all (okP1 (inL bs)) && (bs.map (getSlot m)).all fun s => s.isSome && slotP (inL bs) s)) with
    | false => simp only [hck, cond_false] at h; cases h
    | true =>
    simp only [hck, cond_true] at h
    cases hq : run (args.map (ren1 fun b => idxOf b bs)) ((bs.map (getSlot m)).map fun s => s.map (renSlot fun b => idxOf b bs)) with
    | none => simp only [hq] at h; cases h
    | some q =>
      obtain ⟨r, m1, cs⟩ := q
      simp only [hq] at h
      cases hck2 : (Nat.beq m1.length bs.length && (resP (fun b => Nat.blt b bs.length) r && m1.all fun s => s.isSome && slotP (fun b => Nat.blt b bs.length) s)) with
      | false => simp only [hck2, cond_false] at h; cases h
      | true =>
        simp only [hck2, cond_true, Option.some.injEq] at h
        subst h
        intro u hu
        obtain ⟨x, hx, rfl⟩ := List.mem_map.1 hu
        exact List.mem_map.2 ⟨x.1, (List.of_mem_zip hx).1, rfl⟩

theorem readA_rng {C : Ctx} {m : Mem} {g : FuncId} {args : List AV} {e : Eff} (h : readA C m g args = some e) : ∀ u ∈ e.upd, rngOf u ∈ e.writes := by
  unfold readA at h
  cases hrd : C.rd g with
  | none => simp only [hrd] at h; exact mutA_rng h
  | some run =>
    simp only [hrd] at h
    cases hr : (run args).2 ((run args).1.map (getSlot m)) with
    | none => simp [hr] at h
    | some q => simp only [hr, Option.some.injEq] at h; subst h; intro u hu; cases hu

theorem newA_rng {C : Ctx} {slot : Nat} {g : FuncId} {args : List AV} {e : Eff} (h : newA C slot g args = some e) : ∀ u ∈ e.upd, rngOf u ∈ e.writes := by
  unfold newA at h
  cases hr : C.nwRun g args with
  | none => simp [hr] at h
  | some q =>
    obtain ⟨r, m1, cs⟩ := q
    simp only [hr] at h
    refine bifE h fun h => ?_
    simp only [Option.some.injEq] at h
    subst h
    intro u hu
    obtain ⟨x, hx, rfl⟩ := List.mem_map.1 hu
    exact List.mem_map.2 ⟨x.1, (List.of_mem_zip hx).1, rfl⟩
theorem restA_rng {C : Ctx} {m : Mem} {slot : Nat} {fo : Operand} {g : FuncId} {args : List AV} {e : Eff} (h : restA C m slot fo g args = some e) : ∀ u ∈ e.upd, rngOf u ∈ e.writes := by
  unfold restA at h
  split at h
  · exact bifE h fun h => newA_rng h
  · exact readA_rng h

theorem appendA_rng {P : Program} {m : Mem} {slot : Nat} {t : TypeId} {s x : AV} {e : Eff} (h : appendA P m slot t s x = some e) : ∀ u ∈ e.upd, rngOf u ∈ e.writes := by
  unfold appendA at h
  cases hu : P.underlying t with
  | none => simp [hu] at h
  | some d =>
    cases d with
    | slice el =>
      simp only [hu] at h
      cases hn : szOf P el with
      | none => simp [hn] at h
      | some n =>
        simp only [hn] at h
        cases hq : (Nat.beq n 0 || !bytesOk P el || !elemOk P el n) with
        | true => simp [hq] at h
        | false =>
          simp only [hq, cond_false] at h
          cases hv : viewFlat m x with
          | none => simp [hv] at h
          | some p =>
            obtain ⟨x', tx, gx⟩ := p
            simp only [hv] at h
            cases hadd : addOf n x' with
            | none => simp [hadd] at h
            | some p2 =>
              obtain ⟨rows2, kx⟩ := p2
              simp only [hadd] at h
              cases s with
              | nsl => simp only [Option.some.injEq] at h; subst h; intro u hu; simp at hu; subst hu; simp [rngOf]
              | lsl kn b et n' len =>
                simp only at h
                cases hs : getSlot m b with
                | none => simp [hs] at h
                | some s0 =>
                  obtain ⟨blk, fr⟩ := s0
                  cases blk with
                  | one cs => simp [hs] at h
                  | many et' n'' fl rows =>
                    cases fl with
                    | false => simp [hs] at h
                    | true =>
                      cases fr with
                      | true => simp [hs] at h
                      | false =>
                        simp only [hs] at h
                        cases hg : (Nat.beq el et && Nat.beq el et' && Nat.beq n n' && Nat.beq n n'') with
                        | false => simp [hg] at h
                        | true => simp only [hg, cond_true, Option.some.injEq] at h; subst h; intro u hu; simp at hu; rcases hu with rfl | rfl <;> simp [rngOf]
              | _ => simp at h
    | _ => simp [hu] at h

theorem simple_rng {C : Ctx} {m : Mem} {slot : Nat} {f : Operand → AV} {o : Oper} {e : Eff} (h : simple C m slot f o = some e) : ∀ u ∈ e.upd, rngOf u ∈ e.writes := by
  have nil : e.upd = [] → ∀ u ∈ e.upd, rngOf u ∈ e.writes := fun h u hu => by rw [h] at hu; simp at hu
  have one : ∀ v s g r, some (⟨v, [.put slot s], g, r, [whole slot]⟩ : Eff) = some e → ∀ u ∈ e.upd, rngOf u ∈ e.writes := fun v s g r h u hu => by
    cases h; simp at hu; subst hu; simp [rngOf]
  cases hop : o.op with
  | move x => simp only [simple, hop] at h; exact nil (val_upd h)
  | assign x => simp only [simple, hop] at h; exact nil (val_upd h)
  | pick c x y =>
    simp only [simple, hop] at h
    cases hfc : f c <;> simp [hfc] at h
    rename_i b
    cases b <;> simp at h <;> subst h <;> exact nil rfl
  | alloc t =>
    simp only [simple, hop] at h
    cases hz : zeroA C.P t with
    | none => simp [hz] at h
    | some z =>
      simp only [hz] at h
      cases hl : z.cells.all AV.leaf with
      | false => simp [hl] at h
      | true => simp only [hl, cond_true] at h; exact one _ _ _ _ h
  | box t x =>
    simp only [simple, hop] at h
    cases hl : (f x).cells.all AV.leaf with
    | false => simp [hl] at h
    | true => simp only [hl, cond_true] at h; exact one _ _ _ _ h
  | build t parts => simp only [simple, hop] at h; exact nil (valO_upd h)
  | buildSlice t len parts =>
    simp only [simple, hop] at h
    cases h0 : Nat.beq len 0 with
    | false => simp only [h0, cond_false] at h; exact nil (valO_upd h)
    | true =>
      simp only [h0, cond_true] at h
      unfold emptyA at h
      cases hp : parts.toList with
      | cons p ps => simp [hp] at h
      | nil =>
        simp only [hp] at h
        cases hu : C.P.underlying t with
        | none => simp [hu] at h
        | some d =>
          cases d with
          | slice el =>
            simp only [hu] at h
            cases hn : szOf C.P el with
            | none => simp [hn] at h
            | some n =>
              simp only [hn] at h
              cases hq : Nat.beq n 0 with
              | true => simp [hq] at h
              | false => simp only [hq, cond_false] at h; exact one _ _ _ _ h
          | _ => simp [hu] at h
  | load t x =>
    simp only [simple, hop] at h
    cases hl : loadA C.P m t (f x) with
    | none => simp [hl] at h
    | some p => simp [hl] at h; subst h; exact nil rfl
  | store t x y => simp only [simple, hop] at h; exact storeA_rng h
  | nilCheck x =>
    simp only [simple, hop] at h
    cases hfx : f x <;> simp [hfx] at h <;> subst h <;> exact nil rfl
  | binOp op t x y t' =>
    simp only [simple, hop] at h
    exact nil (binX_upd h)
  | unOp op t x =>
    simp only [simple, hop] at h
    cases hx : leafV (f x) with
    | none => simp [hx] at h
    | some u => simp only [hx] at h; exact nil (detRes_upd h)
  | convert s d x =>
    simp only [simple, hop] at h
    refine nil ?_
    repeat' split at h
    all_goals first | (cases h; done) | exact val_upd h
  | fieldAddr t x fi =>
    simp only [simple, hop] at h
    refine nil ?_
    cases h1 : fieldOf C.P t fi with
    | none => simp [h1] at h
    | some p =>
      obtain ⟨off, u⟩ := p
      simp only [h1] at h
      cases hn : szOf C.P u with
      | none => simp [hn] at h
      | some n =>
        simp only [hn] at h
        cases hq : Nat.beq n 0 with
        | true => simp [hq] at h
        | false => simp only [hq, cond_false] at h; exact valO_upd h
  | field t x fi =>
    simp only [simple, hop] at h
    refine nil ?_
    repeat' split at h
    all_goals first | (cases h; done) | exact valO_upd h
  | indexAddr t x i =>
    simp only [simple, hop, indexAddrA] at h
    refine nil ?_
    have hin : ∀ z len kn v, inB z len kn v = some e → e.upd = [] := fun z len kn v h => by
      unfold inB at h
      cases kn with
      | true => cases hq : (decide (0 ≤ z) && decide (z < (len : Int))) <;> simp [hq] at h; subst h; rfl
      | false => simp at h; subst h; rfl
    cases hz : intOf (f i) with
    | none => simp [hz] at h
    | some zk =>
      obtain ⟨z, kz⟩ := zk
      simp only [hz] at h
      cases hu : C.P.underlying t with
      | none => simp [hu] at h
      | some d =>
        cases d with
        | array len el =>
          simp only [hu] at h
          cases hn : szOf C.P el with
          | none => simp [hn] at h
          | some n =>
            simp only [hn] at h
            cases hp : offPtr (f x) (z.toNat * n) with
            | none => simp [hp] at h
            | some p => simp only [hp] at h; exact hin _ _ _ _ h
        | slice el =>
          simp only [hu] at h
          cases hn : szOf C.P el with
          | none => simp [hn] at h
          | some n =>
            simp only [hn] at h
            cases hfx : f x <;> simp only [hfx] at h <;> try (cases h; done)
            all_goals exact bifE h (fun h => hin _ _ _ _ h)
        | _ => simp [hu] at h
  | slice t x lo hi mx =>
    refine nil ?_
    cases lo <;> cases hi <;> cases mx <;> simp only [simple, hop] at h <;> try (cases h; done)
    unfold sliceFromA at h
    split at h
    · split at h
      · split at h
        · split at h
          · exact bif_upd rfl h
          · cases h
        · cases h
      · cases h
    · cases h
  | extract x i =>
    simp only [simple, hop] at h
    refine nil ?_
    repeat' split at h
    all_goals first | (cases h; done) | exact valO_upd h
  | makeFunc fn first cap =>
    simp only [simple, hop] at h
    refine nil ?_
    repeat' split at h
    all_goals first | (cases h; done) | exact val_upd h
  | makeInterface t x =>
    simp only [simple, hop] at h
    refine nil ?_
    cases hq : (notIface C.P t && (f x).leaf) with
    | false => simp [hq] at h
    | true => simp only [hq, cond_true] at h; exact val_upd h
  | typeAssert x xt t ok =>
    cases ok with
    | false => simp [simple, hop] at h
    | true =>
      simp only [simple, hop] at h
      refine nil ?_
      cases hfx : f x <;> simp only [hfx] at h <;> try (cases h; done)
      rename_i u v
      cases hq : notIface C.P t with
      | false => simp [hq] at h
      | true =>
        simp only [hq, cond_true] at h
        cases hb : Nat.beq u t with
        | true => simp only [hb, cond_true] at h; exact val_upd h
        | false =>
          simp only [hb, cond_false] at h
          cases hz : zeroA C.P t with
          | none => simp [hz] at h
          | some z =>
            cases hzl : z.cells.all AV.leaf with
            | false => simp [hz, hzl] at h
            | true => simp only [hz, hzl, cond_true] at h; exact val_upd h
  | makeSlice t l c =>
    simp only [simple, hop] at h
    cases hu : C.P.underlying t with
    | none => simp [hu] at h
    | some d =>
      cases d with
      | slice el =>
        simp only [hu] at h
        cases hz : intOf (f l) with
        | none => simp [hz] at h
        | some zk =>
          cases hz' : intOf (f c) with
          | none => simp [hz, hz'] at h
          | some zk' =>
            simp only [hz, hz'] at h
            cases hn : szOf C.P el with
            | none => simp [hn] at h
            | some n =>
              cases hzr : zeroA C.P el with
              | none => simp [hn, hzr] at h
              | some zr =>
                simp only [hn, hzr] at h
                cases hq : (zr.cells.all AV.leaf && zr.cells.all noLoc && Nat.beq zr.cells.length n && !Nat.beq n 0 && bytesOk C.P el) with
                | false => simp [hq] at h
                | true => simp only [hq, cond_true] at h; exact one _ _ _ _ h
      | _ => simp [hu] at h
  | call cl =>
    obtain ⟨callee, args, argTypes⟩ := cl
    cases callee with
    | invoke r m => simp [simple, hop] at h
    | builtin b =>
      cases b with
      | append =>
        simp only [simple, hop] at h
        cases hA : args.toList with
        | nil => simp [hA] at h
        | cons x xs =>
          cases xs with
          | nil => simp [hA] at h
          | cons y ys =>
            cases ys with
            | cons z zs => simp [hA] at h
            | nil =>
              cases hT : argTypes.toList with
              | nil => simp [hA, hT] at h
              | cons t ts =>
                cases ts with
                | nil => simp [hA, hT] at h
                | cons t' ts' =>
                  cases ts' with
                  | cons t'' ts'' => simp [hA, hT] at h
                  | nil =>
                    simp only [hA, hT, List.map_cons, List.map_nil] at h
                    cases hb : Nat.beq t t' with
                    | false => simp [hb] at h
                    | true => simp only [hb, cond_true] at h; exact appendA_rng h
      | len =>
        simp only [simple, hop] at h
        refine nil ?_
        repeat' split at h
        all_goals first | (cases h; done) | exact valO_upd h
      | max =>
        simp only [simple, hop] at h
        refine nil ?_
        repeat' split at h
        all_goals first | (cases h; done) | exact detRes_upd h
      | min =>
        simp only [simple, hop] at h
        refine nil ?_
        repeat' split at h
        all_goals first | (cases h; done) | exact detRes_upd h
      | _ => simp [simple, hop] at h
    | value g =>
      simp only [simple, hop] at h
      cases hfx : f g <;> simp only [hfx] at h <;> try (cases h; done)
      rename_i fid cap
      cases hq : C.isOrc fid with
      | false => simp only [hq, cond_false] at h; exact restA_rng h
      | true => simp only [hq, cond_true] at h; exact callA_rng h
  | _ => simp [simple, hop] at h

/-! ### applying writes -/

theorem apply1_length (m : Mem) (u : W1) : (apply1 m u).length = m.length := by
  cases u with
  | put b s => simp [apply1]
  | cells b off vs => simp only [apply1]; split <;> simp
theorem applyU_length : ∀ (u : Upd) (m : Mem), (applyU m u).length = m.length
  | [], m => rfl
  | x :: u, m => by
    have := applyU_length u (apply1 m x)
    simp only [applyU, List.foldl_cons] at this ⊢
    rw [this, apply1_length]

theorem getSlot_get {m m' : Mem} {b : Nat} (h : m[b]? = m'[b]?) : getSlot m b = getSlot m' b := by unfold getSlot; rw [h]

theorem apply1_other {m : Mem} {u : W1} {b : Nat} (h : b ≠ (rngOf u).1) : (apply1 m u)[b]? = m[b]? := by
  cases u with
  | put b' s => simp only [rngOf, whole] at h; simp only [apply1]; rw [List.getElem?_set_ne (Ne.symm h)]
  | cells b' off vs =>
    simp only [rngOf] at h
    simp only [apply1]
    split
    · rw [List.getElem?_set_ne (Ne.symm h)]
    · rfl

theorem agree_refl (m : Mem) (r : Rng) : agree m m r := .inl rfl

theorem agree_trans {m m' m'' : Mem} {r : Rng} (h : agree m m' r) (h' : agree m' m'' r) : agree m m'' r := by
  rcases h with h | ⟨hn, c1, c2, fr, h1, h2, h3, h4⟩
  · rcases h' with h' | ⟨hn, c1, c2, fr, k1, k2, k3, k4⟩
    · exact .inl (h.trans h')
    · exact .inr ⟨hn, c1, c2, fr, h.trans k1, k2, k3, k4⟩
  · rcases h' with h' | ⟨_, d1, d2, fr', k1, k2, k3, k4⟩
    · exact .inr ⟨hn, c1, c2, fr, h1, h'.symm.trans h2, h3, h4⟩
    · rw [h2] at k1
      cases k1
      exact .inr ⟨hn, c1, d2, fr, h1, k2, h3.trans k3, fun j j1 j2 => (h4 j j1 j2).trans (k4 j j1 j2)⟩

theorem agree_apply1 {m : Mem} {u : W1} {r : Rng} (h : meet1 (rngOf u) r = false) : agree m (apply1 m u) r := by
  by_cases hb : r.1 = (rngOf u).1
  · unfold meet1 at h
    rw [← hb, Nat.beq_refl, Bool.true_and, Bool.or_eq_false_iff, Bool.or_eq_false_iff] at h
    obtain ⟨⟨h1, h2⟩, h3⟩ := h
    cases u with
    | put b' s => simp [rngOf, whole] at h1
    | cells b' off vs =>
      simp only [rngOf] at hb h1 h3
      have hn : r.2.2 ≠ 0 := fun e => by rw [e] at h2; simp at h2
      by_cases hone : ∃ cs fr, m[b']? = some (some ⟨.one cs, fr⟩)
      · obtain ⟨cs, fr, hm⟩ := hone
        have hl : b' < m.length := (List.getElem?_eq_some_iff.1 hm).1
        refine .inr ⟨hn, cs, over cs off vs, fr, ?_, ?_, (length_over cs off vs).symm, fun j j1 j2 => ?_⟩
        · rw [hb]; simp [getSlot, hm]
        · have e : apply1 m (.cells b' off vs) = m.set b' (some ⟨.one (over cs off vs), fr⟩) := by simp only [apply1, hm]
          rw [hb, e, getSlot_set hl, if_pos rfl]
        · rw [get_over, if_neg]
          rintro ⟨k1, k2, _⟩
          have := blt2 h3
          omega
      · refine .inl (getSlot_get ?_)
        have : apply1 m (.cells b' off vs) = m := by
          simp only [apply1]
          split
          · rename_i cs fr hm; exact absurd ⟨cs, fr, hm⟩ hone
          · rfl
        rw [this]
  · exact .inl (getSlot_get (apply1_other hb).symm)

theorem agree_applyU : ∀ (u : Upd) (m : Mem) {r : Rng}, (∀ x ∈ u, meet1 (rngOf x) r = false) → agree m (applyU m u) r
  | [], m, r, _ => agree_refl m r
  | x :: u, m, r, h => by
    have h1 := agree_apply1 (m := m) (h x List.mem_cons_self)
    have h2 := agree_applyU u (apply1 m x) (fun y hy => h y (List.mem_cons_of_mem _ hy))
    exact agree_trans h1 h2

theorem apply1_one {m : Mem} {b off : Nat} {vs cs : List AV} {fr : Bool} (hm : m[b]? = some (some ⟨.one cs, fr⟩)) : apply1 m (.cells b off vs) = m.set b (some ⟨.one (over cs off vs), fr⟩) := by
  simp only [apply1, hm]

theorem apply1_not {m : Mem} {b off : Nat} {vs : List AV} (h : ¬ ∃ cs fr, m[b]? = some (some ⟨.one cs, fr⟩)) : apply1 m (.cells b off vs) = m := by
  simp only [apply1]
  split
  · rename_i cs fr hm; exact absurd ⟨cs, fr, hm⟩ h
  · rfl

theorem put_cells (m : Mem) (b : Nat) (s : Option Slot) (b' off : Nat) (vs : List AV) (hb : b ≠ b') : apply1 (m.set b s) (.cells b' off vs) = (apply1 m (.cells b' off vs)).set b s := by
  have e : (m.set b s)[b']? = m[b']? := List.getElem?_set_ne hb
  by_cases h1 : ∃ cs fr, m[b']? = some (some ⟨.one cs, fr⟩)
  · obtain ⟨cs, fr, hm⟩ := h1
    rw [apply1_one hm, apply1_one (cs := cs) (fr := fr) (e.trans hm), List.set_comm _ _ hb]
  · rw [apply1_not h1, apply1_not (by rw [e]; exact h1)]

theorem over_comm (l : List AV) (o o' : Nat) (vs vs' : List AV) (h : ¬ (o < o' + vs'.length ∧ o' < o + vs.length)) : over (over l o vs) o' vs' = over (over l o' vs') o vs := by
  apply List.ext_getElem?
  intro j
  simp only [get_over, length_over]
  repeat' split
  all_goals first | rfl | omega

theorem apply1_comm (m : Mem) (x y : W1) (h : meet1 (rngOf x) (rngOf y) = false) : apply1 (apply1 m x) y = apply1 (apply1 m y) x := by
  by_cases hb : (rngOf x).1 = (rngOf y).1
  · unfold meet1 at h
    rw [hb, Nat.beq_refl, Bool.true_and, Bool.or_eq_false_iff, Bool.or_eq_false_iff] at h
    obtain ⟨⟨h1, h2⟩, h3⟩ := h
    cases x with
    | put b s => simp [rngOf, whole] at h1
    | cells b off vs =>
      cases y with
      | put b' s => simp [rngOf, whole] at h2
      | cells b' off' vs' =>
        simp only [rngOf] at hb h3
        subst hb
        have hd : ¬ (off < off' + vs'.length ∧ off' < off + vs.length) := blt2 h3
        by_cases hone : ∃ cs fr, m[b]? = some (some ⟨.one cs, fr⟩)
        · obtain ⟨cs, fr, hm⟩ := hone
          have hl : b < m.length := (List.getElem?_eq_some_iff.1 hm).1
          rw [apply1_one hm, apply1_one hm, apply1_one (cs := over cs off vs) (fr := fr) (by rw [List.getElem?_set_self hl]), apply1_one (cs := over cs off' vs') (fr := fr) (by rw [List.getElem?_set_self hl]), List.set_set, List.set_set, over_comm cs off off' vs vs' hd]
        · have hno : ∀ o v, apply1 m (.cells b o v) = m := fun o v => by
            simp only [apply1]
            split
            · rename_i cs fr hm; exact absurd ⟨cs, fr, hm⟩ hone
            · rfl
          rw [hno, hno, hno]
  · cases x with
    | put b s =>
      cases y with
      | put b' s' => simp only [rngOf, whole] at hb; simp only [apply1]; rw [List.set_comm _ _ hb]
      | cells b' off vs =>
        simp only [rngOf, whole] at hb
        exact put_cells m b s b' off vs hb
    | cells b off vs =>
      cases y with
      | put b' s' =>
        simp only [rngOf, whole] at hb
        exact (put_cells m b' s' b off vs (Ne.symm hb)).symm
      | cells b' off' vs' =>
        simp only [rngOf] at hb
        have e1 : (apply1 m (.cells b off vs))[b']? = m[b']? := apply1_other (u := .cells b off vs) (Ne.symm hb)
        have e2 : (apply1 m (.cells b' off' vs'))[b]? = m[b]? := apply1_other (u := .cells b' off' vs') hb
        by_cases h1 : ∃ cs fr, m[b]? = some (some ⟨.one cs, fr⟩)
        · obtain ⟨cs, fr, hm⟩ := h1
          by_cases h2 : ∃ cs' fr', m[b']? = some (some ⟨.one cs', fr'⟩)
          · obtain ⟨cs', fr', hm'⟩ := h2
            rw [apply1_one hm, apply1_one hm', apply1_one (cs := cs') (fr := fr') (by rw [List.getElem?_set_ne hb]; exact hm'), apply1_one (cs := cs) (fr := fr) (by rw [List.getElem?_set_ne (Ne.symm hb)]; exact hm), List.set_comm _ _ hb]
          · have n2 : ∀ (m2 : Mem), m2[b']? = m[b']? → apply1 m2 (.cells b' off' vs') = m2 := fun m2 he => by
              simp only [apply1, he]
              split
              · rename_i cs fr hm; exact absurd ⟨cs, fr, hm⟩ h2
              · rfl
            rw [n2 _ e1, n2 m rfl]
        · have n1 : ∀ (m2 : Mem), m2[b]? = m[b]? → apply1 m2 (.cells b off vs) = m2 := fun m2 he => by
            simp only [apply1, he]
            split
            · rename_i cs fr hm; exact absurd ⟨cs, fr, hm⟩ h1
            · rfl
          rw [n1 m rfl, n1 _ e2]

theorem applyU_comm1 : ∀ (v : Upd) (m : Mem) (x : W1), (∀ y ∈ v, meet1 (rngOf x) (rngOf y) = false) → applyU (apply1 m x) v = apply1 (applyU m v) x
  | [], m, x, _ => rfl
  | y :: v, m, x, h => by
    simp only [applyU, List.foldl_cons]
    rw [apply1_comm m x y (h y List.mem_cons_self)]
    exact applyU_comm1 v (apply1 m y) x (fun z hz => h z (List.mem_cons_of_mem _ hz))

theorem applyU_comm : ∀ (u v : Upd) (m : Mem), (∀ x ∈ u, ∀ y ∈ v, meet1 (rngOf x) (rngOf y) = false) → applyU (applyU m u) v = applyU (applyU m v) u
  | [], v, m, _ => rfl
  | x :: u, v, m, h => by
    have h1 := applyU_comm u v (apply1 m x) (fun a ha => h a (List.mem_cons_of_mem _ ha))
    have h2 := applyU_comm1 v m x (h x List.mem_cons_self)
    show applyU (applyU (apply1 m x) u) v = applyU (apply1 (applyU m v) x) u
    rw [h1, h2]

end Go.Flat
end

section
/- A region that draws its order: steps, and how one is brought to the front. -/
set_option linter.unusedSimpArgs false
set_option linter.unusedVariables false
namespace Go.Flat
open Go

abbrev EnvF := Nat → AV

def putF (g : EnvF) (dst : Option Nat) (v : AV) : EnvF := match dst with
  | some d => fun t => if d = t then v else g t
  | none => g

theorem look_putA (env : Env) (dst : Option Nat) (v : AV) : look (putA env dst v) = putF (look env) dst v := by
  cases dst with
  | none => rfl
  | some d =>
    funext t
    simp only [putA, look, putF]
    by_cases h : d = t
    · subst h; simp
    · have : Nat.beq d t = false := by
        cases hb : Nat.beq d t with
        | false => rfl
        | true => exact absurd (Nat.eq_of_beq_eq_true hb) h
      simp [this, h]

def land (tgt : Bool) (v : AV) : AV := match tgt, v with
  | true, .lit (.bool b) => .kb b
  | _, v => v

structure Item where
  i : Nat
  slot : Nat
  o : Oper

def stepF (C : Ctx) (nt : Nat) (all : List Oper) (p : Item) (g : EnvF) (m : Mem) : Option (EnvF × Mem × Log) :=
  bif !dstOk nt p.o then none else
  match guardOf all g p.o with
  | some true => (match simple C m p.slot (evF g) p.o with
    | some e => bif e.conds.all id then some (putF g p.o.dst (land (isTarget all p.i) e.v), applyU m e.upd, ⟨p.i, e.reads, e.writes⟩) else none
    | none => none)
  | some false => some (putF g p.o.dst skipV, m, ⟨p.i, [], []⟩)
  | none => none

def runF' (C : Ctx) (nt : Nat) (all : List Oper) : List Item → EnvF → Mem → Option (EnvF × Mem × List Log)
  | [], g, m => some (g, m, [])
  | p :: l, g, m => match stepF C nt all p g m with
    | some (g', m', lg) => (match runF' C nt all l g' m' with
      | some (g'', m'', ls) => some (g'', m'', lg :: ls)
      | none => none)
    | none => none

theorem stepF_log {C : Ctx} {nt : Nat} {all : List Oper} {p : Item} {g g' : EnvF} {m m' : Mem} {lg : Log} (h : stepF C nt all p g m = some (g', m', lg)) : lg.i = p.i := by
  unfold stepF at h
  cases hd : dstOk nt p.o with
  | false => simp [hd] at h
  | true =>
    simp only [hd, Bool.not_true, cond_false] at h
    cases hg : guardOf all g p.o with
    | none => simp [hg] at h
    | some b =>
      cases b with
      | false => simp [hg] at h; rw [← h.2.2]
      | true =>
        simp only [hg] at h
        cases hs : simple C m p.slot (evF g) p.o with
        | none => simp [hs] at h
        | some e =>
          simp only [hs] at h
          cases hc : e.conds.all id with
          | false => simp [hc] at h
          | true => simp [hc] at h; rw [← h.2.2]

/-- what an operation names -/
theorem names_dst {ops : List Oper} {o : Oper} {d : Nat} (h : o.dst = some d) : d ∈ namesOf ops o := by simp [namesOf, h]
theorem names_op {ops : List Oper} {o : Oper} {t : Nat} (h : Operand.tmp t ∈ o.op.operands) : t ∈ namesOf ops o := by
  simp only [namesOf, List.mem_append, List.mem_filterMap]
  exact .inl (.inr ⟨.tmp t, by simpa using h, rfl⟩)
theorem names_guard {ops : List Oper} {o p : Oper} {j t : Nat} {want : Bool} (h : o.guard = some (j, want)) (hp : ops[j]? = some p) (ht : p.dst = some t) : t ∈ namesOf ops o := by
  simp only [namesOf, h, List.mem_append]
  right
  simp [hp, ht]

theorem not_any_beq {l : List Nat} {d : Nat} (h : l.any (Nat.beq d) = false) : d ∉ l := by
  intro hd
  have : l.any (Nat.beq d) = true := List.any_eq_true.2 ⟨d, hd, Nat.beq_refl d⟩
  rw [h] at this
  cases this

theorem tmpClash_spec {ops : List Oper} {x y : Oper} (h : tmpClash ops x y = false) : (∀ d, x.dst = some d → d ∉ namesOf ops y) ∧ (∀ d, y.dst = some d → d ∉ namesOf ops x) := by
  unfold tmpClash at h
  simp only [Bool.or_eq_false_iff] at h
  refine ⟨fun d hd => ?_, fun d hd => ?_⟩
  · have := h.1; rw [hd] at this; exact not_any_beq this
  · have := h.2; rw [hd] at this; exact not_any_beq this

theorem guardOf_congr {all : List Oper} {g g' : EnvF} {o : Oper} (h : ∀ t ∈ namesOf all o, g t = g' t) : guardOf all g o = guardOf all g' o := by
  unfold guardOf
  cases hg : o.guard with
  | none => rfl
  | some jw =>
    obtain ⟨j, want⟩ := jw
    simp only
    cases hp : all[j]? with
    | none => rfl
    | some p =>
      simp only
      cases hd : p.dst with
      | none => rfl
      | some t => simp only; rw [h t (names_guard hg hp hd)]

theorem evF_congr {g g' : EnvF} {o : Oper} {ops : List Oper} (h : ∀ t ∈ namesOf ops o, g t = g' t) : ∀ x ∈ o.op.operands, evF g x = evF g' x := by
  intro x hx
  cases x with
  | tmp t => exact h t (names_op hx)
  | const v => rfl
  | func f => rfl
  | global f => rfl

theorem map_evs {f f' : Operand → AV} {l : Array Operand} (h : ∀ x ∈ l, f x = f' x) : l.toList.map f = l.toList.map f' := List.map_congr_left fun x hx => h x (by simpa using hx)

theorem map_parts {f f' : Operand → AV} {l : Array (Nat × Operand)} (h : ∀ x ∈ (l.toList.map (·.2)).toArray, f x = f' x) : (l.toList.map fun (p : Nat × Operand) => (p.1, f p.2)) = (l.toList.map fun (p : Nat × Operand) => (p.1, f' p.2)) :=
  List.map_congr_left fun p hp => by rw [h p.2 (by simp; exact ⟨p.1, by simpa using hp⟩)]

/-- an operation looks at its operands alone -/
theorem simple_congr {C : Ctx} {m : Mem} {slot : Nat} {f f' : Operand → AV} {o : Oper} (h : ∀ x ∈ o.op.operands, f x = f' x) : simple C m slot f o = simple C m slot f' o := by
  cases hop : o.op with
  | move x | assign x | box _ x | load _ x | nilCheck x | unOp _ _ x | convert _ _ x | makeInterface _ x | fieldAddr _ x _ | field _ x _ | extract x _ =>
    have h1 := h x (by rw [hop]; simp [Op.operands])
    simp only [simple, hop, h1]
  | slice t x lo hi mx =>
    have h1 := h x (by rw [hop]; simp [Op.operands])
    cases lo with
    | none => cases hi <;> cases mx <;> simp only [simple, hop]
    | some l =>
      have h2 := h l (by rw [hop]; simp [Op.operands])
      cases hi <;> cases mx <;> simp only [simple, hop, h1, h2]
  | typeAssert x _ _ ok =>
    have h1 := h x (by rw [hop]; simp [Op.operands])
    cases ok <;> simp only [simple, hop, h1]
  | pick c x y =>
    have h1 := h c (by rw [hop]; simp [Op.operands])
    have h2 := h x (by rw [hop]; simp [Op.operands])
    have h3 := h y (by rw [hop]; simp [Op.operands])
    simp only [simple, hop, h1, h2, h3]
  | store _ x y | binOp _ _ x y _ | makeSlice _ x y | indexAddr _ x y =>
    have h1 := h x (by rw [hop]; simp [Op.operands])
    have h2 := h y (by rw [hop]; simp [Op.operands])
    simp only [simple, hop, h1, h2]
  | build t parts =>
    have h1 := map_parts (l := parts) (f := f) (f' := f') (fun x hx => h x (by rw [hop]; exact hx))
    simp only [simple, hop]
    rw [h1]
  | buildSlice t len parts =>
    have h1 := map_parts (l := parts) (f := f) (f' := f') (fun x hx => h x (by rw [hop]; exact hx))
    simp only [simple, hop]
    rw [h1]
  | makeFunc fn first cap =>
    have h1 := map_evs (l := cap) (f := f) (f' := f') (fun x hx => h x (by rw [hop]; simp [Op.operands, hx]))
    simp only [simple, hop]
    rw [h1]
  | call cl =>
    obtain ⟨callee, args, argTypes⟩ := cl
    have h1 := map_evs (l := args) (f := f) (f' := f') (fun x hx => h x (by rw [hop]; simp [Op.operands, Call.operands, hx]))
    cases callee with
    | invoke r m => simp only [simple, hop]
    | builtin b => cases b <;> simp only [simple, hop, h1]
    | value g =>
      have h2 := h g (by rw [hop]; simp [Op.operands, Call.operands])
      simp only [simple, hop, h1, h2]
  | _ => simp only [simple, hop]

theorem putF_other {g : EnvF} {dst : Option Nat} {v : AV} {t : Nat} (h : ∀ d, dst = some d → d ≠ t) : putF g dst v t = g t := by
  cases dst with
  | none => rfl
  | some d => simp [putF, h d rfl]

theorem putF_comm {g : EnvF} {d d' : Option Nat} {v v' : AV} (h : ∀ x, d = some x → d' ≠ some x) : putF (putF g d v) d' v' = putF (putF g d' v') d v := by
  cases d with
  | none => rfl
  | some x =>
    cases d' with
    | none => rfl
    | some y =>
      have hne : x ≠ y := fun e => h x rfl (by rw [e])
      funext t
      simp only [putF]
      by_cases h1 : x = t <;> by_cases h2 : y = t <;> simp [h1, h2]
      exact absurd (h1.trans h2.symm) hne

theorem meets_false {xs ys : List Rng} (h : meets xs ys = false) : ∀ x ∈ xs, ∀ y ∈ ys, meet1 x y = false := by
  intro x hx y hy
  cases hm : meet1 x y with
  | false => rfl
  | true =>
    have : meets xs ys = true := by
      unfold meets
      exact List.any_eq_true.2 ⟨x, hx, List.any_eq_true.2 ⟨y, hy, hm⟩⟩
    rw [h] at this
    cases this

theorem meet1_comm (x y : Rng) : meet1 x y = meet1 y x := by
  unfold meet1
  have e : Nat.beq x.1 y.1 = Nat.beq y.1 x.1 := by
    cases h : Nat.beq x.1 y.1 with
    | true => rw [Nat.eq_of_beq_eq_true h, Nat.beq_refl]
    | false =>
      cases h' : Nat.beq y.1 x.1 with
      | false => rfl
      | true => rw [Nat.eq_of_beq_eq_true h', Nat.beq_refl] at h; cases h
  rw [e, Bool.or_comm (Nat.beq x.2.2 0), Bool.and_comm (Nat.blt x.2.1 _)]

theorem stepF_env {C : Ctx} {nt : Nat} {all : List Oper} {p : Item} {g g' : EnvF} {m m' : Mem} {lg : Log} (h : stepF C nt all p g m = some (g', m', lg)) : ∃ v u, g' = putF g p.o.dst v ∧ m' = applyU m u ∧ (∀ x ∈ u, rngOf x ∈ lg.writes) ∧
    (∀ g2 m2, (∀ t ∈ namesOf all p.o, g2 t = g t) → (∀ r ∈ lg.reads ++ lg.writes, agree m m2 r) → stepF C nt all p g2 m2 = some (putF g2 p.o.dst v, applyU m2 u, lg)) := by
  unfold stepF at h
  cases hd : dstOk nt p.o with
  | false => simp [hd] at h
  | true =>
    simp only [hd, Bool.not_true, cond_false] at h
    cases hg : guardOf all g p.o with
    | none => simp [hg] at h
    | some b =>
      cases b with
      | false =>
        simp only [hg, Option.some.injEq, Prod.mk.injEq] at h
        obtain ⟨rfl, rfl, rfl⟩ := h
        refine ⟨skipV, [], rfl, rfl, fun x hx => by simp at hx, fun g2 m2 h1 _ => ?_⟩
        unfold stepF
        simp only [hd, Bool.not_true, cond_false]
        rw [guardOf_congr h1, hg]
        rfl
      | true =>
        simp only [hg] at h
        cases hs : simple C m p.slot (evF g) p.o with
        | none => simp [hs] at h
        | some e =>
          simp only [hs] at h
          cases hc : e.conds.all id with
          | false => simp [hc] at h
          | true =>
            simp only [hc, cond_true, Option.some.injEq, Prod.mk.injEq] at h
            obtain ⟨rfl, rfl, rfl⟩ := h
            refine ⟨_, e.upd, rfl, rfl, simple_rng hs, fun g2 m2 h1 h2 => ?_⟩
            unfold stepF
            simp only [hd, Bool.not_true, cond_false]
            rw [guardOf_congr h1, hg]
            simp only
            rw [simple_congr (evF_congr h1), simple_local hs h2]
            simp only [hc, cond_true]

/-- two steps that do not meet may be swapped -/
theorem swap {C : Ctx} {nt : Nat} {all : List Oper} {p q : Item} {g g1 g2 : EnvF} {m m1 m2 : Mem} {lp lq : Log} (hp : stepF C nt all p g m = some (g1, m1, lp)) (hq : stepF C nt all q g1 m1 = some (g2, m2, lq))
    (ht : tmpClash all p.o q.o = false) (hc : clash lp lq = false) : ∃ g1' m1', stepF C nt all q g m = some (g1', m1', lq) ∧ stepF C nt all p g1' m1' = some (g2, m2, lp) := by
  obtain ⟨vp, up, rfl, rfl, wp, kp⟩ := stepF_env hp
  obtain ⟨vq, uq, rfl, rfl, wq, kq⟩ := stepF_env hq
  obtain ⟨t1, t2⟩ := tmpClash_spec ht
  unfold clash at hc
  simp only [Bool.or_eq_false_iff] at hc
  obtain ⟨⟨c1, c2⟩, c3⟩ := hc
  have hpq : ∀ x ∈ up, ∀ r ∈ lq.reads ++ lq.writes, meet1 (rngOf x) r = false := by
    intro x hx r hr
    rcases List.mem_append.1 hr with hr | hr
    · exact meets_false c2 _ (wp x hx) r hr
    · exact meets_false c1 _ (wp x hx) r hr
  have hqp : ∀ y ∈ uq, ∀ r ∈ lp.reads ++ lp.writes, meet1 (rngOf y) r = false := by
    intro y hy r hr
    rw [meet1_comm]
    rcases List.mem_append.1 hr with hr | hr
    · exact meets_false c3 r hr _ (wq y hy)
    · exact meets_false c1 r hr _ (wq y hy)
  have s1 := kq g m (fun t ht => (putF_other (fun d hd e => t1 d hd (e ▸ ht))).symm) (fun r hr => by
    have := agree_applyU up m (r := r) (fun x hx => hpq x hx r hr)
    rcases this with h | ⟨hn, a, b, fr, h1, h2, h3, h4⟩
    · exact .inl h.symm
    · exact .inr ⟨hn, b, a, fr, h2, h1, h3.symm, fun j j1 j2 => (h4 j j1 j2).symm⟩)
  have s2 := kp (putF g q.o.dst vq) (applyU m uq) (fun t ht => putF_other (fun d hd e => t2 d hd (e ▸ ht))) (fun r hr => agree_applyU uq m (fun y hy => hqp y hy r hr))
  refine ⟨_, _, s1, ?_⟩
  rw [s2]
  have e1 : putF (putF g q.o.dst vq) p.o.dst vp = putF (putF g p.o.dst vp) q.o.dst vq := putF_comm (fun x hx hx' => t2 x hx (names_dst hx'))
  have e2 : applyU (applyU m uq) up = applyU (applyU m up) uq := applyU_comm uq up m (fun y hy x hx => by rw [meet1_comm]; exact meets_false c1 _ (wp x hx) _ (wq y hy))
  rw [e1, e2]

/-- one that does not meet those ahead of it may come first -/
theorem bubble {C : Ctx} {nt : Nat} {all : List Oper} (q : Item) : ∀ (l1 l2 : List Item) (g : EnvF) (m : Mem) (gz : EnvF) (mz : Mem) (ls : List Log), runF' C nt all (l1 ++ q :: l2) g m = some (gz, mz, ls) →
    (∀ p ∈ l1, tmpClash all p.o q.o = false) → (∀ x ∈ ls, ∀ y ∈ ls, (∃ p ∈ l1, x.i = p.i) → y.i = q.i → clash x y = false) →
    ∃ g1 m1 lq ls', stepF C nt all q g m = some (g1, m1, lq) ∧ runF' C nt all (l1 ++ l2) g1 m1 = some (gz, mz, ls') ∧ (∀ x ∈ ls', x ∈ ls) ∧ lq ∈ ls
  | [], l2, g, m, gz, mz, ls, h, _, _ => by
    simp only [List.nil_append, runF'] at h
    cases hs : stepF C nt all q g m with
    | none => simp [hs] at h
    | some r =>
      obtain ⟨g1, m1, lq⟩ := r
      simp only [hs] at h
      cases hr : runF' C nt all l2 g1 m1 with
      | none => simp [hr] at h
      | some r2 =>
        obtain ⟨g2, m2, ls'⟩ := r2
        simp only [hr, Option.some.injEq, Prod.mk.injEq] at h
        obtain ⟨rfl, rfl, rfl⟩ := h
        exact ⟨g1, m1, lq, ls', rfl, hr, fun x hx => List.mem_cons_of_mem _ hx, List.mem_cons_self⟩
  | p :: l1, l2, g, m, gz, mz, ls, h, ht, hc => by
    simp only [List.cons_append, runF'] at h
    cases hs : stepF C nt all p g m with
    | none => simp [hs] at h
    | some r =>
      obtain ⟨g1, m1, lp⟩ := r
      simp only [hs] at h
      cases hr : runF' C nt all (l1 ++ q :: l2) g1 m1 with
      | none => simp [hr] at h
      | some r2 =>
        obtain ⟨g2, m2, ls2⟩ := r2
        simp only [hr, Option.some.injEq, Prod.mk.injEq] at h
        obtain ⟨rfl, rfl, rfl⟩ := h
        obtain ⟨g3, m3, lq, ls3, k1, k2, k3, k4⟩ := bubble q l1 l2 g1 m1 _ _ ls2 hr (fun x hx => ht x (List.mem_cons_of_mem _ hx)) (fun x hx y hy ⟨p', hp', e⟩ => hc x (List.mem_cons_of_mem _ hx) y (List.mem_cons_of_mem _ hy) ⟨p', List.mem_cons_of_mem _ hp', e⟩)
        have hcl : clash lp lq = false := hc lp List.mem_cons_self lq (List.mem_cons_of_mem _ k4) ⟨p, List.mem_cons_self, stepF_log hs⟩ (stepF_log k1)
        obtain ⟨g1', m1', s1, s2⟩ := swap hs k1 (ht p List.mem_cons_self) hcl
        refine ⟨g1', m1', lq, lp :: ls3, s1, ?_, fun x hx => ?_, List.mem_cons_of_mem _ k4⟩
        · simp only [List.cons_append, runF', s2, k2]
        · rcases List.mem_cons.1 hx with rfl | hx
          · exact List.mem_cons_self
          · exact List.mem_cons_of_mem _ (k3 x hx)

/-! ### what must come ahead -/

theorem foldl_bits (acc : List Nat) (j : Nat) : ∀ (l : List Edge) (s : Nat), (l.foldl (fun s e => bif binding e then s ||| 2 ^ e.on ||| acc.getD e.on 0 else s) s).testBit j = true →
    s.testBit j = true ∨ ∃ e ∈ l, binding e = true ∧ (j = e.on ∨ (acc.getD e.on 0).testBit j = true)
  | [], s, h => .inl h
  | e :: l, s, h => by
    simp only [List.foldl_cons] at h
    rcases foldl_bits acc j l _ h with h1 | ⟨e', he', h1, h2⟩
    · cases hb : binding e with
      | false => simp [hb] at h1; exact .inl h1
      | true =>
        simp only [hb, cond_true, Nat.testBit_or, Bool.or_eq_true] at h1
        rcases h1 with (h1 | h1) | h1
        · exact .inl h1
        · rw [Nat.testBit_two_pow] at h1
          exact .inr ⟨e, List.mem_cons_self, hb, .inl (by simpa using h1 : e.on = j).symm⟩
        · exact .inr ⟨e, List.mem_cons_self, hb, .inr h1⟩
    · exact .inr ⟨e', List.mem_cons_of_mem _ he', h1, h2⟩

/-- each bit has an edge behind it -/
def Bits (all : List Oper) (A : List Nat) : Prop := ∀ i o j, all[i]? = some o → i < A.length → (A.getD i 0).testBit j = true → ∃ e ∈ o.after.toList, binding e = true ∧ (j = e.on ∨ (e.on < i ∧ (A.getD e.on 0).testBit j = true))

theorem aheads_bits (all : List Oper) : ∀ (rest pre : List Oper) (acc : List Nat), all = pre ++ rest → acc.length = pre.length → Bits all acc → Bits all (aheads rest acc) ∧ (aheads rest acc).length = all.length
  | [], pre, acc, h, hl, hb => ⟨hb, by simp only [aheads]; rw [hl, h]; simp⟩
  | o :: rest, pre, acc, h, hl, hb => by
    simp only [aheads]
    refine aheads_bits all rest (pre ++ [o]) _ (by rw [h]; simp) (by simp [hl]) ?_
    intro i o' j hi hlt hbit
    rw [List.length_append, List.length_singleton] at hlt
    have hget : ∀ k, k < acc.length → ∀ x, (acc ++ [x]).getD k 0 = acc.getD k 0 := fun k hk x => by simp [List.getD, List.getElem?_append_left hk]
    by_cases hia : i < acc.length
    · rw [hget i hia] at hbit
      obtain ⟨e, he, h1, h2⟩ := hb i o' j hi hia hbit
      refine ⟨e, he, h1, h2.imp id (fun ⟨h3, h4⟩ => ⟨h3, ?_⟩)⟩
      rw [hget _ (by omega)]; exact h4
    · have hie : i = acc.length := by omega
      subst hie
      have ho : o' = o := by
        rw [h, hl, List.getElem?_append_right (Nat.le_refl _)] at hi
        simp at hi
        exact hi.symm
      subst ho
      have hlast : ∀ x, (acc ++ [x]).getD acc.length 0 = x := fun x => by simp [List.getD]
      rw [hlast] at hbit
      rcases foldl_bits acc j _ 0 hbit with h1 | ⟨e, he, h1, h2⟩
      · simp at h1
      · refine ⟨e, he, h1, h2.imp id (fun h3 => ?_)⟩
        have hel : e.on < acc.length := by
          rcases Nat.lt_or_ge e.on acc.length with h4 | h4
          · exact h4
          · simp [List.getD, List.getElem?_eq_none h4] at h3
        exact ⟨hel, by rw [hget _ hel]; exact h3⟩

theorem aheads_spec (all : List Oper) : Bits all (aheads all []) ∧ (aheads all []).length = all.length :=
  aheads_bits all all [] [] rfl rfl (fun i o j _ h => by simp at h)

end Go.Flat
end
