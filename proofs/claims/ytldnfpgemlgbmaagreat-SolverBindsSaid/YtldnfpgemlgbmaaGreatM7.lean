/- What is proved in the end: SolverBinds returns true whatever the input, and its input reads as it did; no condition.
This text: C23, C24, C25, C26, FlatMut2, C27, C28, C29, C30, C31, C32, C33, C34, C35, FlatLoc, FlatLoc2, C36. -/
import Derived.Test.YtldnfpgemlgbmaaGreatM6

section
/- Contracts: lists of bodies. -/
set_option linter.unusedSimpArgs false
set_option linter.unusedVariables false
namespace Go.Flat
open Go

/-- a loop that answers whether all are so -/
theorem loop_allB {C : Ctx} {f : FuncId} {args : List AV} (d n : Nat) (σ : Nat → St) (c : Nat → Bool)
    (hstart : ∀ F (Q : AV → Prop), (loop1 C f (F + 1) (σ 0) (F + d)).holds Q → (runF C (F + d) f args).holds Q)
    (hstep : ∀ i F G (Q : AV → Prop), i < n → (c i = false → Q (.kb false)) → (c i = true → (loop1 C f (F + 39) (σ (i + 1)) (G + d)).holds Q) → (loop1 C f (F + 40) (σ i) (G + d)).holds Q)
    (hend : ∀ F G (Q : AV → Prop), Q (.kb true) → (loop1 C f (F + 40) (σ n) (G + d)).holds Q) : ∃ m, (runF C m f args).holds fun x => Fits x (lb (allN n c)) :=
  loop_all d n σ (fun i => ∀ k, k < i → c k = true) (fun F h => hstart F _ h) (fun k hk => by omega)
    (fun i F G h hI hn => hstep i F G _ h (fun hc => by rw [allN_false h hc]; exact Fits.kb) fun hc => hn fun k hk => by
      by_cases hk2 : k = i
      · subst hk2; exact hc
      · exact hI k (by omega))
    (fun F G hI => hend F G _ (by rw [allN_iff.2 hI]; exact Fits.kb))

theorem holds_yes {α : Type} {Q : α → Prop} {c : Bool} {t e : Tree α} (h : c = true) (ht : t.holds Q) : (Tree.node c t e).holds Q := ⟨fun _ => ht, fun h' => (by rw [h] at h'; cases h')⟩
theorem lt_true {i n : Nat} (h : i < n) : decide ((i : Int) < (n : Int)) = true := by simp; exact h
theorem lt_no {n : Nat} : decide ((n : Int) < (n : Int)) = false := by simp
theorem in_true {i n : Nat} (h : i < n) : (decide (0 ≤ (i : Int)) && decide ((i : Int) < (n : Int))) = true := by simp; exact h

def hSBs : Hints := fun _ _ => some ([0, 1, 5], 0)
noncomputable abbrev Csbs : Ctx := ctxN N.P [e_SameBody] [] hSBs fun _ _ => []
def sSbs (a b : Sl Body) (i : Int) : St := ⟨[(0, rBody.encS a), (1, rBody.encS b), (5, li i)], []⟩
theorem sbs_start (a b : Sl Body) (F : Nat) : runF Csbs (F + 6) N.kit_SameBodies [rBody.encS a, rBody.encS b] = .node ((a.len : Int) != b.len) (.leaf (.kb false)) (loop1 Csbs N.kit_SameBodies (F + 1) (sSbs a b 0) (F + 6)) := by kernel_rfl
theorem sbs_step (a b : Sl Body) (i F G : Nat) : loop1 Csbs N.kit_SameBodies (F + 40) (sSbs a b i) (G + 6) =
    .node (decide ((i : Int) < (a.len : Int))) (gd (decide (0 ≤ (i : Int)) && decide ((i : Int) < (a.len : Int))) (gd (decide (0 ≤ (i : Int)) && decide ((i : Int) < (b.len : Int))) (gd (okS (a.at' i).Shp.Pts) (gd (okS (b.at' i).Shp.Pts)
      (.node (!bodyEq (a.at' i) (b.at' i)) (.leaf (.kb false)) (loop1 Csbs N.kit_SameBodies (F + 39) (sSbs a b (i64 ((i : Int) + 1))) (G + 6))))))) (.leaf (.kb true)) := by kernel_rfl
def bodiesEq (a b : Sl Body) : Bool := bif (a.len : Int) != b.len then false else allN a.len fun i => bodyEq (a.at' i) (b.at' i)
theorem bodiesEq_refl (a : Sl Body) : bodiesEq a a = true := by
  unfold bodiesEq
  simp only [bne_self_eq_false, cond_false]
  exact allN_iff.2 fun i _ => bodyEq_refl _
theorem c_SameBodies (a b : Sl Body) : Con N.P N.kit_SameBodies [rBody.encS a, rBody.encS b] (lb (bodiesEq a b)) :=
  con_of_runN (t := [e_SameBody]) (m := []) (hints := hSBs) (nils := fun _ _ => []) (all_cons o_SameBody all_nil) mall_nil named mixed (by kernel_rfl) rfl fun hs => by
    have hm := (hs _ List.mem_cons_self).len
    by_cases hlen : a.len = b.len
    · have e0 : bodiesEq a b = allN a.len fun i => bodyEq (a.at' i) (b.at' i) := by unfold bodiesEq; rw [hlen]; simp
      rw [e0]
      refine loop_allB (C := Csbs) 6 a.len (fun i => sSbs a b i) _ (fun F Q h => ?_) (fun i F G Q h h1 h2 => ?_) (fun F G Q h => ?_)
      · rw [sbs_start]; exact holds_no (ne_eq (by rw [hlen])) h
      · rw [sbs_step, next_i hm h]
        refine holds_yes (lt_true h) (holds_gd (in_true h) (holds_gd (in_true (by omega)) (holds_gd (okS_true _) (holds_gd (okS_true _) ⟨fun h' => h1 ?_, fun h' => h2 ?_⟩))))
        · simpa only [Bool.not_eq_true'] using h'
        · simpa only [Bool.not_eq_false'] using h'
      · rw [sbs_step]; exact holds_no lt_no h
    · refine ⟨6, ?_⟩
      show (runF Csbs _ _ _).holds _
      rw [sbs_start (F := 0)]
      have hne : ((a.len : Int) != b.len) = true := by simp; omega
      refine holds_yes hne ?_
      unfold bodiesEq; rw [hne]; exact Fits.kb
def e_SameBodies : Ent := ent2 N.kit_SameBodies rBody.cSl rBody.cSl fun a b => lb (bodiesEq a b)
theorem o_SameBodies : e_SameBodies.ok N.P := ent2_ok c_SameBodies

def hLight : Hints := fun _ _ => some ([0, 3], 999)
noncomputable abbrev Clight : Ctx := ctxN N.P [] [] hLight fun _ _ => []
def sLight (a : Sl Body) (i : Int) : St := ⟨[(0, rBody.encS a), (3, li i)], []⟩
theorem light_start (a : Sl Body) (F : Nat) : runF Clight (F + 5) N.law05_light [rBody.encS a] = loop1 Clight N.law05_light (F + 1) (sLight a 0) (F + 5) := by kernel_rfl
theorem light_step (a : Sl Body) (i F G : Nat) : loop1 Clight N.law05_light (F + 40) (sLight a i) (G + 5) =
    .node (decide ((i : Int) < (a.len : Int))) (gd (decide (0 ≤ (i : Int)) && decide ((i : Int) < (a.len : Int)))
      (.node (decide (((a.at' i).Shp.Pts.len : Int) > 12)) (.leaf (.kb false)) (loop1 Clight N.law05_light (F + 39) (sLight a (i64 ((i : Int) + 1))) (G + 5)))) (.leaf (.kb true)) := by kernel_rfl
def isLight (b : Body) : Bool := Nat.ble b.Shp.Pts.len 12
def lightAll (a : Sl Body) : Bool := allN a.len fun i => isLight (a.at' i)
theorem c_light (a : Sl Body) : Con N.P N.law05_light [rBody.encS a] (lb (lightAll a)) :=
  con_of_runN (t := []) (m := []) (hints := hLight) (nils := fun _ _ => []) all_nil mall_nil named mixed (by kernel_rfl) rfl fun hs => by
    have hm := (hs _ List.mem_cons_self).len
    refine loop_allB (C := Clight) 5 a.len (fun i => sLight a i) _ (fun F Q h => ?_) (fun i F G Q h h1 h2 => ?_) (fun F G Q h => ?_)
    · rw [light_start]; exact h
    · rw [light_step, next_i hm h]
      refine holds_yes (lt_true h) (holds_gd (in_true h) ⟨fun h' => h1 ?_, fun h' => h2 ?_⟩)
      · have := of_decide_eq_true h'
        cases hq : isLight (a.at' i) with
        | false => rfl
        | true => have := Nat.le_of_ble_eq_true hq; omega
      · have := of_decide_eq_false h'
        exact Nat.ble_eq_true_of_le (by omega)
    · rw [light_step]; exact holds_no lt_no h
def e_light : Ent := ent1 N.law05_light rBody.cSlK fun a => lb (lightAll a)
theorem o_light : e_light.ok N.P := ent1_ok c_light

def hOBs : Hints := fun _ _ => some ([0, 3, 4], 999)
noncomputable abbrev Cobs : Ctx := ctxN N.P [e_OwnBody] [] hOBs fun _ _ => [(3, N.t_Body, 27)]
def sObs (a : Sl Body) (i : Nat) (j : Int) (r1 : List (List AV)) : St := ⟨[(0, rBody.encS a), (3, .lsl false 0 N.t_Body 27 i), (4, li j)], [some ⟨.many N.t_Body 27 true r1, false⟩]⟩
theorem obs_start (a : Sl Body) (F : Nat) : runF Cobs (F + 6) N.kit_OwnBodies [rBody.encS a] = loop1 Cobs N.kit_OwnBodies (F + 1) (sObs a 0 0 []) (F + 6) := by kernel_rfl
theorem obs_step (a : Sl Body) (i j : Nat) (r1 : List (List AV)) (F G : Nat) : loop1 Cobs N.kit_OwnBodies (F + 40) (sObs a i j r1) (G + 6) =
    .node (decide ((j : Int) < (a.len : Int))) (gd (decide (0 ≤ (j : Int)) && decide ((j : Int) < (a.len : Int))) (gd (a.at' j).small (gd (okS (a.at' j).Shp.Pts) (gd (decide (r1.length = i)) (gd (decide (i + 1 < 16777216))
      (loop1 Cobs N.kit_OwnBodies (F + 39) (sObs a (i + 1) (i64 ((j : Int) + 1)) (r1 ++ [rBody.cells (a.at' j)])) (G + 6)))))))
      (gd (Nat.ble i r1.length) (.leaf (.vsl false 27 i (fun r => r1.getD r [])))) := by kernel_rfl
def smallAll (a : Sl Body) : Bool := smallN a.len && allN a.len fun i => (a.at' i).small
theorem c_OwnBodies (a : Sl Body) (ha : smallAll a = true) : Con N.P N.kit_OwnBodies [rBody.encS a] (rBody.encS a) :=
  con_of_runN (t := [e_OwnBody]) (m := []) (hints := hOBs) (nils := fun _ _ => [(3, N.t_Body, 27)]) (all_cons o_OwnBody all_nil) mall_nil named mixed (by kernel_rfl) rfl fun hs => by
    simp only [smallAll, Bool.and_eq_true] at ha
    have hl := smallN_lt ha.1
    have hm : a.len ≤ maxLen := by simp only [maxLen]; omega
    refine loop_all (C := Cobs) 6 a.len (fun i => sObs a i i (a.rows rBody i)) (fun _ => True) (fun F h => by rw [obs_start]; exact h) trivial (fun i F G h hI hn => ?_) (fun F G hI => ?_)
    · have hn := hn trivial
      simp only [Sl.rows_succ] at hn
      rw [obs_step, next_i hm h]
      exact holds_yes (lt_true h) (holds_gd (in_true h) (holds_gd (allN_iff.1 ha.2 i h) (holds_gd (okS_true _) (holds_gd (by simp [Sl.rows_len]) (holds_gd (by simp; omega) hn)))))
    · rw [obs_step, Sl.rows_len]
      exact holds_no lt_no (holds_gd (Nat.ble_eq_true_of_le (Nat.le_refl _)) (fits_sl rBody (fun _ => rfl) a rfl))
def e_OwnBodies : Ent := entC N.kit_OwnBodies rBody.cSl smallAll fun a => rBody.encS a
theorem o_OwnBodies : e_OwnBodies.ok N.P := entC_ok c_OwnBodies
end Go.Flat
end

section
/- Contracts: the sum of momenta. -/
set_option linter.unusedSimpArgs false
set_option linter.unusedVariables false
namespace Go.Flat
open Go

def momOf (b : Body) : Vec := ⟨nDiv b.V.X b.Wt.M, nDiv b.V.Y b.Wt.M⟩
def moms (a : Sl Body) : Nat → List Vec
  | 0 => []
  | i + 1 => bif moves (a.at' i) then moms a i ++ [momOf (a.at' i)] else moms a i
theorem moms_len (a : Sl Body) : ∀ i, (moms a i).length ≤ i
  | 0 => Nat.le_refl _
  | i + 1 => by
    have := moms_len a i
    unfold moms
    cases moves (a.at' i)
    · simp; omega
    · simp; omega
def sTotal (a : Sl Body) : Vec := vAdd (moms a a.len)
theorem vec_dec (x : Vec) : decRow rVec (rVec.cells x) = x := rfl
theorem vec_ok (x : Vec) : okRow rVec (rVec.cells x) = true := rfl

def hTot : Hints := fun _ _ => some ([2, 3, 6, 7, 8], 999)
noncomputable abbrev Ctot : Ctx := ctxN N.P [e_Moves, e_Div, e_PAdd] [] hTot fun _ _ => [(3, N.t_Vec, 4)]
def sTot (a : Sl Body) (i : Int) (n : Nat) (r1 : List (List AV)) : St := ⟨[(2, .ptr 0 4 0 0), (3, .lsl false 1 N.t_Vec 4 n), (6, rBody.encS a), (7, li a.len), (8, li i)], [some ⟨.one zVec, false⟩, some ⟨.many N.t_Vec 4 true r1, false⟩]⟩
theorem tot_start (a : Sl Body) (F : Nat) : runF Ctot (F + 6) N.solver_Total [rBody.encS a] = loop1 Ctot N.solver_Total (F + 1) (sTot a 0 0 []) (F + 6) := by kernel_rfl
theorem tot_step (a : Sl Body) (i n : Nat) (r1 : List (List AV)) (F G : Nat) : loop1 Ctot N.solver_Total (F + 40) (sTot a i n r1) (G + 6) =
    .node (decide ((i : Int) < (a.len : Int))) (gd (decide (0 ≤ (i : Int)) && decide ((i : Int) < (a.len : Int))) (gd (okS (a.at' i).Shp.Pts)
      (.node (moves (a.at' i)) (gd (decide (r1.length = n)) (gd (decide (n + 1 < 16777216)) (loop1 Ctot N.solver_Total (F + 39) (sTot a (i64 ((i : Int) + 1)) (n + 1) (r1 ++ [rVec.cells (momOf (a.at' i))])) (G + 6))))
        (loop1 Ctot N.solver_Total (F + 39) (sTot a (i64 ((i : Int) + 1)) n r1) (G + 6)))))
      (gd (Nat.ble n r1.length) (gd (smallB ((List.range n).map fun i => decRow rVec (r1.getD i []))) (gd ((List.range n).all fun i => okRow rVec (r1.getD i []))
        (.leaf (vAdd ((List.range n).map fun i => decRow rVec (r1.getD i []))).av)))) := by kernel_rfl
theorem rows_add {l : List Vec} {v : Vec} : (l.map fun x => rVec.cells x) ++ [rVec.cells v] = (l ++ [v]).map fun x => rVec.cells x := by simp
theorem tot_end (a : Sl Body) (ha : smallN a.len = true) :
    (gd (Nat.ble (moms a a.len).length ((moms a a.len).map fun x => rVec.cells x).length) (gd (smallB ((List.range (moms a a.len).length).map fun i => decRow rVec (((moms a a.len).map fun x => rVec.cells x).getD i []))) (gd ((List.range (moms a a.len).length).all fun i => okRow rVec (((moms a a.len).map fun x => rVec.cells x).getD i []))
        (.leaf (vAdd ((List.range (moms a a.len).length).map fun i => decRow rVec (((moms a a.len).map fun x => rVec.cells x).getD i []))).av)))).holds fun x => Fits x (sTotal a).av := by
  have hl := smallN_lt ha
  have hle := moms_len a a.len
  have e := dec_fill rVec vec_dec (fun x => x) (moms a a.len)
  have e2 := ok_fill rVec vec_ok (fun x => x) (moms a a.len)
  rw [List.map_id''] at e
  · rw [e, e2]
    refine holds_gd (by simp) (holds_gd (small_true (by omega)) (holds_gd rfl ?_))
    exact Fits.refl _
  · intro x; rfl
theorem c_Total (a : Sl Body) (ha : smallN a.len = true) : Con N.P N.solver_Total [rBody.encS a] (sTotal a).av :=
  con_of_runN (t := [e_Moves, e_Div, e_PAdd]) (m := []) (hints := hTot) (nils := fun _ _ => [(3, N.t_Vec, 4)]) (all_cons o_Moves (all_cons o_Div (all_cons o_PAdd all_nil))) mall_nil named mixed (by kernel_rfl) rfl fun hs => by
    have hm := (hs _ List.mem_cons_self).len
    have hl := smallN_lt ha
    refine loop_all (C := Ctot) 6 a.len (fun i => sTot a i (moms a i).length ((moms a i).map fun x => rVec.cells x)) (fun _ => True) (fun F h => by rw [tot_start]; exact h) trivial (fun i F G h hI hn => ?_) (fun F G hI => ?_)
    · have hn := hn trivial
      have hle := moms_len a i
      rw [tot_step, next_i hm h]
      refine holds_yes (lt_true h) (holds_gd (in_true h) (holds_gd (okS_true _) ⟨fun h1 => holds_gd (by simp) (holds_gd (by simp; omega) ?_), fun h1 => ?_⟩))
      · rw [rows_add]
        simp only [moms, h1, cond_true, List.length_append, List.length_cons, List.length_nil] at hn
        exact hn
      · simp only [moms, h1, cond_false] at hn
        exact hn
    · rw [tot_step]
      exact holds_no lt_no (tot_end a ha)
def e_Total : Ent := entC N.solver_Total rBody.cSl (fun a => smallN a.len) fun a => (sTotal a).av
theorem o_Total : e_Total.ok N.P := entC_ok c_Total
end Go.Flat
end

section
/- Contracts: Max, Min, Clamp; vectors. -/
set_option linter.unusedSimpArgs false
set_option linter.unusedVariables false
namespace Go.Flat
open Go

/-- the extreme of a number and the first i of others -/
def ext (o : Int) (s : Sl Int) (x : Int) : Nat → Int
  | 0 => x
  | i + 1 => bif decide (i64 (sCmp (s.at' i) (ext o s x i) * o) < 0) then s.at' i else ext o s x i
def hExt : Hints := fun _ _ => some ([0, 1, 9, 10, 11], 999)
noncomputable abbrev Cext : Ctx := ctxN N.P [e_Cmp_i] [] hExt fun _ _ => []
def sExt (o x : Int) (l : Sl Int) (i : Int) : St := ⟨[(0, li o), (1, li x), (9, rI.encS l), (10, li l.len), (11, li i)], []⟩
theorem ext_start (o x : Int) (l : Sl Int) (F : Nat) : runF Cext (F + 5) N.fixed_extreme_int64 [li o, li x, rI.encS l] = loop1 Cext N.fixed_extreme_int64 (F + 1) (sExt o x l 0) (F + 5) := by kernel_rfl
theorem ext_step (o x : Int) (l : Sl Int) (i F G : Nat) : loop1 Cext N.fixed_extreme_int64 (F + 40) (sExt o x l i) (G + 5) =
    .node (decide ((i : Int) < (l.len : Int))) (gd (decide (0 ≤ (i : Int)) && decide ((i : Int) < (l.len : Int))) (.node (decide (i64 (sCmp (l.at' i) x * o) < 0))
      (loop1 Cext N.fixed_extreme_int64 (F + 39) (sExt o (l.at' i) l (i64 ((i : Int) + 1))) (G + 5)) (loop1 Cext N.fixed_extreme_int64 (F + 39) (sExt o x l (i64 ((i : Int) + 1))) (G + 5)))) (.leaf (li x)) := by kernel_rfl
theorem c_extreme (o x : Int) (l : Sl Int) : Con N.P N.fixed_extreme_int64 [li o, li x, rI.encS l] (li (ext o l x l.len)) :=
  con_of_runN (t := [e_Cmp_i]) (m := []) (hints := hExt) (nils := fun _ _ => []) (all_cons o_Cmp_i all_nil) mall_nil named mixed (by kernel_rfl) rfl fun hs => by
    have hm := (hs (rI.encS l) (by simp)).len
    refine loop_all (C := Cext) 5 l.len (fun i => sExt o (ext o l x i) l i) (fun _ => True) (fun F h => by rw [ext_start]; exact h) trivial (fun i F G h hI hn => ?_) (fun F G hI => ?_)
    · have hn := hn trivial
      rw [ext_step, next_i hm h]
      refine holds_yes (lt_true h) (holds_gd (in_true h) ⟨fun h1 => ?_, fun h1 => ?_⟩)
      · simp only [ext, h1, cond_true] at hn; exact hn
      · simp only [ext, h1, cond_false] at hn; exact hn
    · rw [ext_step]; exact holds_no lt_no (Fits.refl _)
def e_extreme : Ent := ent3 N.fixed_extreme_int64 (cInt .i64) (cInt .i64) rI.cSl fun o x l => li (ext o l x l.len)
theorem o_extreme : e_extreme.ok N.P := ent3_ok c_extreme

/-- the first value, and the others -/
def behind1 (l : List Int) : Sl Int := ⟨l.length - 1, fun i => l.getD (i + 1) 0⟩
def nMost (o : Int) (l : List Num) : Num := match l with
  | [] => ⟨0, false⟩
  | l => ⟨ext o (behind1 (l.map sv)) ((l.map sv).getD 0 0) (l.length - 1), l.any sf⟩
theorem c_most (o : Int) (l : List Num) (hl : l.length < 4096) : Con N.P N.fixed_most [li o, rNum.sl l] (nMost o l).av :=
  con_ty (c := cNum) (t := [e_values, e_extreme]) (hints := h0) (all_cons o_values (all_cons o_extreme all_nil)) (by kernel_rfl) rfl 30
    (.node ((l.length : Int) == 0) (.leaf ⟨0, false⟩) (gd (smallB (rNum.dl l)) (gd (rNum.okl l) (gd (decide ((0 : Int) ≤ 0) && decide ((0 : Int) < (((rNum.dl l).map sv).length : Int))) (gd (decide ((1 : Int) ≤ (((rNum.dl l).map sv).length : Int)))
      (gd (allN (((rNum.dl l).map sv).length - 1) fun i => okRow rI (rI.rows ((rNum.dl l).map sv) (i + 1)))
        (.leaf ⟨ext o (behind1 ((rNum.dl l).map sv)) (((rNum.dl l).map sv).getD 0 0) (((rNum.dl l).map sv).length - 1), (rNum.dl l).any sf⟩))))))) (by kernel_rfl) fun hs => by
    rw [(dl_num l).1, (dl_num l).2, small_true hl]
    cases l with
    | nil => exact holds_yes rfl rfl
    | cons a r =>
      have e : allN (((a :: r).map sv).length - 1) (fun i => okRow rI (rI.rows ((a :: r).map sv) (i + 1))) = true := allN_iff.2 fun i _ => rfl
      rw [e]
      refine holds_no (by simp; omega) (holds_gd rfl (holds_gd rfl (holds_gd (by simp) (holds_gd (by simp; omega) (holds_gd rfl ?_)))))
      show _ = _
      unfold nMost
      simp
def entL2 (f : FuncId) (spec : Int → List Num → AV) : Ent := ⟨f, fun
  | [o, a] => (match int? .i64 o with
    | some z => (match rNum.decSl a with
      | some (x, g) => bif knownLen a then (bif smallB x then some (spec z x, g) else none) else some (spec z x, smallB x :: g)
      | none => none)
    | none => none)
  | _ => none⟩
theorem entL2_ok {P : Program} {f : FuncId} {spec : Int → List Num → AV} (h : ∀ o (l : List Num), l.length < 4096 → Con P f [li o, rNum.sl l] (spec o l)) : (entL2 f spec).ok P := fun args v g hr hg => by
  unfold entL2 at hr
  rcases args with _ | ⟨o, _ | ⟨a, _ | ⟨b, t⟩⟩⟩ <;> simp only at hr
  · cases hr
  · cases hr
  · cases h0 : int? .i64 o with
    | none => simp [h0] at hr
    | some z =>
    cases h1 : rNum.decSl a with
    | none => simp [h0, h1] at hr
    | some p =>
      obtain ⟨x, g1⟩ := p
      simp only [h0, h1] at hr
      have key : smallB x = true → (∀ c ∈ g1, c = true) → Con P f [o, a] (spec z x) := fun hsm hg1 => by
        refine Con.args (args' := [li z, rNum.sl x]) rfl (fun i a1 a1' hi hi' => ?_) (h z x (by simpa [smallB] using hsm))
        rcases i with _ | _ | i <;> simp at hi hi' <;> subst hi <;> subst hi'
        · exact int?_ok h0
        · exact rNum.list.ok _ _ _ h1 hg1
      cases hk : knownLen a with
      | true =>
        cases hsm : smallB x with
        | false => simp [hk, hsm] at hr
        | true =>
          simp only [hk, hsm, cond_true, Option.some.injEq, Prod.mk.injEq] at hr
          obtain ⟨rfl, rfl⟩ := hr
          exact key hsm hg
      | false =>
        simp only [hk, cond_false, Option.some.injEq, Prod.mk.injEq] at hr
        obtain ⟨rfl, rfl⟩ := hr
        exact key (hg _ List.mem_cons_self) (fun c hc => hg c (List.mem_cons_of_mem _ hc))
  · cases hr
def e_most : Ent := entL2 N.fixed_most fun o l => (nMost o l).av
theorem o_most : e_most.ok N.P := entL2_ok c_most

/-- the greatest and the least -/
def nMax (l : List Num) : Num := match l with
  | [] => ⟨0, false⟩
  | a :: r => ⟨r.foldl (fun m x => max m (sv x)) (sv a), (a :: r).any sf⟩
def nMin (l : List Num) : Num := match l with
  | [] => ⟨0, false⟩
  | a :: r => ⟨r.foldl (fun m x => min m (sv x)) (sv a), (a :: r).any sf⟩
theorem cmp_max (x f : Int) : (bif decide (i64 (sCmp x f * -1) < 0) then x else f) = max f x := by
  unfold sCmp i64
  by_cases h1 : x < f
  · simp [h1, IntKind.wrap_i64]; omega
  · by_cases h2 : x > f
    · simp [h1, h2, IntKind.wrap_i64]; omega
    · simp [h1, h2, IntKind.wrap_i64]; omega
theorem cmp_min (x f : Int) : (bif decide (i64 (sCmp x f * 1) < 0) then x else f) = min f x := by
  unfold sCmp i64
  by_cases h1 : x < f
  · simp [h1, IntKind.wrap_i64]; omega
  · by_cases h2 : x > f
    · simp [h1, h2, IntKind.wrap_i64]; omega
    · simp [h1, h2, IntKind.wrap_i64]; omega
theorem ext_fold (o : Int) (g : Int → Int → Int) (hg : ∀ x f, (bif decide (i64 (sCmp x f * o) < 0) then x else f) = g f x) (s : Sl Int) (l : List Num) (x : Int) : ∀ i, (∀ k, k < i → s.at' k = (l.map sv).getD k 0) → i ≤ l.length →
    ext o s x i = (l.take i).foldl (fun m y => g m (sv y)) x
  | 0, _, _ => rfl
  | i + 1, h, hi => by
    rw [take_getD rNum.d (by omega), List.foldl_append, ← ext_fold o g hg s l x i (fun k hk => h k (by omega)) (by omega)]
    simp only [ext, List.foldl_cons, List.foldl_nil]
    rw [hg, h i (by omega)]
    congr 1
    have hlt : i < l.length := by omega
    simp [List.getD, hlt]
theorem most_max (l : List Num) : nMost (-1) l = nMax l := by
  cases l with
  | nil => rfl
  | cons a r =>
    have := ext_fold (-1) max cmp_max (behind1 ((a :: r).map sv)) r (sv a) r.length (fun k hk => by simp [behind1, List.getD]) (Nat.le_refl _)
    rw [List.take_length] at this
    show (⟨_, _⟩ : Num) = ⟨_, _⟩
    rw [← this]
    simp
theorem most_min (l : List Num) : nMost 1 l = nMin l := by
  cases l with
  | nil => rfl
  | cons a r =>
    have := ext_fold 1 min cmp_min (behind1 ((a :: r).map sv)) r (sv a) r.length (fun k hk => by simp [behind1, List.getD]) (Nat.le_refl _)
    rw [List.take_length] at this
    show (⟨_, _⟩ : Num) = ⟨_, _⟩
    rw [← this]
    simp
theorem c_Max (l : List Num) (hl : l.length < 4096) : Con N.P N.fixed_Max [rNum.sl l] (nMax l).av :=
  con_of_tree (t := [e_most]) (hints := h0) (all_cons o_most all_nil) (by kernel_rfl) rfl 30 (gd (smallB (rNum.dl l)) (gd (rNum.okl l) (.leaf (nMost (-1) (rNum.dl l)).av))) (by kernel_rfl) fun _ => by
    rw [(dl_num l).1, (dl_num l).2, small_true hl, most_max]
    exact holds_gd rfl (holds_gd rfl (Fits.refl _))
theorem c_Min (l : List Num) (hl : l.length < 4096) : Con N.P N.fixed_Min [rNum.sl l] (nMin l).av :=
  con_of_tree (t := [e_most]) (hints := h0) (all_cons o_most all_nil) (by kernel_rfl) rfl 30 (gd (smallB (rNum.dl l)) (gd (rNum.okl l) (.leaf (nMost 1 (rNum.dl l)).av))) (by kernel_rfl) fun _ => by
    rw [(dl_num l).1, (dl_num l).2, small_true hl, most_min]
    exact holds_gd rfl (holds_gd rfl (Fits.refl _))
def e_Max : Ent := entL N.fixed_Max rNum fun l => (nMax l).av
theorem o_Max : e_Max.ok N.P := entL_ok c_Max
def e_Min : Ent := entL N.fixed_Min rNum fun l => (nMin l).av
theorem o_Min : e_Min.ok N.P := entL_ok c_Min
def nClamp (x low high : Num) : Num := nMax [low, nMin [x, high]]
theorem c_Clamp (x a b : Num) : Con N.P N.fixed_Clamp [x.av, a.av, b.av] (nClamp x a b).av :=
  con_of_one (t := [e_Max, e_Min]) (hints := h0) (all_cons o_Max (all_cons o_Min all_nil)) (by kernel_rfl) rfl 30 (by kernel_rfl)
def e_Clamp : Ent := ent3 N.fixed_Clamp cNum cNum cNum fun x a b => (nClamp x a b).av
theorem o_Clamp : e_Clamp.ok N.P := ent3_ok c_Clamp

/-! vectors -/
def vSub (a b : Vec) : Vec := ⟨nSub a.X b.X, nSub a.Y b.Y⟩
def vScale (v : Vec) (k : Num) : Vec := ⟨nMul v.X k, nMul v.Y k⟩
def vCross (a b : Vec) : Num := nDot a.X b.Y (nNeg a.Y) b.X
theorem c_PSub (a b : Vec) : Con N.P N.plane_Sub [a.av, b.av] (vSub a b).av :=
  con_of_one (t := [e_Sub]) (hints := h0) (all_cons o_Sub all_nil) (by kernel_rfl) rfl 30 (by kernel_rfl)
def e_PSub : Ent := ent2 N.plane_Sub cVec cVec fun a b => (vSub a b).av
theorem o_PSub : e_PSub.ok N.P := ent2_ok c_PSub
theorem c_PScale (a : Vec) (k : Num) : Con N.P N.plane_Scale [a.av, k.av] (vScale a k).av :=
  con_of_one (t := [e_Mul]) (hints := h0) (all_cons o_Mul all_nil) (by kernel_rfl) rfl 30 (by kernel_rfl)
def e_PScale : Ent := ent2 N.plane_Scale cVec cNum fun a b => (vScale a b).av
theorem o_PScale : e_PScale.ok N.P := ent2_ok c_PScale
theorem c_PCross (a b : Vec) : Con N.P N.plane_Cross [a.av, b.av] (vCross a b).av :=
  con_of_one (t := [e_Neg, e_Dot]) (hints := h0) (all_cons o_Neg (all_cons o_Dot all_nil)) (by kernel_rfl) rfl 30 (by kernel_rfl)
def e_PCross : Ent := ent2 N.plane_Cross cVec cVec fun a b => (vCross a b).av
theorem o_PCross : e_PCross.ok N.P := ent2_ok c_PCross
end Go.Flat
end

section
/- Contracts: impulses. -/
set_option linter.unusedSimpArgs false
set_option linter.unusedVariables false
namespace Go.Flat
open Go

/-- what stands behind a pointer -/
theorem Fits.vptr {cs cs' : List AV} (h : FitsL cs cs') : Fits (.vptr cs) (.vptr cs') := fun R ρ w v hv => by
  cases hv with
  | vptr vals hR h1 h2 h3 =>
    refine .vptr vals hR (fun j c hc => ?_) (fun j c hc => ?_) (fun j c hc => ?_)
    · obtain ⟨_, _, _, h5⟩ := h.get hc; exact h5
    · obtain ⟨c0, hc0, _⟩ := h.get hc; exact h2 j c0 hc0
    · obtain ⟨c0, hc0, h4, _⟩ := h.get hc; exact h4 R ρ w _ (h3 j c0 hc0)
def Row.ptr {α : Type} (r : Row α) : Cdc α := ⟨fun a => match a with
    | .vptr cs => r.dec cs
    | _ => none, fun x => .vptr (r.cells x), fun a x g h hg => by
  split at h
  · exact Fits.vptr (r.ok _ _ _ h hg)
  · cases h⟩

/-- a number, limited -/
def nLimit (y : Num) (n : Int) : Num := ⟨(nClamp y (nInt (i64 (0 - n))) (nInt n)).V, false⟩
theorem c_limit1 (y : Num) (n : Int) : Con N.P N.solver_limit_c1_Num [y.av, (rInt .i64).ptr.enc n] (nLimit y n).av :=
  con_ty (c := cNum) (t := [e_Int, e_Clamp]) (hints := h0) (all_cons o_Int (all_cons o_Clamp all_nil)) (by kernel_rfl) rfl 30 (.leaf (nLimit y n)) (by kernel_rfl) fun _ => rfl
theorem c_limit1V (y : Num) (n : Int) : Con N.P N.solver_limit_c1_Vec [y.av, (rInt .i64).ptr.enc n] (nLimit y n).av :=
  con_ty (c := cNum) (t := [e_Int, e_Clamp]) (hints := h0) (all_cons o_Int (all_cons o_Clamp all_nil)) (by kernel_rfl) rfl 30 (.leaf (nLimit y n)) (by kernel_rfl) fun _ => rfl
def e_limit1 : Ent := ent2 N.solver_limit_c1_Num cNum (rInt .i64).ptr fun y n => (nLimit y n).av
theorem o_limit1 : e_limit1.ok N.P := ent2_ok c_limit1
def e_limit1V : Ent := ent2 N.solver_limit_c1_Vec cNum (rInt .i64).ptr fun y n => (nLimit y n).av
theorem o_limit1V : e_limit1V.ok N.P := ent2_ok c_limit1V
def vLimit (y : Vec) (n : Int) : Vec := ⟨nLimit y.X n, nLimit y.Y n⟩
theorem c_limitN (y : Num) (n : Int) : Con N.P N.solver_limit_Num [y.av, li n] (nLimit y n).av :=
  con_ty (c := cNum) (t := [e_limit1]) (hints := h0) (all_cons o_limit1 all_nil) (by kernel_rfl) rfl 30 (.leaf (nLimit y n)) (by kernel_rfl) fun _ => rfl
def e_limitN : Ent := ent2 N.solver_limit_Num cNum (cInt .i64) fun y n => (nLimit y n).av
theorem o_limitN : e_limitN.ok N.P := ent2_ok c_limitN
theorem c_limitV (y : Vec) (n : Int) : Con N.P N.solver_limit_Vec [y.av, li n] (vLimit y n).av :=
  con_ty (c := cVec) (t := [e_limit1V]) (hints := h0) (all_cons o_limit1V all_nil) (by kernel_rfl) rfl 30 (.leaf (vLimit y n)) (by kernel_rfl) fun _ => rfl
def e_limitV : Ent := ent2 N.solver_limit_Vec cVec (cInt .i64) fun y n => (vLimit y n).av
theorem o_limitV : e_limitV.ok N.P := ent2_ok c_limitV

/-- the arm of a place -/
def bArm (b : Body) (at' : Vec) : Vec := vSub at' b.Pos.At
theorem c_arm (b : Body) (at' : Vec) : Con N.P N.solver_worked_arm [rBody.ptr.enc b, at'.av] (bArm b at').av :=
  con_ty (c := cVec) (t := [e_PSub]) (hints := h0) (all_cons o_PSub all_nil) (by kernel_rfl) rfl 30 (.leaf (bArm b at')) (by kernel_rfl) fun _ => rfl
def e_arm : Ent := ent2 N.solver_worked_arm rBody.ptr cVec fun b at' => (bArm b at').av
theorem o_arm : e_arm.ok N.P := ent2_ok c_arm
end Go.Flat
end

section
/- Contracts of calls that write one thing behind a pointer: typed runs. -/
set_option linter.unusedSimpArgs false
set_option linter.unusedVariables false
namespace Go.Flat
open Go

/-- what a call leaves of the one thing behind its first argument -/
def oneOf {α : Type} (r : Row α) (p : AV × Mem) : Tree α := match p.1 with
  | .tup [] => (match p.2 with
    | [some ⟨.one cs, false⟩] => (match r.dec cs with
      | some (y, g) => guards g (.leaf y)
      | none => .fail 31)
    | _ => .fail 32)
  | _ => .fail 33
def runP {α : Type} (C : Ctx) (n : Nat) (f : FuncId) (esz : Nat) (r : Row α) (x : α) (args : List AV) : Tree α :=
  (runM C n f (.ptr 0 esz 0 0 :: args) [some ⟨.one (r.cells x), false⟩]).bind (oneOf r)

theorem mut_of_runP {α : Type} {P : Program} {t : List Ent} {m : List Ment} {hints : Hints} {nils : FuncId → Nat → List (Nat × Nat × Nat)} (ht : ∀ e ∈ t, e.ok P) (hm : ∀ e ∈ m, e.ok P) (hN : Named P) (hM : P.follows .mixedOrders = true)
    {f : FuncId} {esz : Nat} {r : Row α} {x y : α} {args : List AV} (n : Nat)
    (h : (runP (ctxN P t m hints nils) n f esz r x args).holds (· = y)) : MutOk P f (.ptr 0 esz 0 0 :: args) [some ⟨.one (r.cells x), false⟩] (.tup []) [some ⟨.one (r.cells y), false⟩] := by
  refine (mut_of_run (C := ctxN P t m hints nils) ⟨fun f args r g _ h1 h2 => orcOf_ok ht f args r g h1 h2, fun _ _ h => (by cases h), fun _ _ h => (by cases h), fun _ _ _ _ _ h => absurd rfl h⟩ (fun g args mem r mem' cs h1 h2 => mutOf_ok hm g args mem r mem' cs h1 h2) hN hM n f _ _ _ _ ?_).2
  refine holds_mono (fun p hp => ?_) (bind_holds h)
  obtain ⟨v, mem⟩ := p
  unfold oneOf at hp
  simp only at hp
  split at hp
  · split at hp
    · rename_i cs
      cases hd : r.dec cs with
      | none => simp [hd, Tree.holds] at hp
      | some q =>
        obtain ⟨z, g⟩ := q
        simp only [hd] at hp
        obtain ⟨hg, hz⟩ := guards_holds hp
        have hz : z = y := hz
        subst hz
        have hf := r.ok _ _ _ hd hg
        refine ⟨Fits.refl _, rfl, fun b s' hs' => ?_⟩
        cases b with
        | zero =>
          have : s' = ⟨.one (r.cells z), false⟩ := by simpa [getSlot] using hs'.symm
          subst this
          exact ⟨_, rfl, rfl, hf.1, fun i c c' hc hc' => ⟨(hf.2 i c c' hc hc').1, (hf.2 i c c' hc hc').2.1⟩⟩
        | succ b => simp [getSlot] at hs'
    · exact hp.elim
  · exact hp.elim

def dec2 {α β : Type} (A : Cdc α) (B : Cdc β) : List AV → Option ((α × β) × List Bool)
  | [a, b] => (match A.dec a with
    | some (x, g) => (match B.dec b with
      | some (y, h) => some ((x, y), g ++ h)
      | none => none)
    | none => none)
  | _ => none
theorem dec2_ok {α β : Type} (A : Cdc α) (B : Cdc β) : ∀ args y g, dec2 A B args = some (y, g) → (∀ c ∈ g, c = true) → [A.enc y.1, B.enc y.2].length = args.length ∧ ∀ (i : Nat) (a a0 : AV), args[i]? = some a → [A.enc y.1, B.enc y.2][i]? = some a0 → Fits a a0 := fun args y g h hg => by
  unfold dec2 at h
  split at h
  · rename_i a b
    cases h1 : A.dec a with
    | none => simp [h1] at h
    | some p =>
      obtain ⟨x1, g1⟩ := p
      cases h2 : B.dec b with
      | none => simp [h1, h2] at h
      | some q =>
        obtain ⟨x2, g2⟩ := q
        simp only [h1, h2, Option.some.injEq, Prod.mk.injEq] at h
        obtain ⟨rfl, rfl⟩ := h
        refine ⟨rfl, fun i a1 a0 hi hi' => ?_⟩
        rcases i with _ | _ | i <;> simp at hi hi' <;> subst hi <;> subst hi'
        · exact A.ok _ _ _ h1 (fun c hc => hg c (by simp [hc]))
        · exact B.ok _ _ _ h2 (fun c hc => hg c (by simp [hc]))
  · cases h
/-- two arguments -/
def Dec.two {α β : Type} (A : Cdc α) (B : Cdc β) (ha : ∀ x, okArg 0 (A.enc x) = true) (hb : ∀ x, okArg 0 (B.enc x) = true) : Dec (α × β) :=
  ⟨dec2 A B, fun p => [A.enc p.1, B.enc p.2], dec2_ok A B, fun y a ha' => by
    simp at ha'
    rcases ha' with rfl | rfl
    · exact ha _
    · exact hb _⟩
def dec1 {α : Type} (A : Cdc α) : List AV → Option (α × List Bool)
  | [a] => A.dec a
  | _ => none
theorem dec1_ok {α : Type} (A : Cdc α) : ∀ args y g, dec1 A args = some (y, g) → (∀ c ∈ g, c = true) → [A.enc y].length = args.length ∧ ∀ (i : Nat) (a a0 : AV), args[i]? = some a → [A.enc y][i]? = some a0 → Fits a a0 := fun args y g h hg => by
  unfold dec1 at h
  split at h
  · refine ⟨rfl, fun i a1 a0 hi hi' => ?_⟩
    rcases i with _ | i <;> simp at hi hi'
    subst hi; subst hi'
    exact A.ok _ _ _ h hg
  · cases h
def Dec.one {α : Type} (A : Cdc α) (ha : ∀ x, okArg 0 (A.enc x) = true) : Dec α :=
  ⟨dec1 A, fun p => [A.enc p], dec1_ok A, fun y a ha' => by
    simp at ha'
    subst ha'
    exact ha _⟩
def dec0 : List AV → Option (Unit × List Bool)
  | [] => some ((), [])
  | _ => none
def Dec.nil : Dec Unit :=
  ⟨dec0, fun _ => [], fun args y g h hg => by
    unfold dec0 at h
    split at h
    · exact ⟨rfl, fun i a1 a0 hi hi' => by simp at hi⟩
    · exact absurd h (by simp), fun y a ha' => by simp at ha'⟩
end Go.Flat
end

section
/- Contracts: Push. -/
set_option linter.unusedSimpArgs false
set_option linter.unusedVariables false
namespace Go.Flat
open Go

/-- a body behind an impulse -/
def pushV (b : Body) (j : Vec) : Vec := vLimit (vAdd [b.V, vScale j b.Wt.M]) 256
def pushW (b : Body) (x j : Vec) : Num := nLimit (nAdd b.W (nMul b.Wt.I (vCross (bArm b x) j))) 64
def sPush (b : Body) (x j : Vec) : Body := bif moves b then (bif b.Fault then b else { b with V := pushV b j, W := pushW b x j, Still := bif b.Asleep then 0 else b.Still, Asleep := false }) else b

def t_push : List Ent := [e_Moves, e_arm, e_PCross, e_Mul, e_PScale, e_PAdd, e_limitV, e_Add, e_limitN]
theorem ok_push : ∀ e ∈ t_push, e.ok N.P := all_cons o_Moves (all_cons o_arm (all_cons o_PCross (all_cons o_Mul (all_cons o_PScale (all_cons o_PAdd (all_cons o_limitV (all_cons o_Add (all_cons o_limitN all_nil))))))))
noncomputable abbrev Cpush : Ctx := ctxN N.P t_push [] h0 fun _ _ => []
theorem push_tree (b : Body) (x j : Vec) : runP Cpush 30 N.solver_worked_push 27 rBody b [x.av, j.av] =
    gd (okS b.Shp.Pts) (.node (!moves b) (gd (okS b.Shp.Pts) (.leaf b)) (.node b.Fault (gd (okS b.Shp.Pts) (.leaf b)) (gd (okS b.Shp.Pts) (.node b.Asleep
      (gd (okS b.Shp.Pts) (.node (moves b) (.node (!b.Fault) (gd (okS b.Shp.Pts) (.leaf { b with V := pushV b j, W := pushW b x j, Still := 0, Asleep := false }))
        (gd (okS b.Shp.Pts) (.leaf { b with V := pushV b j, W := pushW b x j }))) (gd (okS b.Shp.Pts) (.leaf { b with V := pushV b j, W := pushW b x j }))))
      (gd (okS b.Shp.Pts) (.leaf { b with V := pushV b j, W := pushW b x j })))))) := by kernel_rfl
theorem body_cells (b : Body) : (rBody.cells b).all (fun c => c.leaf && noLoc c) = true := rfl
theorem vec_arg (x : Vec) : okArg 0 (cVec.enc x) = true := rfl
def dVV : Dec (Vec × Vec) := Dec.two cVec cVec vec_arg vec_arg
def m_push : Ment := mentP N.solver_worked_push 27 rBody dVV fun b p => sPush b p.1 p.2
theorem k_push (b : Body) (x j : Vec) : MutOk N.P N.solver_worked_push [.ptr 0 27 0 0, x.av, j.av] [some ⟨.one (rBody.cells b), false⟩] (.tup []) [some ⟨.one (rBody.cells (sPush b x j)), false⟩] := by
  refine mut_of_runP (P := N.P) (f := N.solver_worked_push) (esz := 27) (r := rBody) (x := b) (y := sPush b x j) (args := [x.av, j.av]) (t := t_push) (m := []) (hints := h0) (nils := fun _ _ => []) ok_push mall_nil named mixed 30 ?_
  show (runP Cpush 30 N.solver_worked_push 27 rBody b [x.av, j.av]).holds _
  rw [push_tree, okS_true]
  refine holds_gd rfl ⟨fun h => holds_gd rfl ?_, fun h => ⟨fun h1 => holds_gd rfl ?_, fun h1 => holds_gd rfl ⟨fun h2 => holds_gd rfl ⟨fun h3 => ⟨fun h4 => holds_gd rfl ?_, fun h4 => ?_⟩, fun h3 => ?_⟩, fun h2 => holds_gd rfl ?_⟩⟩⟩
  · show _ = _
    unfold sPush; simp only [Bool.not_eq_true'] at h; rw [h]; rfl
  · show _ = _
    unfold sPush; simp only [Bool.not_eq_false'] at h; rw [h, h1]; rfl
  · show _ = _
    unfold sPush; rw [h3, h1, h2]; rfl
  · rw [h1] at h4; cases h4
  · rw [h3] at h; cases h
  · show _ = _
    simp only [Bool.not_eq_false'] at h
    unfold sPush; rw [h, h1, h2]
    obtain ⟨s, p, v, w, wt, st, asl, fa, ver⟩ := b
    simp only at h2
    subst h2
    rfl
theorem mo_push : m_push.ok N.P := by
  have hc : Callable N.P N.solver_worked_push := callB_ok (by kernel_rfl)
  have key : ∀ (b : Body) (p : Vec × Vec), MutOk N.P N.solver_worked_push (.ptr 0 27 0 0 :: dVV.enc p) [some ⟨.one (rBody.cells b), false⟩] (.tup []) [some ⟨.one (rBody.cells (sPush b p.1 p.2)), false⟩] := fun b p => k_push b p.1 p.2
  exact mentP_ok (f := N.solver_worked_push) (esz := 27) (r := rBody) (D := dVV) (spec := fun b p => sPush b p.1 p.2) body_cells hc key
end Go.Flat
end

section
/- Contracts: Push; the chapter's examples that every statement asks. -/
set_option linter.unusedSimpArgs false
set_option linter.unusedVariables false
namespace Go.Flat
open Go

theorem con_tyNG {P : Program} {α : Type} {t : List Ent} {m : List Ment} {hints : Hints} {nils : FuncId → Nat → List (Nat × Nat × Nat)} (ht : ∀ e ∈ t, e.ok P) (hm : ∀ e ∈ m, e.ok P) (hN : Named P) (hM : P.follows .mixedOrders = true) {f : FuncId} (hc : callB P f = true) {args : List AV} {c : Cdc α} {x : α} (hr : locsBelow 0 (c.enc x) = true) (n : Nat) (tr : Tree α)
    (h : runT (ctxN P t m hints nils) n f args c = tr) (h2 : (∀ a ∈ args, Sat a) → tr.holds (· = x)) : Con P f args (c.enc x) :=
  con_of_runN ht hm hN hM hc hr fun hs => ⟨n, runT_holds (c := c) (by rw [h]; exact h2 hs)⟩
theorem con_tyN {α : Type} {t : List Ent} {m : List Ment} {hints : Hints} {nils : FuncId → Nat → List (Nat × Nat × Nat)} (ht : ∀ e ∈ t, e.ok N.P) (hm : ∀ e ∈ m, e.ok N.P) {f : FuncId} (hc : callB N.P f = true) {args : List AV} {c : Cdc α} {x : α} (hr : locsBelow 0 (c.enc x) = true) (n : Nat) (tr : Tree α)
    (h : runT (ctxN N.P t m hints nils) n f args c = tr) (h2 : (∀ a ∈ args, Sat a) → tr.holds (· = x)) : Con N.P f args (c.enc x) :=
  con_tyNG ht hm named mixed hc hr n tr h h2
abbrev nn : FuncId → Nat → List (Nat × Nat × Nat) := fun _ _ => []
theorem c_Push (b : Body) (x j : Vec) (hb : b.small = true) : Con N.P N.solver_Push [b.av, x.av, j.av] (sPush b x j).av :=
  con_tyN (c := rBody.agg) (t := [e_Copy]) (m := [m_push]) (hints := h0) (nils := nn) (all_cons o_Copy all_nil) (mall_cons mo_push mall_nil) (by kernel_rfl) rfl 30
    (gd b.small (gd (okS b.Shp.Pts) (gd (okS b.Shp.Pts) (gd (okS (sPush b x j).Shp.Pts) (.leaf (sPush b x j)))))) (by kernel_rfl) fun hs => by
    rw [okS_true, okS_true]
    exact holds_gd hb (holds_gd rfl (holds_gd rfl (holds_gd rfl rfl)))
def e_Push : Ent := entC3 N.solver_Push rBody.agg cVec cVec (fun b _ _ => b.small) fun b x j => (sPush b x j).av
theorem o_Push : e_Push.ok N.P := entC3_ok c_Push

def one : Num := ⟨4294967296, false⟩
theorem c_one : Con N.P N.law05_one [] one.av :=
  con_ty (c := cNum) (t := []) (hints := h0) all_nil (by kernel_rfl) rfl 30 (.leaf one) (by kernel_rfl) fun _ => rfl
def e_one : Ent := ent0 N.law05_one one.av
theorem o_one : e_one.ok N.P := ent0_ok c_one
def noSpots : Sl Spot := ⟨0, fun _ => ⟨0, 0⟩⟩
def zNum : Num := ⟨0, false⟩
def zV : Vec := ⟨zNum, zNum⟩
def sRound (x : Int) (w : Weight) : Body := ⟨⟨1, 256, 0, 0, noSpots⟩, ⟨⟨⟨x, false⟩, zNum⟩, ⟨one, zNum⟩⟩, zV, zNum, w, 0, false, false, 1⟩
theorem c_round (x : Int) (w : Weight) : Con N.P N.law05_round [li x, w.av] (sRound x w).av :=
  con_ty (c := rBody.agg) (t := [e_one]) (hints := h0) (all_cons o_one all_nil) (by kernel_rfl) rfl 30 (.leaf (sRound x w)) (by kernel_rfl) fun _ => rfl
def e_round : Ent := ent2 N.law05_round (cInt .i64) rWeight.agg fun x w => (sRound x w).av
theorem o_round : e_round.ok N.P := ent2_ok c_round

def j4 : Joint := ⟨4, 0, 0, zV, zV, zNum⟩
def isJ4 (n : Int) (j : Joint) : Bool := decide (n = 1) && decide (j = j4)
def kAgg (j : AV) : AV := j
theorem fits_ki {k : IntKind} {n : Int} : Fits (.lit (.int k n)) (.ki k n) := fun R ρ w v hv => by
  cases hv with
  | lit h => exact .ki h
theorem fits_kb {b : Bool} : Fits (.lit (.bool b)) (.kb b) := fun R ρ w v hv => by
  cases hv with
  | lit h => exact .kb
def j4k : List AV := [.ki .i64 4, .ki .i64 0, .ki .i64 0, .ki .i64 0, .kb false, .ki .i64 0, .kb false, .ki .i64 0, .kb false, .ki .i64 0, .kb false, .ki .i64 0, .kb false]
theorem c_Check4 (n : Int) (j : Joint) (h : isJ4 n j = true) : Con N.P N.solver_CheckJoint [li n, j.av] (.ki .i64 8) := by
  simp only [isJ4, Bool.and_eq_true, decide_eq_true_eq] at h
  obtain ⟨rfl, rfl⟩ := h
  have h2 : Con N.P N.solver_CheckJoint [.ki .i64 1, .agg j4k] (.ki .i64 8) := con_of_one (t := []) (hints := h0) all_nil (by kernel_rfl) rfl 30 (by kernel_rfl)
  refine Con.args (args' := [.ki .i64 1, .agg j4k]) rfl (fun i a a' hi hi' => ?_) h2
  rcases i with _ | _ | i <;> simp at hi hi' <;> subst hi <;> subst hi'
  · exact fits_ki
  · have f : ∀ {k : IntKind} {n : Int}, Fits (.lit (.int k n)) (.ki k n) := fits_ki
    exact Fits.agg (.cons f rfl rfl (.cons f rfl rfl (.cons f rfl rfl (.cons f rfl rfl (.cons fits_kb rfl rfl (.cons f rfl rfl (.cons fits_kb rfl rfl (.cons f rfl rfl (.cons fits_kb rfl rfl (.cons f rfl rfl (.cons fits_kb rfl rfl (.cons f rfl rfl (.cons fits_kb rfl rfl .nil)))))))))))))
def e_Check4 : Ent := entC2 N.solver_CheckJoint (cInt .i64) rJoint.agg isJ4 fun _ _ => .ki .i64 8
theorem o_Check4 : e_Check4.ok N.P := entC2_ok c_Check4
end Go.Flat
end

section
/- Contracts: the chapter's examples. -/
set_option linter.unusedSimpArgs false
set_option linter.unusedVariables false
namespace Go.Flat
open Go

def t_awake : List Ent := [e_Push, e_round, e_one, e_Check4]
theorem ok_awake : ∀ e ∈ t_awake, e.ok N.P := all_cons o_Push (all_cons o_round (all_cons o_one (all_cons o_Check4 all_nil)))
def aw1 : Body := sPush (sRound 0 ⟨one, one⟩) ⟨zNum, one⟩ ⟨one, zNum⟩
theorem c_awake : Con N.P N.law05_awake [] (lb true) :=
  con_tyN (c := cBool) (t := t_awake) (m := []) (hints := h0) (nils := nn) ok_awake mall_nil (by kernel_rfl) rfl 30
    (gd (sRound 0 ⟨one, one⟩).small (gd (okS noSpots) (.node (vecEq aw1.V ⟨one, zNum⟩) (.node (numEq aw1.W ⟨-4294967296, false⟩) (gd (isJ4 1 j4) (.leaf true)) (.leaf false)) (.leaf false)))) (by kernel_rfl) fun _ =>
    holds_gd (by kernel_rfl) (holds_gd (okS_true _) (holds_yes (by kernel_rfl) (holds_yes (by kernel_rfl) (holds_gd (by kernel_rfl) rfl))))
def e_awake : Ent := ent0 N.law05_awake (lb true)
theorem o_awake : e_awake.ok N.P := ent0_ok c_awake

def okB (l : Sl Body) : Bool := allN l.len fun i => okRow rBody (rBody.cells (l.at' i))
def lst1 (a : Body) : Sl Body := ⟨1, fun i => [a].getD i rBody.d⟩
def lst2 (a b : Body) : Sl Body := ⟨2, fun i => [a, b].getD i rBody.d⟩
end Go.Flat
end

section
/- Small helpers, and contracts by trees. -/
set_option linter.unusedSimpArgs false
set_option linter.unusedVariables false
namespace Go.Flat
open Go

/-- a part of a tree -/
def Tree.l {α : Type} : Tree α → Tree α
  | .node _ t _ => t
  | t => t
def Tree.r {α : Type} : Tree α → Tree α
  | .node _ _ e => e
  | t => t

theorem okB_true (l : Sl Body) : okB l = true := law_body.all _ _
theorem light_small {b : Body} (h : isLight b = true) : b.small = true := by
  have := Nat.le_of_ble_eq_true h
  unfold Body.small smallN
  exact Nat.ble_eq_true_of_le (by omega)

theorem con_treeNG {P : Program} {t : List Ent} {m : List Ment} {hints : Hints} {nils : FuncId → Nat → List (Nat × Nat × Nat)} (ht : ∀ e ∈ t, e.ok P) (hm : ∀ e ∈ m, e.ok P) (hN : Named P) (hM : P.follows .mixedOrders = true) {f : FuncId} (hc : callB P f = true) {args : List AV} {r : AV} (hr : locsBelow 0 r = true) (n : Nat) (tr : Tree AV)
    (h : runF (ctxN P t m hints nils) n f args = tr) (h2 : (∀ a ∈ args, Sat a) → tr.holds fun x => Fits x r) : Con P f args r :=
  con_of_runN ht hm hN hM hc hr fun hs => ⟨n, by rw [h]; exact h2 hs⟩
theorem con_treeN {t : List Ent} {m : List Ment} {hints : Hints} {nils : FuncId → Nat → List (Nat × Nat × Nat)} (ht : ∀ e ∈ t, e.ok N.P) (hm : ∀ e ∈ m, e.ok N.P) {f : FuncId} (hc : callB N.P f = true) {args : List AV} {r : AV} (hr : locsBelow 0 r = true) (n : Nat) (tr : Tree AV)
    (h : runF (ctxN N.P t m hints nils) n f args = tr) (h2 : (∀ a ∈ args, Sat a) → tr.holds fun x => Fits x r) : Con N.P f args r :=
  con_treeNG ht hm named mixed hc hr n tr h h2
end Go.Flat
end

section
/- Contracts of the reference's numbers: sums, products, the greatest and the least. -/
set_option linter.unusedSimpArgs false
set_option linter.unusedVariables false
namespace Go.Flat
open Go

theorem c_rAddN (a b : Num) : Con N.P N.ref01_Add [a.av, b.av] (nAdd a b).av :=
  con_of_one (t := [e_rSum]) (hints := h0) (all_cons o_rSum all_nil) (by kernel_rfl) rfl 30 (by kernel_rfl)
def e_rAddN : Ent := ent2 N.ref01_Add cNum cNum fun a b => (nAdd a b).av
theorem o_rAddN : e_rAddN.ok N.P := ent2_ok c_rAddN
theorem c_rNeg (a : Num) : Con N.P N.ref01_Neg [a.av] (nNeg a).av :=
  con_of_tree (t := [e_rWhole]) (hints := h0) (all_cons o_rWhole all_nil) (by kernel_rfl) rfl 60
    (.leaf (.agg [li (i64 (0 - sv a)), lb (sf a)])) (by kernel_rfl) fun hs => by
    have := sv_range ((hs _ List.mem_cons_self).cells _ List.mem_cons_self)
    refine fits_num rfl rfl ?_ rfl
    simp only [nNeg, i64, IntKind.wrap_i64]; omega
def e_rNeg : Ent := ent1 N.ref01_Neg cNum fun a => (nNeg a).av
theorem o_rNeg : e_rNeg.ok N.P := ent1_ok c_rNeg
theorem c_rSub (a b : Num) : Con N.P N.ref01_Sub [a.av, b.av] (nSub a b).av :=
  con_of_one (t := [e_rNeg, e_rSum]) (hints := h0) (all_cons o_rNeg (all_cons o_rSum all_nil)) (by kernel_rfl) rfl 30 (by kernel_rfl)
def e_rSub : Ent := ent2 N.ref01_Sub cNum cNum fun a b => (nSub a b).av
theorem o_rSub : e_rSub.ok N.P := ent2_ok c_rSub

/-- a product with a sign that is never that of a zero -/
def rMul (a b : Int) : Wd := { wMul a b with neg := bif (!decide (a < 0) == decide (b < 0)) then (bif a != 0 then b != 0 else false) else false }
theorem rMul_valid {a b : Int} (ha : -9223372036854775808 ≤ a ∧ a ≤ 9223372036854775807) (hb : -9223372036854775808 ≤ b ∧ b ≤ 9223372036854775807) :
    (rMul a b).valid ∧ (rMul a b).v = a * b ∧ (rMul a b).m ≤ 85070591730234615865843651857942052864 := by
  obtain ⟨k1, k2, k3⟩ := wMul_valid ha hb
  refine ⟨k1, ?_, k3⟩
  by_cases h0 : a = 0
  · subst h0
    have e : (rMul 0 b) = ⟨false, 0, 0⟩ := by
      unfold rMul wMul wOf
      cases (!decide ((0 : Int) < 0) == decide (b < 0)) <;> simp
    rw [e, Int.zero_mul]; rfl
  · by_cases h1 : b = 0
    · subst h1
      have e : (rMul a 0) = ⟨false, 0, 0⟩ := by
        unfold rMul wMul wOf
        cases (!decide (a < 0) == decide ((0 : Int) < 0)) <;> simp
      rw [e, Int.mul_zero]; rfl
    · have e : (rMul a b) = wMul a b := by
        unfold rMul
        have e1 : (a != 0) = true := by simpa using h0
        have e2 : (b != 0) = true := by simpa using h1
        rw [e1, e2]
        unfold wMul wOf
        simp only [cond_true]
        cases decide (a < 0) <;> cases decide (b < 0) <;> rfl
      rw [e, k2]
theorem c_rTimes (a b : Int) : Con N.P N.ref01_times [li a, li b] (rMul a b).avR :=
  con_of_tree (t := [e_rSize, e_Mul64]) (hints := h0) (all_cons o_rSize (all_cons o_Mul64 all_nil)) (by kernel_rfl) rfl 60
    (.node (!decide (a < 0) == decide (b < 0)) (.node (a != 0) (.leaf (.agg [lb (b != 0), lu (wMul a b).hi, lu (wMul a b).lo])) (.leaf (.agg [.kb false, lu (wMul a b).hi, lu (wMul a b).lo])))
      (.leaf (.agg [.kb false, lu (wMul a b).hi, lu (wMul a b).lo]))) (by kernel_rfl) fun _ => by
    unfold rMul
    refine ⟨fun h => ⟨fun h1 => ?_, fun h1 => ?_⟩, fun h => ?_⟩
    · rw [h, h1]; exact Fits.refl _
    · rw [h, h1]; exact Fits.agg (.cons Fits.kb rfl rfl (FitsL.refl_of rfl))
    · rw [h]; exact Fits.agg (.cons Fits.kb rfl rfl (FitsL.refl_of rfl))
def e_rTimes : Ent := ent2 N.ref01_times (cInt .i64) (cInt .i64) fun a b => (rMul a b).avR
theorem o_rTimes : e_rTimes.ok N.P := ent2_ok c_rTimes
theorem c_rDown (x : Wd) : Con N.P N.ref01_down [x.avR] (wDown x).avR :=
  con_of_one (t := []) (hints := h0) all_nil (by kernel_rfl) rfl 60 (by kernel_rfl)
def e_rDown : Ent := ent1 N.ref01_down cWdR fun x => (wDown x).avR
theorem o_rDown : e_rDown.ok N.P := ent1_ok c_rDown

theorem c_rMul (a b : Num) : Con N.P N.ref01_Mul [a.av, b.av] (nMul a b).av :=
  Con.sat (by kernel_rfl) fun hs => by
    have ha := sv_bound a (sat_num (hs _ List.mem_cons_self))
    have hb := sv_bound b (sat_num (hs _ (List.mem_cons_of_mem _ List.mem_cons_self)))
    obtain ⟨k1, k2, _⟩ := rMul_valid (a := sv a) (b := sv b) (by omega) (by omega)
    obtain ⟨j1, j2⟩ := wDown_valid k1
    have e : ∀ f, wFit (wDown (rMul (sv a) (sv b))) f = nFit ((sv a * sv b).tdiv B32) f := fun f => by
      rw [wFit_eq j1, j2, k2]; rfl
    exact con_ty (c := cNum) (t := [e_rWhole, e_rTimes, e_rDown, e_rFit]) (hints := h0) (all_cons o_rWhole (all_cons o_rTimes (all_cons o_rDown (all_cons o_rFit all_nil)))) (by kernel_rfl) rfl 40
      (.node (sf a) (.leaf (wFit (wDown (rMul (sv a) (sv b))) true)) (.leaf (wFit (wDown (rMul (sv a) (sv b))) (sf b)))) (by kernel_rfl) fun _ => by
        refine ⟨fun h => ?_, fun h => ?_⟩ <;> show _ = _ <;> rw [e] <;> unfold nMul <;> rw [h] <;> rfl
def e_rMul : Ent := ent2 N.ref01_Mul cNum cNum fun a b => (nMul a b).av
theorem o_rMul : e_rMul.ok N.P := ent2_ok c_rMul
theorem c_rDot (a b c d : Num) : Con N.P N.ref01_Dot [a.av, b.av, c.av, d.av] (nDot a b c d).av :=
  Con.sat (by kernel_rfl) fun hs => by
    have ha := sv_bound a (sat_num (hs _ List.mem_cons_self))
    have hb := sv_bound b (sat_num (hs _ (by simp)))
    have hc := sv_bound c (sat_num (hs _ (by simp)))
    have hd := sv_bound d (sat_num (hs _ (by simp)))
    obtain ⟨k1, k2, k3⟩ := rMul_valid (a := sv a) (b := sv b) (by omega) (by omega)
    obtain ⟨l1, l2, l3⟩ := rMul_valid (a := sv c) (b := sv d) (by omega) (by omega)
    obtain ⟨m1, m2, m3⟩ := rPlus_valid k1 l1 (by omega)
    obtain ⟨j1, j2⟩ := wDown_valid m1
    have e : ∀ f, wFit (wDown (rPlus (rMul (sv a) (sv b)) (rMul (sv c) (sv d)))) f = nFit ((sv a * sv b + sv c * sv d).tdiv B32) f := fun f => by
      rw [wFit_eq j1, j2, m2, k2, l2]; rfl
    exact con_ty (c := cNum) (t := [e_rWhole, e_rTimes, e_rDown, e_rFit, e_rPlus]) (hints := h0) (all_cons o_rWhole (all_cons o_rTimes (all_cons o_rDown (all_cons o_rFit (all_cons o_rPlus all_nil))))) (by kernel_rfl) rfl 40
      (.node (sf a) (.leaf (wFit (wDown (rPlus (rMul (sv a) (sv b)) (rMul (sv c) (sv d)))) true)) (.node (sf b) (.leaf (wFit (wDown (rPlus (rMul (sv a) (sv b)) (rMul (sv c) (sv d)))) true))
        (.node (sf c) (.leaf (wFit (wDown (rPlus (rMul (sv a) (sv b)) (rMul (sv c) (sv d)))) true)) (.leaf (wFit (wDown (rPlus (rMul (sv a) (sv b)) (rMul (sv c) (sv d)))) (sf d)))))) (by kernel_rfl) fun _ => by
        refine ⟨fun h => ?_, fun h => ⟨fun h2 => ?_, fun h2 => ⟨fun h3 => ?_, fun h3 => ?_⟩⟩⟩ <;> show _ = _ <;> rw [e] <;> unfold nDot
        · rw [h]; rfl
        · rw [h, h2]; rfl
        · rw [h, h2, h3]; rfl
        · rw [h, h2, h3]; rfl
def e_rDot : Ent := ent4 N.ref01_Dot cNum cNum cNum cNum fun a b c d => (nDot a b c d).av
theorem o_rDot : e_rDot.ok N.P := ent4_ok c_rDot
theorem c_rInt (n : Int) : Con N.P N.ref01_Int [li n] (nInt n).av :=
  Con.sat (by kernel_rfl) fun hs => by
    have hn := i64_range (hs _ List.mem_cons_self)
    obtain ⟨k1, k2, k3⟩ := wOf_valid (v := n) (by omega) (by omega)
    obtain ⟨j1, j2, _⟩ := wUp_valid k1 (by omega)
    have e : nInt n = wFit (wUp (wOf n)) false := by
      rw [wFit_eq j1, j2, k2]; rfl
    rw [e]
    exact con_of_one (t := [e_rExact, e_rUp, e_rFit]) (hints := h0) (all_cons o_rExact (all_cons o_rUp (all_cons o_rFit all_nil))) (by kernel_rfl) rfl 40 (by kernel_rfl)
def e_rInt : Ent := ent1 N.ref01_Int (cInt .i64) fun n => (nInt n).av
theorem o_rInt : e_rInt.ok N.P := ent1_ok c_rInt

/-- how two numbers compare; without its sign -/
def nCmp (a b : Num) : Int := sCmp (sv a) (sv b)
theorem c_Cmp (a b : Num) : Con N.P N.fixed_Cmp [a.av, b.av] (li (nCmp a b)) :=
  con_of_one (t := [e_sound, e_Cmp_i]) (hints := h0) (all_cons o_sound (all_cons o_Cmp_i all_nil)) (by kernel_rfl) rfl 40 (by kernel_rfl)
def e_Cmp : Ent := ent2 N.fixed_Cmp cNum cNum fun a b => li (nCmp a b)
theorem o_Cmp : e_Cmp.ok N.P := ent2_ok c_Cmp
theorem c_rCmp (a b : Num) : Con N.P N.ref01_Cmp [a.av, b.av] (li (nCmp a b)) :=
  con_ty (c := cInt .i64) (t := [e_rWhole]) (hints := h0) (all_cons o_rWhole all_nil) (by kernel_rfl) rfl 40
    (.node (decide (sv a < sv b)) (.leaf (-1)) (.node (decide (sv a > sv b)) (.leaf 1) (.leaf 0))) (by kernel_rfl) fun _ => by
    refine ⟨fun h => ?_, fun h => ⟨fun h2 => ?_, fun h2 => ?_⟩⟩ <;> show _ = _ <;> unfold nCmp sCmp
    · rw [h]; rfl
    · rw [h, h2]; rfl
    · rw [h, h2]; rfl
def e_rCmp : Ent := ent2 N.ref01_Cmp cNum cNum fun a b => li (nCmp a b)
theorem o_rCmp : e_rCmp.ok N.P := ent2_ok c_rCmp
def nAbs (a : Num) : Num := ⟨if sv a < 0 then -(sv a) else sv a, sf a⟩
theorem c_Abs (a : Num) : Con N.P N.fixed_Abs [a.av] (nAbs a).av :=
  con_ty (c := cNum) (t := [e_sound, e_Neg]) (hints := h0) (all_cons o_sound (all_cons o_Neg all_nil)) (by kernel_rfl) rfl 40
    (.leaf ⟨if i64 (0 - sv a) > sv a then i64 (0 - sv a) else sv a, sf a⟩) (by kernel_rfl) fun hs => by
    have := sv_range ((hs _ List.mem_cons_self).cells _ List.mem_cons_self)
    show _ = _
    have e : i64 (0 - sv a) = -(sv a) := by simp only [i64, IntKind.wrap_i64]; omega
    unfold nAbs
    rw [e]
    by_cases h : sv a < 0
    · rw [if_pos h, if_pos (by omega)]
    · rw [if_neg h]
      by_cases h2 : -(sv a) > sv a
      · exact absurd h2 (by omega)
      · rw [if_neg h2]
def e_Abs : Ent := ent1 N.fixed_Abs cNum fun a => (nAbs a).av
theorem o_Abs : e_Abs.ok N.P := ent1_ok c_Abs
theorem c_rAbs (a : Num) : Con N.P N.ref01_Abs [a.av] (nAbs a).av :=
  con_ty (c := cNum) (t := [e_rWhole]) (hints := h0) (all_cons o_rWhole all_nil) (by kernel_rfl) rfl 40
    (.node (decide (sv a < 0)) (.leaf ⟨i64 (0 - sv a), sf a⟩) (.leaf ⟨sv a, sf a⟩)) (by kernel_rfl) fun hs => by
    have := sv_range ((hs _ List.mem_cons_self).cells _ List.mem_cons_self)
    have e : i64 (0 - sv a) = -(sv a) := by simp only [i64, IntKind.wrap_i64]; omega
    refine ⟨fun h => ?_, fun h => ?_⟩ <;> show _ = _ <;> unfold nAbs
    · rw [if_pos (of_decide_eq_true h), e]
    · rw [if_neg (of_decide_eq_false h)]
def e_rAbs : Ent := ent1 N.ref01_Abs cNum fun a => (nAbs a).av
theorem o_rAbs : e_rAbs.ok N.P := ent1_ok c_rAbs

/-! the greatest and the least: the list, the result's place, the number so far, the counter -/
def hMx : Hints := fun _ _ => some ([0, 2, 3, 5], 1)
def t_mx : List Ent := [e_rWhole, e_rFlagged]
theorem ok_mx : ∀ e ∈ t_mx, e.ok N.P := all_cons o_rWhole (all_cons o_rFlagged all_nil)
noncomputable abbrev Cmx : Ctx := ctxOf N.P t_mx hMx
def sMx (l : List Num) (m i : Int) : St := ⟨[(0, rNum.sl l), (2, .ptr 0 2 0 0), (3, li m), (5, li i)], [some ⟨.one [li 0, lb false], false⟩]⟩
theorem rmax_start (a : Num) (r : List Num) (F : Nat) : runF Cmx (F + 7) N.ref01_Max [rNum.sl (a :: r)] = .node (((a :: r).length : Int) == 0) (.leaf (.agg [.ki .i64 0, .kb false]))
    (.node (decide ((0 : Int) ≤ 0) && decide ((0 : Int) < ((a :: r).length : Int))) (loop1 Cmx N.ref01_Max (F + 1) (sMx (a :: r) (sv a) 1) (F + 7)) (.fail 1)) := by kernel_rfl
theorem rmax_step (a : Num) (r : List Num) (m i : Int) (F G : Nat) : loop1 Cmx N.ref01_Max (F + 40) (sMx (a :: r) m i) (G + 7) =
    .node (decide (i < ((a :: r).length : Int))) (.node (decide (0 ≤ i) && decide (i < ((a :: r).length : Int)))
      (.node (decide (sv ((a :: r).getD i.toNat rNum.d) > m)) (loop1 Cmx N.ref01_Max (F + 39) (sMx (a :: r) (sv ((a :: r).getD i.toNat rNum.d)) (i64 (i + 1))) (G + 7))
        (loop1 Cmx N.ref01_Max (F + 39) (sMx (a :: r) m (i64 (i + 1))) (G + 7))) (.fail 1))
      (gd (rNum.okl (a :: r)) (.leaf (.agg [li m, lb ((rNum.dl (a :: r)).any sf)]))) := by kernel_rfl
theorem rmin_start (a : Num) (r : List Num) (F : Nat) : runF Cmx (F + 7) N.ref01_Min [rNum.sl (a :: r)] = .node (((a :: r).length : Int) == 0) (.leaf (.agg [.ki .i64 0, .kb false]))
    (.node (decide ((0 : Int) ≤ 0) && decide ((0 : Int) < ((a :: r).length : Int))) (loop1 Cmx N.ref01_Min (F + 1) (sMx (a :: r) (sv a) 1) (F + 7)) (.fail 1)) := by kernel_rfl
theorem rmin_step (a : Num) (r : List Num) (m i : Int) (F G : Nat) : loop1 Cmx N.ref01_Min (F + 40) (sMx (a :: r) m i) (G + 7) =
    .node (decide (i < ((a :: r).length : Int))) (.node (decide (0 ≤ i) && decide (i < ((a :: r).length : Int)))
      (.node (decide (sv ((a :: r).getD i.toNat rNum.d) < m)) (loop1 Cmx N.ref01_Min (F + 39) (sMx (a :: r) (sv ((a :: r).getD i.toNat rNum.d)) (i64 (i + 1))) (G + 7))
        (loop1 Cmx N.ref01_Min (F + 39) (sMx (a :: r) m (i64 (i + 1))) (G + 7))) (.fail 1))
      (gd (rNum.okl (a :: r)) (.leaf (.agg [li m, lb ((rNum.dl (a :: r)).any sf)]))) := by kernel_rfl
theorem mx_nil : runF Cmx 30 N.ref01_Max [rNum.sl []] = .node ((([] : List Num).length : Int) == 0) (.leaf (.agg [.ki .i64 0, .kb false])) (runF Cmx 30 N.ref01_Max [rNum.sl []]).r := by kernel_rfl
theorem mn_nil : runF Cmx 30 N.ref01_Min [rNum.sl []] = .node ((([] : List Num).length : Int) == 0) (.leaf (.agg [.ki .i64 0, .kb false])) (runF Cmx 30 N.ref01_Min [rNum.sl []]).r := by kernel_rfl
theorem mx_getD (a : Num) (r : List Num) (k : Nat) : (a :: r).getD ((k : Int) + 1).toNat rNum.d = r.getD k rNum.d := by
  have : ((k : Int) + 1).toNat = k + 1 := by omega
  rw [this]; rfl
theorem mx_all (f : FuncId) (hf : callB N.P f = true) (g : Int → Int → Int) (c : Int → Int → Bool) (hg : ∀ m x, g m x = bif c x m then x else m) (a : Num) (r : List Num)
    (hstart : ∀ F, runF Cmx (F + 7) f [rNum.sl (a :: r)] = .node (((a :: r).length : Int) == 0) (.leaf (.agg [.ki .i64 0, .kb false]))
      (.node (decide ((0 : Int) ≤ 0) && decide ((0 : Int) < ((a :: r).length : Int))) (loop1 Cmx f (F + 1) (sMx (a :: r) (sv a) 1) (F + 7)) (.fail 1)))
    (hstep : ∀ m i F G, loop1 Cmx f (F + 40) (sMx (a :: r) m i) (G + 7) = .node (decide (i < ((a :: r).length : Int))) (.node (decide (0 ≤ i) && decide (i < ((a :: r).length : Int)))
      (.node (c (sv ((a :: r).getD i.toNat rNum.d)) m) (loop1 Cmx f (F + 39) (sMx (a :: r) (sv ((a :: r).getD i.toNat rNum.d)) (i64 (i + 1))) (G + 7))
        (loop1 Cmx f (F + 39) (sMx (a :: r) m (i64 (i + 1))) (G + 7))) (.fail 1))
      (gd (rNum.okl (a :: r)) (.leaf (.agg [li m, lb ((rNum.dl (a :: r)).any sf)])))) :
    Con N.P f [rNum.sl (a :: r)] (.agg [li (r.foldl (fun m x => g m (sv x)) (sv a)), lb ((a :: r).any sf)]) :=
  con_of_run (t := t_mx) (hints := hMx) ok_mx named mixed hf rfl fun hs => by
    have hl := (hs _ List.mem_cons_self).len
    have hl2 : ((a :: r).length : Int) = (r.length : Int) + 1 := by simp
    refine loop_all 7 r.length (fun i => sMx (a :: r) ((r.take i).foldl (fun m x => g m (sv x)) (sv a)) ((i : Int) + 1)) (fun _ => True) (fun F h => ?_) trivial (fun i F G h _ hn => ?_) (fun F G _ => ?_)
    · rw [hstart]
      refine ⟨fun h' => ?_, fun _ => ⟨fun _ => h, fun h' => ?_⟩⟩
      · exfalso; have := eq_of_beq h'; omega
      · exfalso; rw [hl2] at h'; simp only [Bool.and_eq_false_iff, decide_eq_false_iff_not] at h'; omega
    · have hn := hn trivial
      show (loop1 Cmx _ _ _ _).holds _
      rw [hstep, mx_getD]
      have e : (r.take (i + 1)).foldl (fun m x => g m (sv x)) (sv a) = g ((r.take i).foldl (fun m x => g m (sv x)) (sv a)) (sv (r.getD i rNum.d)) := by
        rw [take_getD rNum.d h, List.foldl_append]; rfl
      have e2 : i64 ((i : Int) + 1 + 1) = ((i + 1 : Nat) : Int) + 1 := by
        have : (a :: r).length ≤ maxLen := hl
        unfold maxLen at this
        simp at this
        simp only [i64, IntKind.wrap_i64]; omega
      rw [e2]
      rw [e, hg] at hn
      refine ⟨fun h' => ⟨fun _ => ⟨fun h3 => ?_, fun h3 => ?_⟩, fun h2 => ?_⟩, fun h' => ?_⟩
      · rw [h3] at hn; exact hn
      · rw [h3] at hn; exact hn
      · exfalso; rw [hl2] at h2; simp only [Bool.and_eq_false_iff, decide_eq_false_iff_not] at h2; omega
      · exfalso; rw [hl2] at h'; simp only [decide_eq_false_iff_not] at h'; omega
    · show (loop1 Cmx _ _ _ _).holds _
      rw [hstep, (dl_num _).1, (dl_num _).2, List.take_length]
      refine ⟨fun h' => ?_, fun h' => holds_gd rfl (Fits.refl _)⟩
      exfalso; rw [hl2] at h'; simp only [decide_eq_true_eq] at h'; omega
theorem c_rMax (l : List Num) (hl : l.length < 4096) : Con N.P N.ref01_Max [rNum.sl l] (nMax l).av := by
  cases l with
  | nil =>
    have h := con_treeN (t := t_mx) (m := []) (hints := hMx) (nils := nn) ok_mx mall_nil (f := N.ref01_Max) (by kernel_rfl) (args := [rNum.sl []]) (r := (nMax []).av) rfl 30 _ mx_nil fun _ =>
      ⟨fun _ => Fits.agg (.cons Fits.ki rfl rfl (.cons Fits.kb rfl rfl .nil)), fun h => by simp at h⟩
    exact h
  | cons a r => exact mx_all N.ref01_Max (by kernel_rfl) max (fun x m => decide (x > m)) (fun m x => by by_cases h : x > m <;> simp [h] <;> omega) a r (rmax_start a r) (fun m i F G => rmax_step a r m i F G)
theorem c_rMin (l : List Num) (hl : l.length < 4096) : Con N.P N.ref01_Min [rNum.sl l] (nMin l).av := by
  cases l with
  | nil =>
    have h := con_treeN (t := t_mx) (m := []) (hints := hMx) (nils := nn) ok_mx mall_nil (f := N.ref01_Min) (by kernel_rfl) (args := [rNum.sl []]) (r := (nMin []).av) rfl 30 _ mn_nil fun _ =>
      ⟨fun _ => Fits.agg (.cons Fits.ki rfl rfl (.cons Fits.kb rfl rfl .nil)), fun h => by simp at h⟩
    exact h
  | cons a r => exact mx_all N.ref01_Min (by kernel_rfl) min (fun x m => decide (x < m)) (fun m x => by by_cases h : x < m <;> simp [h] <;> omega) a r (rmin_start a r) (fun m i F G => rmin_step a r m i F G)
def e_rMax : Ent := entL N.ref01_Max rNum fun l => (nMax l).av
theorem o_rMax : e_rMax.ok N.P := entL_ok c_rMax
def e_rMin : Ent := entL N.ref01_Min rNum fun l => (nMin l).av
theorem o_rMin : e_rMin.ok N.P := entL_ok c_rMin
theorem c_rClamp (x a b : Num) : Con N.P N.ref01_Clamp [x.av, a.av, b.av] (nClamp x a b).av :=
  con_of_one (t := [e_rMax, e_rMin]) (hints := h0) (all_cons o_rMax (all_cons o_rMin all_nil)) (by kernel_rfl) rfl 30 (by kernel_rfl)
def e_rClamp : Ent := ent3 N.ref01_Clamp cNum cNum cNum fun x a b => (nClamp x a b).av
theorem o_rClamp : e_rClamp.ok N.P := ent3_ok c_rClamp
end Go.Flat
end

section
/- Contracts: vectors on both sides; speeds and hefts. -/
set_option linter.unusedSimpArgs false
set_option linter.unusedVariables false
namespace Go.Flat
open Go

def vDot (a b : Vec) : Num := nDot a.X b.X a.Y b.Y
def nSound1 (a : Num) : Num := nSum [a]
def vPerp (v : Vec) : Vec := ⟨nNeg v.Y, nSum [v.X]⟩
def vTurn (k : Num) (v : Vec) : Vec := vScale (vPerp v) k
theorem c_PDot (a b : Vec) : Con N.P N.plane_Dot [a.av, b.av] (vDot a b).av :=
  con_of_one (t := [e_Dot]) (hints := h0) (all_cons o_Dot all_nil) (by kernel_rfl) rfl 30 (by kernel_rfl)
def e_PDot : Ent := ent2 N.plane_Dot cVec cVec fun a b => (vDot a b).av
theorem o_PDot : e_PDot.ok N.P := ent2_ok c_PDot
theorem c_PPerp (a : Vec) : Con N.P N.plane_Perp [a.av] (vPerp a).av :=
  con_of_one (t := [e_Neg, e_SumN]) (hints := h0) (all_cons o_Neg (all_cons o_SumN all_nil)) (by kernel_rfl) rfl 30 (by kernel_rfl)
def e_PPerp : Ent := ent1 N.plane_Perp cVec fun a => (vPerp a).av
theorem o_PPerp : e_PPerp.ok N.P := ent1_ok c_PPerp
theorem c_PTurn (k : Num) (a : Vec) : Con N.P N.plane_Turn [k.av, a.av] (vTurn k a).av :=
  con_of_one (t := [e_PPerp, e_PScale]) (hints := h0) (all_cons o_PPerp (all_cons o_PScale all_nil)) (by kernel_rfl) rfl 30 (by kernel_rfl)
def e_PTurn : Ent := ent2 N.plane_Turn cNum cVec fun k a => (vTurn k a).av
theorem o_PTurn : e_PTurn.ok N.P := ent2_ok c_PTurn

theorem c_rVSub (a b : Vec) : Con N.P N.ref02_Sub [a.av, b.av] (vSub a b).av :=
  con_of_one (t := [e_rSub]) (hints := h0) (all_cons o_rSub all_nil) (by kernel_rfl) rfl 30 (by kernel_rfl)
def e_rVSub : Ent := ent2 N.ref02_Sub cVec cVec fun a b => (vSub a b).av
theorem o_rVSub : e_rVSub.ok N.P := ent2_ok c_rVSub
theorem c_rScale (a : Vec) (k : Num) : Con N.P N.ref02_Scale [a.av, k.av] (vScale a k).av :=
  con_of_one (t := [e_rMul]) (hints := h0) (all_cons o_rMul all_nil) (by kernel_rfl) rfl 30 (by kernel_rfl)
def e_rScale : Ent := ent2 N.ref02_Scale cVec cNum fun a k => (vScale a k).av
theorem o_rScale : e_rScale.ok N.P := ent2_ok c_rScale
theorem c_rVDot (a b : Vec) : Con N.P N.ref02_Dot [a.av, b.av] (vDot a b).av :=
  con_of_one (t := [e_rDot]) (hints := h0) (all_cons o_rDot all_nil) (by kernel_rfl) rfl 30 (by kernel_rfl)
def e_rVDot : Ent := ent2 N.ref02_Dot cVec cVec fun a b => (vDot a b).av
theorem o_rVDot : e_rVDot.ok N.P := ent2_ok c_rVDot
theorem c_rCross (a b : Vec) : Con N.P N.ref02_Cross [a.av, b.av] (vCross a b).av :=
  con_of_one (t := [e_rDot, e_rNeg]) (hints := h0) (all_cons o_rDot (all_cons o_rNeg all_nil)) (by kernel_rfl) rfl 30 (by kernel_rfl)
def e_rCross : Ent := ent2 N.ref02_Cross cVec cVec fun a b => (vCross a b).av
theorem o_rCross : e_rCross.ok N.P := ent2_ok c_rCross
theorem c_rPerp (a : Vec) : Con N.P N.ref02_Perp [a.av] (vPerp a).av :=
  con_of_one (t := [e_rNeg, e_rSum]) (hints := h0) (all_cons o_rNeg (all_cons o_rSum all_nil)) (by kernel_rfl) rfl 30 (by kernel_rfl)
def e_rPerp : Ent := ent1 N.ref02_Perp cVec fun a => (vPerp a).av
theorem o_rPerp : e_rPerp.ok N.P := ent1_ok c_rPerp
theorem c_rTurn (k : Num) (a : Vec) : Con N.P N.ref02_Turn [k.av, a.av] (vTurn k a).av :=
  con_of_one (t := [e_rPerp, e_rScale]) (hints := h0) (all_cons o_rPerp (all_cons o_rScale all_nil)) (by kernel_rfl) rfl 30 (by kernel_rfl)
def e_rTurn : Ent := ent2 N.ref02_Turn cNum cVec fun k a => (vTurn k a).av
theorem o_rTurn : e_rTurn.ok N.P := ent2_ok c_rTurn

/-! a body's arm, speed and heft -/
def bSpeed (b : Body) (x : Vec) : Vec := vAdd [b.V, vTurn b.W (bArm b x)]
def bHeft (b : Body) (x n : Vec) : Num := nAdd b.Wt.M (nMul b.Wt.I (nMul (vCross (bArm b x) n) (vCross (bArm b x) n)))
theorem c_rArm (b : Body) (x : Vec) : Con N.P N.ref05_arm [b.av, x.av] (bArm b x).av :=
  con_of_one (t := [e_rVSub]) (hints := h0) (all_cons o_rVSub all_nil) (by kernel_rfl) rfl 30 (by kernel_rfl)
def e_rArm : Ent := ent2 N.ref05_arm rBody.agg cVec fun b x => (bArm b x).av
theorem o_rArm : e_rArm.ok N.P := ent2_ok c_rArm
theorem c_rSpeed (b : Body) (x : Vec) : Con N.P N.ref05_Speed [b.av, x.av] (bSpeed b x).av :=
  con_ty (c := cVec) (t := [e_rArm, e_rTurn, e_rAdd]) (hints := h0) (all_cons o_rArm (all_cons o_rTurn (all_cons o_rAdd all_nil))) (by kernel_rfl) rfl 30 (gd (okS b.Shp.Pts) (.leaf (bSpeed b x))) (by kernel_rfl) fun _ => holds_gd (okS_true _) rfl
def e_rSpeed : Ent := ent2 N.ref05_Speed rBody.agg cVec fun b x => (bSpeed b x).av
theorem o_rSpeed : e_rSpeed.ok N.P := ent2_ok c_rSpeed
theorem c_rHeft (b : Body) (x n : Vec) : Con N.P N.ref05_Heft [b.av, x.av, n.av] (bHeft b x n).av :=
  con_ty (c := cNum) (t := [e_rArm, e_rCross, e_rMul, e_rAddN]) (hints := h0) (all_cons o_rArm (all_cons o_rCross (all_cons o_rMul (all_cons o_rAddN all_nil)))) (by kernel_rfl) rfl 30 (gd (okS b.Shp.Pts) (.leaf (bHeft b x n))) (by kernel_rfl) fun _ => holds_gd (okS_true _) rfl
def e_rHeft : Ent := ent3 N.ref05_Heft rBody.agg cVec cVec fun b x n => (bHeft b x n).av
theorem o_rHeft : e_rHeft.ok N.P := ent3_ok c_rHeft
theorem c_speed (b : Body) (x : Vec) : Con N.P N.solver_worked_speed [rBody.ptr.enc b, x.av] (bSpeed b x).av :=
  con_ty (c := cVec) (t := [e_arm, e_PTurn, e_PAdd]) (hints := h0) (all_cons o_arm (all_cons o_PTurn (all_cons o_PAdd all_nil))) (by kernel_rfl) rfl 30 (gd (okS b.Shp.Pts) (.leaf (bSpeed b x))) (by kernel_rfl) fun _ => holds_gd (okS_true _) rfl
def e_speed : Ent := ent2 N.solver_worked_speed rBody.ptr cVec fun b x => (bSpeed b x).av
theorem o_speed : e_speed.ok N.P := ent2_ok c_speed
theorem c_heft (b : Body) (x n : Vec) : Con N.P N.solver_worked_heft [rBody.ptr.enc b, x.av, n.av] (bHeft b x n).av :=
  con_ty (c := cNum) (t := [e_arm, e_PCross, e_Mul, e_Add]) (hints := h0) (all_cons o_arm (all_cons o_PCross (all_cons o_Mul (all_cons o_Add all_nil)))) (by kernel_rfl) rfl 30 (gd (okS b.Shp.Pts) (.leaf (bHeft b x n))) (by kernel_rfl) fun _ => holds_gd (okS_true _) rfl
def e_heft : Ent := ent3 N.solver_worked_heft rBody.ptr cVec cVec fun b x n => (bHeft b x n).av
theorem o_heft : e_heft.ok N.P := ent3_ok c_heft
end Go.Flat
end

section
/- Contracts: copies and impulses of the reference; what is within limits; what is idle. -/
set_option linter.unusedSimpArgs false
set_option linter.unusedVariables false
namespace Go.Flat
open Go

theorem c_rCopyShape (a : Shape) (ha : a.small = true) : Con N.P N.ref02_CopyShape [a.av] a.av :=
  con_treeN (t := []) (m := []) (hints := h0) (nils := nn) all_nil mall_nil (by kernel_rfl) rfl 30
    (gd (decide ((0 : Nat) = 0)) (gd (decide (0 + ((List.range a.Pts.len).map fun i => rSpot.cells (a.Pts.at' i)).length < 16777216)) (gd (Nat.ble (0 + ((List.range a.Pts.len).map fun i => rSpot.cells (a.Pts.at' i)).length) ([] ++ ((List.range a.Pts.len).map fun i => rSpot.cells (a.Pts.at' i))).length)
        (.leaf (.agg [li a.Kind, li a.R, li a.W, li a.H, .vsl false 2 (0 + ((List.range a.Pts.len).map fun i => rSpot.cells (a.Pts.at' i)).length) (fun i => ([] ++ ((List.range a.Pts.len).map fun i => rSpot.cells (a.Pts.at' i))).getD i [])]))))) (by kernel_rfl) fun _ => by
    have := smallN_lt ha
    rw [Nat.zero_add, List.nil_append]
    refine holds_gd rfl (holds_gd (by simp; omega) (holds_gd (Nat.ble_eq_true_of_le (Nat.le_refl _)) ?_))
    exact Fits.agg (.cons (Fits.refl _) rfl rfl (.cons (Fits.refl _) rfl rfl (.cons (Fits.refl _) rfl rfl (.cons (Fits.refl _) rfl rfl (.cons (fits_copy _) rfl rfl .nil)))))
def e_rCopyShape : Ent := entC N.ref02_CopyShape rShape.agg Shape.small Shape.av
theorem o_rCopyShape : e_rCopyShape.ok N.P := entC_ok c_rCopyShape
theorem c_rCopy (b : Body) (hb : b.small = true) : Con N.P N.ref05_Copy [b.av] b.av :=
  con_ty (c := rBody.agg) (t := [e_rCopyShape]) (hints := h0) (all_cons o_rCopyShape all_nil) (by kernel_rfl) rfl 30
    (gd b.small (gd (okS b.Shp.Pts) (gd (okS b.Shp.Pts) (.leaf b)))) (by kernel_rfl) fun _ => holds_gd hb (holds_gd (okS_true _) (holds_gd (okS_true _) rfl))
def e_rCopy : Ent := entC N.ref05_Copy rBody.agg Body.small Body.av
theorem o_rCopy : e_rCopy.ok N.P := entC_ok c_rCopy

theorem c_rLimit (a : Num) (n : Int) : Con N.P N.ref05_limit [a.av, li n] (nLimit a n).av :=
  con_ty (c := cNum) (t := [e_rClamp, e_rInt]) (hints := h0) (all_cons o_rClamp (all_cons o_rInt all_nil)) (by kernel_rfl) rfl 30 (.leaf (nLimit a n)) (by kernel_rfl) fun _ => rfl
def e_rLimit : Ent := ent2 N.ref05_limit cNum (cInt .i64) fun a n => (nLimit a n).av
theorem o_rLimit : e_rLimit.ok N.P := ent2_ok c_rLimit
theorem c_rLimited (a : Vec) : Con N.P N.ref05_limited [a.av] (vLimit a 256).av :=
  con_of_one (t := [e_rLimit]) (hints := h0) (all_cons o_rLimit all_nil) (by kernel_rfl) rfl 30 (by kernel_rfl)
def e_rLimited : Ent := ent1 N.ref05_limited cVec fun a => (vLimit a 256).av
theorem o_rLimited : e_rLimited.ok N.P := ent1_ok c_rLimited

theorem c_rRatio64 : Con N.P N.ref05_slop [] (nRatio 1 64).av :=
  con_of_one (t := [e_rRatio]) (hints := h0) (all_cons o_rRatio all_nil) (by kernel_rfl) rfl 30 (by kernel_rfl)
def e_slop : Ent := ent0 N.ref05_slop (nRatio 1 64).av
theorem o_slop : e_slop.ok N.P := ent0_ok c_rRatio64
theorem c_beta : Con N.P N.ref05_beta [] (nRatio 1 5).av :=
  con_of_one (t := [e_rRatio]) (hints := h0) (all_cons o_rRatio all_nil) (by kernel_rfl) rfl 30 (by kernel_rfl)
def e_beta : Ent := ent0 N.ref05_beta (nRatio 1 5).av
theorem o_beta : e_beta.ok N.P := ent0_ok c_beta
theorem c_rough : Con N.P N.ref05_rough [] (nRatio 1 2).av :=
  con_of_one (t := [e_rRatio]) (hints := h0) (all_cons o_rRatio all_nil) (by kernel_rfl) rfl 30 (by kernel_rfl)
def e_rough : Ent := ent0 N.ref05_rough (nRatio 1 2).av
theorem o_rough : e_rough.ok N.P := ent0_ok c_rough
theorem c_calm : Con N.P N.ref05_calm [] (nRatio 1 16).av :=
  con_of_one (t := [e_rRatio]) (hints := h0) (all_cons o_rRatio all_nil) (by kernel_rfl) rfl 30 (by kernel_rfl)
def e_calm : Ent := ent0 N.ref05_calm (nRatio 1 16).av
theorem o_calm : e_calm.ok N.P := ent0_ok c_calm

/-! what is idle -/
def idle (b : Body) : Bool := bif moves b then (bif b.Asleep then true else b.Fault) else true
theorem idle_tree (b : Body) : (gd (okS b.Shp.Pts) (.node (!moves b) (.leaf true) (.node b.Asleep (.leaf true) (.leaf b.Fault)))).holds (· = idle b) := by
  refine holds_gd (okS_true _) ⟨fun h => ?_, fun h => ⟨fun h2 => ?_, fun h2 => ?_⟩⟩ <;> show _ = _ <;> unfold idle
  · simp only [Bool.not_eq_true'] at h; rw [h]; rfl
  · simp only [Bool.not_eq_false'] at h; rw [h, h2]; rfl
  · simp only [Bool.not_eq_false'] at h; rw [h, h2]; rfl
theorem c_Idle (b : Body) : Con N.P N.solver_Idle [b.av] (lb (idle b)) :=
  con_ty (c := cBool) (t := [e_Moves]) (hints := h0) (all_cons o_Moves all_nil) (by kernel_rfl) rfl 30 _ (by kernel_rfl) fun _ => idle_tree b
def e_Idle : Ent := ent1 N.solver_Idle rBody.agg fun b => lb (idle b)
theorem o_Idle : e_Idle.ok N.P := ent1_ok c_Idle
theorem c_rIdle (b : Body) : Con N.P N.ref05_Idle [b.av] (lb (idle b)) :=
  con_ty (c := cBool) (t := [e_rMoves]) (hints := h0) (all_cons o_rMoves all_nil) (by kernel_rfl) rfl 30 _ (by kernel_rfl) fun _ => idle_tree b
def e_rIdle : Ent := ent1 N.ref05_Idle rBody.agg fun b => lb (idle b)
theorem o_rIdle : e_rIdle.ok N.P := ent1_ok c_rIdle

/-! the reference's impulse -/
def t_rpush : List Ent := [e_rCopy, e_rMoves, e_rScale, e_rAdd, e_rLimited, e_rArm, e_rCross, e_rMul, e_rAddN, e_rLimit]
theorem ok_rpush : ∀ e ∈ t_rpush, e.ok N.P := all_cons o_rCopy (all_cons o_rMoves (all_cons o_rScale (all_cons o_rAdd (all_cons o_rLimited (all_cons o_rArm (all_cons o_rCross (all_cons o_rMul (all_cons o_rAddN (all_cons o_rLimit all_nil)))))))))
theorem c_rPush (b : Body) (x j : Vec) (hb : b.small = true) : Con N.P N.ref05_Push [b.av, x.av, j.av] (sPush b x j).av :=
  con_ty (c := rBody.agg) (t := t_rpush) (hints := h0) ok_rpush (by kernel_rfl) rfl 30
    (gd b.small (gd (okS b.Shp.Pts) (gd (okS b.Shp.Pts) (.node (!moves b) (gd (okS b.Shp.Pts) (.leaf b)) (.node b.Fault (gd (okS b.Shp.Pts) (.leaf b)) (gd (okS b.Shp.Pts) (.node b.Asleep
      (gd (okS b.Shp.Pts) (.leaf { b with V := pushV b j, W := pushW b x j, Still := 0, Asleep := false }))
      (gd (okS b.Shp.Pts) (.leaf { b with V := pushV b j, W := pushW b x j }))))))))) (by kernel_rfl) fun _ => by
    rw [okS_true]
    refine holds_gd hb (holds_gd rfl (holds_gd rfl ⟨fun h => holds_gd rfl ?_, fun h => ⟨fun h1 => holds_gd rfl ?_, fun h1 => holds_gd rfl ⟨fun h2 => holds_gd rfl ?_, fun h2 => holds_gd rfl ?_⟩⟩⟩))
    · show _ = _
      unfold sPush; simp only [Bool.not_eq_true'] at h; rw [h]; rfl
    · show _ = _
      unfold sPush; simp only [Bool.not_eq_false'] at h; rw [h, h1]; rfl
    · show _ = _
      simp only [Bool.not_eq_false'] at h
      unfold sPush; rw [h, h1, h2]; rfl
    · show _ = _
      simp only [Bool.not_eq_false'] at h
      unfold sPush; rw [h, h1, h2]
      obtain ⟨s, p, v, w, wt, st, asl, fa, ver⟩ := b
      simp only at h2
      subst h2
      rfl
def e_rPush : Ent := entC3 N.ref05_Push rBody.agg cVec cVec (fun b _ _ => b.small) fun b x j => (sPush b x j).av
theorem o_rPush : e_rPush.ok N.P := entC3_ok c_rPush
end Go.Flat
end

section
/- Contracts: numbers within limits; contacts and their copies. -/
set_option linter.unusedSimpArgs false
set_option linter.unusedVariables false
namespace Go.Flat
open Go

/-! within limits -/
def wIn (n : Int) (x : Num) : Bool := !sf x && (decide (sv x ≤ n * 4294967296) && decide (-(n * 4294967296) ≤ sv x))
def lim (n : Int) : Bool := decide (0 ≤ n) && decide (n ≤ 100000)
def hWi : Hints := fun _ _ => some ([0, 7, 8, 9], 0)
noncomputable abbrev Cwi : Ctx := ctxOf N.P [e_SumN] hWi
def sWi (n : Int) (l : List Num) (i : Int) : St := ⟨[(0, li n), (7, rNum.sl l), (8, li l.length), (9, li i)], []⟩
theorem wi_start (n : Int) (l : List Num) (F : Nat) : runF Cwi (F + 5) N.solver_within [li n, rNum.sl l] = loop1 Cwi N.solver_within (F + 1) (sWi n l 0) (F + 5) := by kernel_rfl
theorem wi_step (n : Int) (l : List Num) (i F G : Nat) : loop1 Cwi N.solver_within (F + 40) (sWi n l i) (G + 5) =
    .node (decide ((i : Int) < (l.length : Int))) (gd (decide (0 ≤ (i : Int)) && decide ((i : Int) < (l.length : Int)))
      (.node (nSum [l.getD i rNum.d]).F (.leaf (.kb false)) (.node (decide ((if i64 (0 - (nSum [l.getD i rNum.d]).V) > (nSum [l.getD i rNum.d]).V then i64 (0 - (nSum [l.getD i rNum.d]).V) else (nSum [l.getD i rNum.d]).V) > i64 (n * 2 ^ 32)))
        (.leaf (.kb false)) (loop1 Cwi N.solver_within (F + 39) (sWi n l (i64 ((i : Int) + 1))) (G + 5))))) (.leaf (.kb true)) := by kernel_rfl
theorem sum_one {x : Num} (h : -9223372036854775807 ≤ sv x ∧ sv x ≤ 9223372036854775807) : nSum [x] = ⟨sv x, sf x⟩ := by
  unfold nSum nFit Top
  simp only [List.map_cons, List.map_nil, List.sum_cons, List.sum_nil, List.any_cons, List.any_nil, Bool.or_false]
  rw [if_neg (by omega), if_neg (by omega)]
  simp
theorem wIn_max {n : Int} {x : Num} (hn : lim n = true) (h : -9223372036854775807 ≤ sv x ∧ sv x ≤ 9223372036854775807) (hf : sf x = false) :
    wIn n x = !decide ((if i64 (0 - sv x) > sv x then i64 (0 - sv x) else sv x) > i64 (n * 2 ^ 32)) := by
  simp only [lim, Bool.and_eq_true, decide_eq_true_eq] at hn
  have e1 : i64 (n * 2 ^ 32) = n * 4294967296 := by simp only [i64, IntKind.wrap_i64]; omega
  have e2 : i64 (0 - sv x) = -(sv x) := by simp only [i64, IntKind.wrap_i64]; omega
  rw [e1, e2]
  unfold wIn
  rw [hf]
  by_cases h1 : sv x ≤ n * 4294967296 <;> by_cases h2 : -(n * 4294967296) ≤ sv x <;> by_cases h3 : -(sv x) > sv x <;> simp [h1, h2, h3] <;> omega
theorem c_within (n : Int) (l : List Num) (hn : lim n = true) : Con N.P N.solver_within [li n, rNum.sl l] (lb (allN l.length fun i => wIn n (l.getD i rNum.d))) :=
  con_of_run (t := [e_SumN]) (hints := hWi) (all_cons o_SumN all_nil) named mixed (by kernel_rfl) rfl fun hs => by
    have hm := (hs _ (List.mem_cons_of_mem _ List.mem_cons_self)).len
    have hx := sat_nums (hs _ (List.mem_cons_of_mem _ List.mem_cons_self))
    refine loop_allB (C := Cwi) 5 l.length (fun i => sWi n l i) _ (fun F Q h => ?_) (fun i F G Q h h1 h2 => ?_) (fun F G Q h => ?_)
    · rw [wi_start]; exact h
    · have hv := sv_bound _ (hx (l.getD i rNum.d) (by
        have : l.getD i rNum.d = l[i] := by simp [List.getD, h]
        rw [this]; exact List.getElem_mem h))
      rw [wi_step, next_i hm h, sum_one hv]
      refine holds_yes (lt_true h) (holds_gd (in_true h) ⟨fun h' => h1 ?_, fun h' => ⟨fun h3 => h1 ?_, fun h3 => h2 ?_⟩⟩)
      · have h' : sf (l.getD i rNum.d) = true := h'
        unfold wIn; rw [h']; rfl
      · rw [wIn_max hn hv h', h3]; rfl
      · rw [wIn_max hn hv h', h3]; rfl
    · rw [wi_step]; exact holds_no lt_no h
def e_within : Ent := entC2 N.solver_within (cInt .i64) rNum.list (fun n _ => lim n) fun n l => lb (allN l.length fun i => wIn n (l.getD i rNum.d))
theorem o_within : e_within.ok N.P := entC2_ok c_within
theorem c_rWithin (x : Num) (n : Int) (hn : lim n = true) : Con N.P N.ref05_within [x.av, li n] (lb (wIn n x)) :=
  con_ty (c := cBool) (t := [e_rOf]) (hints := h0) (all_cons o_rOf all_nil) (by kernel_rfl) rfl 30
    (.node (nSound ⟨x.V, false⟩).F (.leaf false) (.node (!x.F) (.node (decide (x.V ≤ i64 (n * 4294967296))) (.leaf (decide (x.V ≥ i64 (i64 (0 - n) * 4294967296)))) (.leaf false)) (.leaf false))) (by kernel_rfl) fun _ => by
    simp only [lim, Bool.and_eq_true, decide_eq_true_eq] at hn
    have e1 : i64 (n * 4294967296) = n * 4294967296 := by simp only [i64, IntKind.wrap_i64]; omega
    have e2 : i64 (i64 (0 - n) * 4294967296) = -(n * 4294967296) := by simp only [i64, IntKind.wrap_i64]; omega
    rw [e1, e2]
    by_cases hm : x.V = -9223372036854775808
    · have k1 : (nSound ⟨x.V, false⟩).F = true := by unfold nSound; rw [hm]; rfl
      have k2 : sf x = true := by unfold sf nSound; rw [hm]; rfl
      refine holds_yes k1 ?_
      show _ = _
      unfold wIn; rw [k2]; rfl
    · have k1 : (nSound ⟨x.V, false⟩).F = false := by unfold nSound; simp [hm]
      have k2 : nSound x = x := by unfold nSound; simp [hm]
      refine holds_no k1 ?_
      unfold wIn sv sf
      rw [k2]
      refine ⟨fun h => ⟨fun h2 => ?_, fun h2 => ?_⟩, fun h => ?_⟩ <;> show _ = _ <;> rw [h]
      · rw [h2]; rfl
      · rw [h2]; rfl
      · rfl
def e_rWithin : Ent := entC2 N.ref05_within cNum (cInt .i64) (fun _ n => lim n) fun x n => lb (wIn n x)
theorem o_rWithin : e_rWithin.ok N.P := entC2_ok c_rWithin
def vIn (n : Int) (v : Vec) : Bool := wIn n v.X && wIn n v.Y
theorem c_rBoth (v : Vec) (n : Int) (hn : lim n = true) : Con N.P N.ref05_both [v.av, li n] (lb (vIn n v)) :=
  con_ty (c := cBool) (t := [e_rWithin]) (hints := h0) (all_cons o_rWithin all_nil) (by kernel_rfl) rfl 30
    (gd (lim n) (.node (wIn n v.X) (gd (lim n) (.leaf (wIn n v.Y))) (.leaf false))) (by kernel_rfl) fun _ => by
    refine holds_gd hn ⟨fun h => holds_gd hn ?_, fun h => ?_⟩ <;> show _ = _ <;> unfold vIn <;> rw [h] <;> rfl
def e_rBoth : Ent := entC2 N.ref05_both cVec (cInt .i64) (fun _ n => lim n) fun v n => lb (vIn n v)
theorem o_rBoth : e_rBoth.ok N.P := entC2_ok c_rBoth

/-! contacts -/
def Contact.small (c : Contact) : Bool := smallN c.M.L.len
theorem touch_fits (s : Sl Touch) {b : Bool} : Fits (.vsl b 6 ((List.range s.len).map fun i => rTouch.cells (s.at' i)).length (fun i => ((List.range s.len).map fun i => rTouch.cells (s.at' i)).getD i [])) (rTouch.encS s) := by
  rw [List.length_map, List.length_range]
  exact fits_sl rTouch (fun _ => rfl) s rfl
def ownLeaf (c : Contact) : AV := .agg [li c.A, li c.B, li c.M.N.X.V, lb c.M.N.X.F, li c.M.N.Y.V, lb c.M.N.Y.F,
  .vsl false 6 ((List.range c.M.L.len).map fun i => rTouch.cells (c.M.L.at' i)).length (fun i => ((List.range c.M.L.len).map fun i => rTouch.cells (c.M.L.at' i)).getD i []),
  li c.P0.V, lb c.P0.F, li c.P1.V, lb c.P1.F, li c.R0.V, lb c.R0.F, li c.R1.V, lb c.R1.F]
theorem ownLeaf_fits (c : Contact) : Fits (ownLeaf c) c.av := by
  have r : ∀ x : AV, Fits x x := fun x => Fits.refl x
  exact Fits.agg (.cons (r _) rfl rfl (.cons (r _) rfl rfl (.cons (r _) rfl rfl (.cons (r _) rfl rfl (.cons (r _) rfl rfl (.cons (r _) rfl rfl (.cons (touch_fits _) rfl rfl (FitsL.refl_of rfl))))))))
theorem c_own (c : Contact) (hc : c.small = true) : Con N.P N.solver_own [c.av] c.av :=
  con_treeN (t := []) (m := []) (hints := h0) (nils := nn) all_nil mall_nil (by kernel_rfl) rfl 30
    (gd (decide (((List.range c.M.L.len).map fun i => rTouch.cells (c.M.L.at' i)).length < 16777216)) (gd (Nat.ble ((List.range c.M.L.len).map fun i => rTouch.cells (c.M.L.at' i)).length ((List.range c.M.L.len).map fun i => rTouch.cells (c.M.L.at' i)).length)
      (.leaf (ownLeaf c)))) (by kernel_rfl) fun _ => by
    have := smallN_lt hc
    exact holds_gd (by simp; omega) (holds_gd (Nat.ble_eq_true_of_le (Nat.le_refl _)) (ownLeaf_fits c))
def e_own : Ent := entC N.solver_own rContact.agg Contact.small Contact.av
theorem o_own : e_own.ok N.P := entC_ok c_own
theorem c_rContact (c : Contact) (hc : c.small = true) : Con N.P N.ref05_contact [c.av] c.av :=
  con_treeN (t := []) (m := []) (hints := h0) (nils := nn) all_nil mall_nil (by kernel_rfl) rfl 30
    (gd (decide (((List.range c.M.L.len).map fun i => rTouch.cells (c.M.L.at' i)).length < 16777216)) (gd (Nat.ble ((List.range c.M.L.len).map fun i => rTouch.cells (c.M.L.at' i)).length ((List.range c.M.L.len).map fun i => rTouch.cells (c.M.L.at' i)).length)
      (.leaf (ownLeaf c)))) (by kernel_rfl) fun _ => by
    have := smallN_lt hc
    exact holds_gd (by simp; omega) (holds_gd (Nat.ble_eq_true_of_le (Nat.le_refl _)) (ownLeaf_fits c))
def e_rContact : Ent := entC N.ref05_contact rContact.agg Contact.small Contact.av
theorem o_rContact : e_rContact.ok N.P := entC_ok c_rContact
end Go.Flat
end

section
/- Contracts: copies and equality of contacts; the reference's copies of bodies; moving a body to a place. -/
set_option linter.unusedSimpArgs false
set_option linter.unusedVariables false
namespace Go.Flat
open Go

/-! a copy of a contact by the kit -/
def zc0 : List AV := [li 0, li 0, li 0, lb false, li 0, lb false, .nsl, li 0, lb false, li 0, lb false, li 0, lb false, li 0, lb false]
def hOc : Hints := fun _ _ => some ([1, 2, 3, 4], 999)
noncomputable abbrev Coc : Ctx := ctxN N.P [] [] hOc fun _ _ => [(3, N.t_Touch, 6)]
def sOc (c : Contact) (i : Nat) (j : Int) (r1 : List (List AV)) : St := ⟨[(1, .ptr 0 15 0 0), (2, .ptr 1 15 0 0), (3, .lsl false 2 N.t_Touch 6 i), (4, li j)], [some ⟨.one (rContact.cells c), false⟩, some ⟨.one zc0, false⟩, some ⟨.many N.t_Touch 6 true r1, false⟩]⟩
theorem oc_start (c : Contact) (F : Nat) : runF Coc (F + 6) N.kit_OwnContact [c.av] = loop1 Coc N.kit_OwnContact (F + 1) (sOc c 0 0 []) (F + 6) := by kernel_rfl
def ocLeaf (c : Contact) (i : Nat) (r1 : List (List AV)) : AV := .agg [li c.A, li c.B, li c.M.N.X.V, lb c.M.N.X.F, li c.M.N.Y.V, lb c.M.N.Y.F,
  .vsl false 6 i (fun r => r1.getD r []), li c.P0.V, lb c.P0.F, li c.P1.V, lb c.P1.F, li c.R0.V, lb c.R0.F, li c.R1.V, lb c.R1.F]
theorem oc_step (c : Contact) (i j : Nat) (r1 : List (List AV)) (F G : Nat) : loop1 Coc N.kit_OwnContact (F + 40) (sOc c i j r1) (G + 6) =
    .node (decide ((j : Int) < (c.M.L.len : Int))) (gd (decide (0 ≤ (j : Int)) && decide ((j : Int) < (c.M.L.len : Int))) (gd (decide (r1.length = i)) (gd (decide (i + 1 < 16777216))
      (loop1 Coc N.kit_OwnContact (F + 39) (sOc c (i + 1) (i64 ((j : Int) + 1)) (r1 ++ [rTouch.cells (c.M.L.at' j)])) (G + 6)))))
      (gd (Nat.ble i r1.length) (.leaf (ocLeaf c i r1))) := by kernel_rfl
theorem c_OwnContact (c : Contact) (hc : c.small = true) : Con N.P N.kit_OwnContact [c.av] c.av :=
  con_of_runN (t := []) (m := []) (hints := hOc) (nils := fun _ _ => [(3, N.t_Touch, 6)]) all_nil mall_nil named mixed (by kernel_rfl) rfl fun hs => by
    have hl := smallN_lt hc
    have hm : c.M.L.len ≤ maxLen := by simp only [maxLen]; omega
    refine loop_all (C := Coc) 6 c.M.L.len (fun i => sOc c i i (c.M.L.rows rTouch i)) (fun _ => True) (fun F h => by rw [oc_start]; exact h) trivial (fun i F G h hI hn => ?_) (fun F G hI => ?_)
    · have hn := hn trivial
      simp only [Sl.rows_succ] at hn
      rw [oc_step, next_i hm h]
      exact holds_yes (lt_true h) (holds_gd (in_true h) (holds_gd (by simp [Sl.rows_len]) (holds_gd (by simp; omega) hn)))
    · rw [oc_step, Sl.rows_len]
      refine holds_no lt_no (holds_gd (Nat.ble_eq_true_of_le (Nat.le_refl _)) ?_)
      have r : ∀ x : AV, Fits x x := fun x => Fits.refl x
      exact Fits.agg (.cons (r _) rfl rfl (.cons (r _) rfl rfl (.cons (r _) rfl rfl (.cons (r _) rfl rfl (.cons (r _) rfl rfl (.cons (r _) rfl rfl (.cons (fits_sl rTouch (fun _ => rfl) c.M.L rfl) rfl rfl (FitsL.refl_of rfl))))))))
def e_OwnContact : Ent := entC N.kit_OwnContact rContact.agg Contact.small Contact.av
theorem o_OwnContact : e_OwnContact.ok N.P := entC_ok c_OwnContact

/-! equality -/
def touchEq (a b : Touch) : Bool := vecEq a.At b.At && (numEq a.Depth b.Depth && true)
def touchesEq (a b : Sl Touch) : Bool := allN a.len fun i => touchEq (a.at' i) (b.at' i)
def maniEq (a b : Mani) : Bool := vecEq a.N b.N && (bif (a.L.len : Int) != b.L.len then false else touchesEq a.L b.L)
def hSm : Hints := fun _ _ => some ([2, 3, 5], 999)
noncomputable abbrev Csm : Ctx := ctxN N.P [] [] hSm nn
def sSm (a b : Mani) (i : Int) : St := ⟨[(2, .ptr 0 5 0 0), (3, .ptr 1 5 0 0), (5, li i)], [some ⟨.one (rMani.cells a), false⟩, some ⟨.one (rMani.cells b), false⟩]⟩
theorem sm_start (a b : Mani) (F : Nat) : runF Csm (F + 6) N.kit_SameManifold [a.av, b.av] = .node (!vecEq a.N b.N) (.leaf (.kb false)) (.node ((a.L.len : Int) != b.L.len) (.leaf (.kb false)) (loop1 Csm N.kit_SameManifold (F + 1) (sSm a b 0) (F + 6))) := by kernel_rfl
theorem sm_step (a b : Mani) (i F G : Nat) : loop1 Csm N.kit_SameManifold (F + 40) (sSm a b i) (G + 6) =
    .node (decide ((i : Int) < (a.L.len : Int))) (gd (decide (0 ≤ (i : Int)) && decide ((i : Int) < (a.L.len : Int))) (gd (decide (0 ≤ (i : Int)) && decide ((i : Int) < (b.L.len : Int)))
      (.node (!touchEq (a.L.at' i) (b.L.at' i)) (.leaf (.kb false)) (loop1 Csm N.kit_SameManifold (F + 39) (sSm a b (i64 ((i : Int) + 1))) (G + 6))))) (.leaf (.kb true)) := by kernel_rfl
theorem c_SameManifold (a b : Mani) : Con N.P N.kit_SameManifold [a.av, b.av] (lb (maniEq a b)) :=
  con_of_runN (t := []) (m := []) (hints := hSm) (nils := nn) all_nil mall_nil named mixed (by kernel_rfl) rfl fun hs => by
    have hm : a.L.len ≤ maxLen := by
      have h1 := hs _ List.mem_cons_self
      exact (h1.cells (rTouch.encS a.L) (by simp [Mani.av, Row.agg, rMani, Row.iso, Row.prod, rSl, Row.cSl, Cdc.row])).len
    by_cases hv : vecEq a.N b.N = true
    · by_cases hlen : a.L.len = b.L.len
      · have e0 : maniEq a b = allN a.L.len fun i => touchEq (a.L.at' i) (b.L.at' i) := by unfold maniEq touchesEq; rw [hv, hlen]; simp
        rw [e0]
        refine loop_allB (C := Csm) 6 a.L.len (fun i => sSm a b i) _ (fun F Q h => ?_) (fun i F G Q h h1 h2 => ?_) (fun F G Q h => ?_)
        · rw [sm_start]; exact holds_no (by rw [hv]; rfl) (holds_no (ne_eq (by rw [hlen])) h)
        · rw [sm_step, next_i hm h]
          refine holds_yes (lt_true h) (holds_gd (in_true h) (holds_gd (in_true (by omega)) ⟨fun h' => h1 ?_, fun h' => h2 ?_⟩))
          · simpa only [Bool.not_eq_true'] using h'
          · simpa only [Bool.not_eq_false'] using h'
        · rw [sm_step]; exact holds_no lt_no h
      · refine ⟨6, ?_⟩
        show (runF Csm _ _ _).holds _
        rw [sm_start (F := 0)]
        have hne : ((a.L.len : Int) != b.L.len) = true := by simp; omega
        refine holds_no (by rw [hv]; rfl) (holds_yes hne ?_)
        unfold maniEq; rw [hne, hv]; exact Fits.kb
    · refine ⟨6, ?_⟩
      show (runF Csm _ _ _).holds _
      rw [sm_start (F := 0)]
      have hv' : vecEq a.N b.N = false := by simpa using hv
      refine holds_yes (by rw [hv']; rfl) ?_
      unfold maniEq; rw [hv']; exact Fits.kb
def e_SameManifold : Ent := ent2 N.kit_SameManifold rMani.agg rMani.agg fun a b => lb (maniEq a b)
theorem o_SameManifold : e_SameManifold.ok N.P := ent2_ok c_SameManifold

/-! the reference's copies of bodies -/
def hRb : Hints := fun _ _ => some ([0, 3, 4], 999)
noncomputable abbrev Crb : Ctx := ctxN N.P [e_rCopy] [] hRb fun _ _ => [(3, N.t_Body, 27)]
theorem rb_start (a : Sl Body) (F : Nat) : runF Crb (F + 6) N.ref05_bodies [rBody.encS a] = loop1 Crb N.ref05_bodies (F + 1) (sObs a 0 0 []) (F + 6) := by kernel_rfl
theorem rb_step (a : Sl Body) (i j : Nat) (r1 : List (List AV)) (F G : Nat) : loop1 Crb N.ref05_bodies (F + 40) (sObs a i j r1) (G + 6) =
    .node (decide ((j : Int) < (a.len : Int))) (gd (decide (0 ≤ (j : Int)) && decide ((j : Int) < (a.len : Int))) (gd (a.at' j).small (gd (okS (a.at' j).Shp.Pts) (gd (decide (r1.length = i)) (gd (decide (i + 1 < 16777216))
      (loop1 Crb N.ref05_bodies (F + 39) (sObs a (i + 1) (i64 ((j : Int) + 1)) (r1 ++ [rBody.cells (a.at' j)])) (G + 6)))))))
      (gd (Nat.ble i r1.length) (.leaf (.vsl false 27 i (fun r => r1.getD r [])))) := by kernel_rfl
theorem c_rBodies (a : Sl Body) (ha : smallAll a = true) : Con N.P N.ref05_bodies [rBody.encS a] (rBody.encS a) :=
  con_of_runN (t := [e_rCopy]) (m := []) (hints := hRb) (nils := fun _ _ => [(3, N.t_Body, 27)]) (all_cons o_rCopy all_nil) mall_nil named mixed (by kernel_rfl) rfl fun hs => by
    simp only [smallAll, Bool.and_eq_true] at ha
    have hl := smallN_lt ha.1
    have hm : a.len ≤ maxLen := by simp only [maxLen]; omega
    refine loop_all (C := Crb) 6 a.len (fun i => sObs a i i (a.rows rBody i)) (fun _ => True) (fun F h => by rw [rb_start]; exact h) trivial (fun i F G h hI hn => ?_) (fun F G hI => ?_)
    · have hn := hn trivial
      simp only [Sl.rows_succ] at hn
      rw [rb_step, next_i hm h]
      exact holds_yes (lt_true h) (holds_gd (in_true h) (holds_gd (allN_iff.1 ha.2 i h) (holds_gd (okS_true _) (holds_gd (by simp [Sl.rows_len]) (holds_gd (by simp; omega) hn)))))
    · rw [rb_step, Sl.rows_len]
      exact holds_no lt_no (holds_gd (Nat.ble_eq_true_of_le (Nat.le_refl _)) (fits_sl rBody (fun _ => rfl) a rfl))
def e_rBodies : Ent := entC N.ref05_bodies rBody.cSl smallAll fun a => rBody.encS a
theorem o_rBodies : e_rBodies.ok N.P := entC_ok c_rBodies
def apartB (n a b : Int) : Bool := decide (a ≥ 0) && (decide (a < n) && (decide (b ≥ 0) && (decide (b < n) && a != b)))
theorem c_rApart (n a b : Int) : Con N.P N.ref05_apart [li n, li a, li b] (lb (apartB n a b)) :=
  con_ty (c := cBool) (t := []) (hints := h0) all_nil (by kernel_rfl) rfl 30
    (andT (decide (a ≥ 0)) (andT (decide (a < n)) (andT (decide (b ≥ 0)) (andT (decide (b < n)) (.leaf (a != b)))))) (by kernel_rfl) fun _ => by
    unfold apartB andT
    refine ⟨fun h => ⟨fun h2 => ⟨fun h3 => ⟨fun h4 => ?_, fun h4 => ?_⟩, fun h3 => ?_⟩, fun h2 => ?_⟩, fun h => ?_⟩ <;> show _ = _
    · rw [h, h2, h3, h4]; rfl
    · rw [h, h2, h3, h4]; rfl
    · rw [h, h2, h3]; rfl
    · rw [h, h2]; rfl
    · rw [h]; rfl
def e_rApart : Ent := ent3 N.ref05_apart (cInt .i64) (cInt .i64) (cInt .i64) fun n a b => lb (apartB n a b)
theorem o_rApart : e_rApart.ok N.P := ent3_ok c_rApart

/-! a body at another place -/
def sShift (b : Body) (x : Vec) : Body := bif idle b then b else bif vIn 4096 x then { b with Pos := { b.Pos with At := x } } else b
theorem shift_tree (b : Body) (x : Vec) : (gd (okS b.Shp.Pts) (.node (!idle b) (gd (lim 4096) (.node (vIn 4096 x) (gd (okS b.Shp.Pts) (.leaf { b with Pos := { b.Pos with At := x } })) (gd (okS b.Shp.Pts) (.leaf b)))) (gd (okS b.Shp.Pts) (.leaf b)))).holds (· = sShift b x) := by
  rw [okS_true]
  refine holds_gd rfl ⟨fun h => holds_gd (by decide) ⟨fun h2 => holds_gd rfl ?_, fun h2 => holds_gd rfl ?_⟩, fun h => holds_gd rfl ?_⟩ <;> show _ = _ <;> unfold sShift
  · simp only [Bool.not_eq_true'] at h; rw [h, h2]; rfl
  · simp only [Bool.not_eq_true'] at h; rw [h, h2]; rfl
  · simp only [Bool.not_eq_false'] at h; rw [h]; rfl
theorem c_rMoved (b : Body) (x : Vec) : Con N.P N.ref05_moved [b.av, x.av] (sShift b x).av :=
  con_ty (c := rBody.agg) (t := [e_rIdle, e_rBoth]) (hints := h0) (all_cons o_rIdle (all_cons o_rBoth all_nil)) (by kernel_rfl) rfl 30 _ (by kernel_rfl) fun _ => shift_tree b x
def e_rMoved : Ent := ent2 N.ref05_moved rBody.agg cVec fun b x => (sShift b x).av
theorem o_rMoved : e_rMoved.ok N.P := ent2_ok c_rMoved
theorem allN_two (f : Nat → Bool) : allN 2 f = (f 0 && f 1) := by
  have h : (allN 2 f = true) ↔ ((f 0 && f 1) = true) := by
    rw [allN_iff, Bool.and_eq_true]
    exact ⟨fun h => ⟨h 0 (by omega), h 1 (by omega)⟩, fun h i hi => by
      rcases i with _ | _ | i
      · exact h.1
      · exact h.2
      · omega⟩
  cases h1 : allN 2 f <;> cases h2 : (f 0 && f 1) <;> simp_all
noncomputable abbrev Cshift : Ctx := ctxN N.P [e_Idle, e_within] [] h0 nn
theorem shift_run (b : Body) (x : Vec) : runP Cshift 30 N.solver_worked_shift 27 rBody b [x.av] =
    (gd (okS b.Shp.Pts) (.node (!idle b) (gd (lim 4096) (.node (allN 2 fun i => wIn 4096 ([x.X, x.Y].getD i rNum.d)) (gd (okS b.Shp.Pts) (.leaf { b with Pos := { b.Pos with At := x } })) (gd (okS b.Shp.Pts) (.leaf b)))) (gd (okS b.Shp.Pts) (.leaf b)))) := by kernel_rfl
def dVc : Dec Vec := Dec.one cVec vec_arg
def m_shift : Ment := mentP N.solver_worked_shift 27 rBody dVc sShift
theorem k_shift (b : Body) (x : Vec) : MutOk N.P N.solver_worked_shift [.ptr 0 27 0 0, x.av] [some ⟨.one (rBody.cells b), false⟩] (.tup []) [some ⟨.one (rBody.cells (sShift b x)), false⟩] := by
  refine mut_of_runP (P := N.P) (f := N.solver_worked_shift) (esz := 27) (r := rBody) (x := b) (y := sShift b x) (args := [x.av]) (t := [e_Idle, e_within]) (m := []) (hints := h0) (nils := nn) (all_cons o_Idle (all_cons o_within all_nil)) mall_nil named mixed 30 ?_
  show (runP Cshift 30 N.solver_worked_shift 27 rBody b [x.av]).holds _
  rw [shift_run, allN_two]
  exact shift_tree b x
theorem mo_shift : m_shift.ok N.P := by
  have hc : Callable N.P N.solver_worked_shift := callB_ok (by kernel_rfl)
  have key : ∀ (b : Body) (p : Vec), MutOk N.P N.solver_worked_shift (.ptr 0 27 0 0 :: dVc.enc p) [some ⟨.one (rBody.cells b), false⟩] (.tup []) [some ⟨.one (rBody.cells (sShift b p)), false⟩] := fun b p => k_shift b p
  exact mentP_ok (f := N.solver_worked_shift) (esz := 27) (r := rBody) (D := dVc) (spec := sShift) body_cells hc key
end Go.Flat
end

section
/- Contracts of calls that read and write what they reach, out of runs of the evaluator. -/
set_option linter.unusedSimpArgs false
set_option linter.unusedVariables false
namespace Go.Flat
open Go

/-- a call over a memory; 'K' makes the result -/
def runG (C : Ctx) (n : Nat) (f : FuncId) (args : List AV) (mem : Mem) (K : Mem → List AV → Tree (AV × Mem)) : Tree (AV × Mem) :=
  match C.P.funcs[f]? with
  | some fn => (match fn.body with
    | some body => exec C n ⟨f, fn.ntmps, mem.length⟩ body ⟨bindArgs 0 args, mem⟩ fun e s' => match e with
      | .exit _ => .fail 9
      | _ => (match resAll C s'.env s'.mem fn.results.toList with
        | some vs => K s'.mem vs
        | none => .fail 8)
    | none => .fail 10)
  | none => .fail 11
/-- the result is what stands in the memory -/
def kM (k : Nat) (m : Mem) (vs : List AV) : Tree (AV × Mem) := .leaf (results1 vs, cutBack k (results1 vs) m)
/-- the result is read off the memory: what was made stays as it is from there on -/
def kV (k : Nat) (m : Mem) (vs : List AV) : Tree (AV × Mem) := match viewAll m vs with
  | some (vs', tb, g) => guards g (.leaf (results1 vs', cutBack k (.tup []) (applyU m (freeze m tb))))
  | none => .fail 14
def runV (C : Ctx) (n : Nat) (f : FuncId) (args : List AV) (mem : Mem) : Tree (AV × Mem) := runG C n f args mem (kV mem.length)
theorem runM_eq (C : Ctx) (n : Nat) (f : FuncId) (args : List AV) (mem : Mem) : runM C n f args mem = runG C n f args mem (kM mem.length) := rfl

section
variable {C : Ctx}
/-- what the making of a result must keep -/
def KOk (k : Nat) (K : Mem → List AV → Tree (AV × Mem)) (Q : AV × Mem → Prop) (r : AV) (mem' : Mem) : Prop :=
  ∀ (rf : Ref) (R : Nat → Prop) (ρ : Loc) (w : World) (m : Mem) (avs : List AV) (v : Value), MS rf R ρ m w → rf.base ≤ k → k ≤ m.length → VR R ρ w (results1 avs) v → (K m avs).holds Q →
    ∃ R' ρ', MS rf R' ρ' mem' w ∧ (∀ x, R x → R' x) ∧ (∀ b, b < k → ρ' b = ρ b) ∧ VR R' ρ' w r v
theorem mut_of_runG (hC : OrcOk C) (hMu : MutsOk C) (hN : Named C.P) (hM : C.P.follows .mixedOrders = true) (n : Nat) (f : FuncId) (args : List AV) (mem : Mem) (K : Mem → List AV → Tree (AV × Mem)) (Q : AV × Mem → Prop) (r : AV) (mem' : Mem)
    (hK : KOk mem.length K Q r mem') (hq : (runG C n f args mem K).holds Q) : Callable C.P f ∧ MutOk C.P f args mem r mem' := by
  unfold runG at hq
  cases hf : C.P.funcs[f]? with
  | none => simp [hf, Tree.holds] at hq
  | some fn =>
    cases hbd : fn.body with
    | none => simp [hf, hbd, Tree.holds] at hq
    | some body =>
      simp only [hf, hbd] at hq
      refine ⟨⟨fn, hf, hN f fn hf, by simp [hbd]⟩, fun rf R ρ w vs hm hl hv => calls_of_wp hf hbd ?_⟩
      have hsr0 := SR.enter (hm.start) hl hv fn.ntmps
      have fin : ∀ (R' : Nat → Prop) (ρ' : Loc) (s' : St) (a' : Act) (w' : World), SR ⟨w, ρ, R, rf.Old, mem.length⟩ R' ρ' (look s'.env) s'.mem a' w' fn.ntmps →
          (match resAll C s'.env s'.mem fn.results.toList with
            | some vs => K s'.mem vs
            | none => .fail 8).holds Q →
          a'.defers = [] ∧ ∃ v, (results fn a'.tmps).run C.P w' = .ok v w' ∧ ∃ v0 R'' ρ'', Ending.returned v = .returned v0 ∧ MS rf R'' ρ'' mem' w' ∧ PostB R ρ w R'' ρ'' w' mem.length ∧ VR R'' ρ'' w' r v0 := by
        intro R' ρ' s' a' w' h1 h2
        cases hra : resAll C s'.env s'.mem fn.results.toList with
        | none => simp [hra, Tree.holds] at h2
        | some avs =>
          simp only [hra] at h2
          obtain ⟨v, e1, e2⟩ := results_run h1 hra
          obtain ⟨R'', ρ'', k1, k2, k3, k4⟩ := hK rf R' ρ' w' s'.mem avs v (hm.back h1.ms) hm.base h1.ms.base e2 h2
          exact ⟨h1.df, v, e1, v, R'', ρ'', rfl, k1, ⟨fun x hx => k2 x (h1.ms.R0 x hx), h1.ms.R0k, h1.ms.szk, fun b hb => (k3 b hb).trans (h1.ms.ρ0 b hb)⟩, k4⟩
      refine wp_mono (exec_sound hC hMu hN hM n ⟨f, fn.ntmps, mem.length⟩ body ⟨bindArgs 0 args, mem⟩ _ ⟨w, ρ, R, rf.Old, mem.length⟩ R ρ _ w rfl hsr0 hq) fun e a' w' hkq => ?_
      cases e with
      | normal => obtain ⟨R', ρ', s', h1, h2⟩ := hkq; exact fin R' ρ' s' a' w' h1 h2
      | ret => obtain ⟨R', ρ', s', h1, h2⟩ := hkq; exact fin R' ρ' s' a' w' h1 h2
      | exit id => obtain ⟨R', ρ', s', h1, h2⟩ := hkq; exact h2.elim
      | goto l => exact hkq.elim
      | panic c => exact hkq.elim
      | outgrown => exact hkq.elim
theorem MS.cutB {rf : Ref} {R : Nat → Prop} {ρ : Loc} {w : World} {m : Mem} (hm : MS rf R ρ m w) {k : Nat} (hb : rf.base ≤ k) (hk : k ≤ m.length) (a : AV) :
    ∃ ρ', MS rf R ρ' (cutBack k a m) w ∧ (∀ b, b < k → ρ' b = ρ b) ∧ ∀ v, VR R ρ w a v → VR R ρ' w a v := by
  unfold cutBack
  cases hcb : (locsBelow k a && (m.take k).all (slotBelow k)) with
  | false => exact ⟨ρ, hm, fun _ _ => rfl, fun v h => h⟩
  | true =>
    simp only [cond_true]
    simp only [Bool.and_eq_true] at hcb
    exact ⟨upTo k ρ, hm.cut hb hk hcb.2, fun b hb => by simp [upTo, hb], fun v h => h.cut hcb.1⟩
theorem kM_ok (k : Nat) (r : AV) (mem' : Mem) : KOk k (kM k) (· = (r, mem')) r mem' := fun rf R ρ w m avs v hm hb hk hv h => by
  have h : (results1 avs, cutBack k (results1 avs) m) = (r, mem') := h
  injection h with h1 h2
  subst h1 h2
  obtain ⟨ρ', k1, k2, k3⟩ := hm.cutB hb hk (results1 avs)
  exact ⟨R, ρ', k1, fun _ h => h, k2, k3 v hv⟩
theorem kV_ok (k : Nat) (r : AV) (mem' : Mem) : KOk k (kV k) (· = (r, mem')) r mem' := fun rf R ρ w m avs v hm hb hk hv h => by
  unfold kV at h
  cases hvw : viewAll m avs with
  | none => simp [hvw, Tree.holds] at h
  | some p =>
    obtain ⟨vs', tb, gv⟩ := p
    simp only [hvw] at h
    obtain ⟨hg, h⟩ := guards_holds h
    have h : (results1 vs', cutBack k (.tup []) (applyU m (freeze m tb))) = (r, mem') := h
    injection h with h1 h2
    subst h1 h2
    obtain ⟨e2, e5⟩ := viewRes_VR hm hv hvw hg
    have hf := MS.freeze hm tb m R hm (fun b hb s hs => ⟨s, hs, rfl⟩) e5
    obtain ⟨ρ', k1, k2, _⟩ := hf.cutB hb (by rw [applyU_length]; exact hk) (.tup [])
    exact ⟨_, ρ', k1, fun _ h => .inl h, k2, e2.mono (fun _ h => h) (fun _ _ => rfl) (.refl w) (fun _ _ h => by cases h)⟩

/-- a tree that comes to one leaf, and what must hold -/
def leafOf {α : Type} : Tree α → Option (α × List Bool)
  | .leaf x => some (x, [])
  | .node c t (.fail _) => (match leafOf t with | some (x, g) => some (x, c :: g) | none => none)
  | _ => none
theorem leafOf_holds {α : Type} : ∀ {t : Tree α} {x : α} {g : List Bool}, leafOf t = some (x, g) → (∀ c ∈ g, c = true) → t.holds (· = x)
  | .leaf y, x, g, h, _ => by simp [leafOf] at h; exact h.1
  | .fail n, x, g, h, _ => by simp [leafOf] at h
  | .node c t (.fail n), x, g, h, hg => by
    simp only [leafOf] at h
    cases h1 : leafOf t with
    | none => simp [h1] at h
    | some q =>
      obtain ⟨y, g'⟩ := q
      simp [h1] at h
      obtain ⟨rfl, rfl⟩ := h
      exact ⟨fun _ => leafOf_holds h1 (fun c hc => hg c (List.mem_cons_of_mem _ hc)), fun h2 => by
        have := hg c List.mem_cons_self
        rw [h2] at this; cases this⟩
  | .node c t (.leaf y), x, g, h, _ => by simp [leafOf] at h
  | .node c t (.node _ _ _), x, g, h, _ => by simp [leafOf] at h
def outOf (k : Nat) (t : Tree (AV × Mem)) : Option (AV × Mem × List Bool) := match leafOf t with
  | some ((r, m), g) => bif Nat.ble k m.length then some (r, m, g) else none
  | none => none
/-- the contract of a call is its run -/
def mentR (C : Ctx) (n : Nat) (f : FuncId) : Ment := ⟨f, fun args mem => outOf mem.length (runM C n f args mem)⟩
def mentV (C : Ctx) (n : Nat) (f : FuncId) : Ment := ⟨f, fun args mem => outOf mem.length (runV C n f args mem)⟩
theorem outOf_some {k : Nat} {t : Tree (AV × Mem)} {r : AV} {m : Mem} {g : List Bool} (h : outOf k t = some (r, m, g)) (hg : ∀ c ∈ g, c = true) : t.holds (· = (r, m)) ∧ k ≤ m.length := by
  unfold outOf at h
  cases h1 : leafOf t with
  | none => simp [h1] at h
  | some q =>
    obtain ⟨⟨r', m'⟩, g'⟩ := q
    simp only [h1] at h
    cases h2 : Nat.ble k m'.length with
    | false => simp [h2] at h
    | true =>
      simp only [h2, cond_true, Option.some.injEq, Prod.mk.injEq] at h
      obtain ⟨rfl, rfl, rfl⟩ := h
      exact ⟨leafOf_holds h1 hg, Nat.le_of_ble_eq_true h2⟩
theorem mentR_ok (hC : OrcOk C) (hMu : MutsOk C) (hN : Named C.P) (hM : C.P.follows .mixedOrders = true) (n : Nat) (f : FuncId) : (mentR C n f).ok C.P := fun args mem r mem' cs h hg => by
  obtain ⟨h1, h2⟩ := outOf_some (show outOf mem.length (runM C n f args mem) = _ from h) hg
  rw [runM_eq] at h1
  obtain ⟨k1, k2⟩ := mut_of_runG hC hMu hN hM n f args mem (kM mem.length) _ r mem' (kM_ok _ r mem') h1
  exact ⟨k1, k2, h2⟩
theorem mentV_ok (hC : OrcOk C) (hMu : MutsOk C) (hN : Named C.P) (hM : C.P.follows .mixedOrders = true) (n : Nat) (f : FuncId) : (mentV C n f).ok C.P := fun args mem r mem' cs h hg => by
  obtain ⟨h1, h2⟩ := outOf_some (show outOf mem.length (runV C n f args mem) = _ from h) hg
  obtain ⟨k1, k2⟩ := mut_of_runG hC hMu hN hM n f args mem (kV mem.length) _ r mem' (kV_ok _ r mem') h1
  exact ⟨k1, k2, h2⟩
end

/-! contexts with such contracts -/
def wlOf : List Ment → FuncId → Option (List AV → Mem → Option (AV × Mem × List Bool))
  | [], _ => none
  | e :: t, f => bif Nat.beq e.f f then some e.run else wlOf t f
theorem wlOf_some : ∀ {l : List Ment} {f : FuncId} {run}, wlOf l f = some run → ∃ e ∈ l, e.f = f ∧ e.run = run
  | [], f, run, h => by simp [wlOf] at h
  | e :: t, f, run, h => by
    unfold wlOf at h
    cases hq : Nat.beq e.f f with
    | true => simp [hq] at h; exact ⟨e, List.mem_cons_self, Nat.eq_of_beq_eq_true hq, h⟩
    | false =>
      simp only [hq, cond_false] at h
      obtain ⟨e', h1, h2⟩ := wlOf_some h
      exact ⟨e', List.mem_cons_of_mem _ h1, h2⟩
structure Rent where
  f : FuncId
  run : List AV → List Nat × (List (Option Slot) → Option (AV × List Bool))
def rdOf : List Rent → FuncId → Option (List AV → List Nat × (List (Option Slot) → Option (AV × List Bool)))
  | [], _ => none
  | e :: t, f => bif Nat.beq e.f f then some e.run else rdOf t f
theorem rdOf_some : ∀ {l : List Rent} {f : FuncId} {run}, rdOf l f = some run → ∃ e ∈ l, e.f = f ∧ e.run = run
  | [], f, run, h => by simp [rdOf] at h
  | e :: t, f, run, h => by
    unfold rdOf at h
    cases hq : Nat.beq e.f f with
    | true => simp [hq] at h; exact ⟨e, List.mem_cons_self, Nat.eq_of_beq_eq_true hq, h⟩
    | false =>
      simp only [hq, cond_false] at h
      obtain ⟨e', h1, h2⟩ := rdOf_some h
      exact ⟨e', List.mem_cons_of_mem _ h1, h2⟩
def ctxL (P : Program) (t : List Ent) (m l : List Ment) (rs : List Rent) (hints : Hints) (nils : FuncId → Nat → List (Nat × Nat × Nat)) : Ctx := { P, orc := orcOf t, isOrc := isOf t, hints, wr := mutOf m, nils, wl := wlOf l, rd := rdOf rs }
theorem ctxL_ok {P : Program} {t : List Ent} {m l : List Ment} {rs : List Rent} {hints : Hints} {nils : FuncId → Nat → List (Nat × Nat × Nat)} (ht : ∀ e ∈ t, e.ok P) (hl : ∀ e ∈ l, e.ok P) (hr : ∀ e ∈ rs, ReadOk P e.f e.run) : OrcOk (ctxL P t m l rs hints nils) :=
  ⟨fun f args r g _ h1 h2 => orcOf_ok ht f args r g h1 h2, fun g run h args mem r mem' cs h1 h2 => (by
    obtain ⟨e, he, rfl, rfl⟩ := wlOf_some h
    obtain ⟨k1, k2, _⟩ := hl e he args mem r mem' cs h1 h2
    exact ⟨k1, k2⟩), fun g run h => (by
    obtain ⟨e, he, rfl, rfl⟩ := rdOf_some h
    exact hr e he), fun _ _ _ _ _ h => absurd rfl h⟩
theorem ctxL_muts {P : Program} {t : List Ent} {m l : List Ment} {rs : List Rent} {hints : Hints} {nils : FuncId → Nat → List (Nat × Nat × Nat)} (hm : ∀ e ∈ m, e.ok P) : MutsOk (ctxL P t m l rs hints nils) :=
  fun g args mem r mem' cs h1 h2 => mutOf_ok hm g args mem r mem' cs h1 h2
theorem rall_nil {P : Program} : ∀ e ∈ ([] : List Rent), ReadOk P e.f e.run := fun e he => by cases he
theorem rall_cons {P : Program} {e : Rent} {t : List Rent} (h : ReadOk P e.f e.run) (ht : ∀ e ∈ t, ReadOk P e.f e.run) : ∀ x ∈ e :: t, ReadOk P x.f x.run := fun x hx => by
  rcases List.mem_cons.1 hx with rfl | hx
  · exact h
  · exact ht x hx
end Go.Flat
end

section
/- The same call over a greater memory, of which the small one knows some blocks by their places alone. -/
set_option linter.unusedSimpArgs false
set_option linter.unusedVariables false
namespace Go.Flat
open Go
section
variable {P : Program}

theorem MutOk.frame3 {f : FuncId} {args0 args : List AV} {mem0 mem0' mem mem' : Mem} {r : AV} (h : MutOk P f args0 mem0 r mem0') (σ : Nat → Nat) (hr : locsBelow 0 r = true) (hl0 : mem0'.length = mem0.length)
    (hinj : ∀ i j s s', getSlot mem0 i = some s → getSlot mem0 j = some s' → σ i = σ j → i = j)
    (hpre : ∀ i s0, getSlot mem0 i = some s0 → ∃ s, getSlot mem (σ i) = some s ∧ s0.frozen = s.frozen ∧ BFits s.blk (renBlk σ s0.blk) ∧ slotBelow mem0.length (some s0) = true)
    (hargl : args0.length = args.length) (harg : ∀ (i : Nat) (a a0 : AV), args[i]? = some a → args0[i]? = some a0 → Fits a (renL σ a0) ∧ okArg mem0.length a0 = true)
    (hpost : ∀ b s', getSlot mem' b = some s' → (∃ i s0 s1, b = σ i ∧ getSlot mem0 i = some s0 ∧ getSlot mem0' i = some s1 ∧ s' = renSlot σ s1 ∧ slotBelow mem0.length (some s1) = true) ∨
      ((∀ i s0, getSlot mem0 i = some s0 → b ≠ σ i) ∧ getSlot mem b = some s'))
    (hlen : mem'.length = mem.length) : MutOk P f args mem r mem' := by
  intro rf R ρ w vs hm hl hv
  have hρ0 : ∀ i, i < mem0.length → downTo mem0.length σ ρ i = ρ (σ i) := fun i hi => by simp [downTo, hi]
  have hρ1 : ∀ i x, downTo mem0.length σ ρ i = some x → i < mem0.length ∧ ρ (σ i) = some x := fun i x hi => by
    unfold downTo at hi
    split at hi
    · rename_i h1; exact ⟨h1, hi⟩
    · cases hi
  have hm0 : MS ⟨w, downTo mem0.length σ ρ, R, fun x => x < w.heap.size ∧ ∀ i s0, getSlot mem0 i = some s0 → ρ (σ i) ≠ some x, mem0.length⟩ R (downTo mem0.length σ ρ) mem0 w :=
    { blk := fun i s0 hs0 => by
        have hi := getSlot_lt hs0
        obtain ⟨s, h1, h3, h4, h5⟩ := hpre i s0 hs0
        rw [hρ0 i hi]
        rcases hm.blk _ s h1 with ⟨x, k1, k2⟩ | ⟨k1, k2⟩
        · exact .inl ⟨x, k1, (h4.br k2).unren h5⟩
        · exact .inr ⟨k1, renBlk_empty.1 (h4.empty k2)⟩
      dom := fun i x hi => (hρ1 i x hi).1
      inj := fun i j x s s' hs hs' h1 h2 => by
        obtain ⟨s1, c1, _⟩ := hpre i s hs
        obtain ⟨s2, c2, _⟩ := hpre j s' hs'
        exact hinj i j s s' hs hs' (hm.inj _ _ x s1 s2 c1 c2 (hρ1 i x h1).2 (hρ1 j x h2).2)
      lt := fun i x hi => hm.lt _ x (hρ1 i x hi).2
      nold := fun i x s hs hi ho => ho.2 i s hs (hρ1 i x hi).2
      oldk := fun x _ => rfl
      oldlt := fun x hx => hx.1
      nR := fun i x s0 hs0 hf hi => by
        obtain ⟨s, h1, h3, _⟩ := hpre i s0 hs0
        exact hm.nR _ x s h1 (by rw [← h3]; exact hf) (hρ1 i x hi).2
      Rlt := hm.Rlt
      R0 := fun x hx => hx
      Rn := fun x hx => .inl hx
      R0k := fun x _ => rfl
      ρ0 := fun b _ => rfl
      szk := .refl w
      size := Nat.le_refl _
      base := Nat.le_refl _ }
  refine (h _ R _ w vs hm0 (by rw [hl, hargl]) (fun i a0 hi => ?_)).mono fun e w' h' => ?_
  · have hlt : i < args.length := by rw [← hargl]; exact (List.getElem?_eq_some_iff.1 hi).1
    obtain ⟨k1, k2⟩ := harg i args[i] a0 (by simp [hlt]) hi
    exact (k1 _ _ _ _ (hv i args[i] (by simp [hlt]))).unrenArg k2
  · obtain ⟨v, R', ρ0', e1, m1, p1, v1⟩ := h'
    have hback : ∀ b x, b < mem0.length → ρ0' b = some x → ρ (σ b) = some x := fun b x hb hx => by
      rw [p1.hρ b hb, hρ0 b hb] at hx
      exact hx
    have hold : ∀ x, rf.Old x → x < w.heap.size ∧ ∀ i s0, getSlot mem0 i = some s0 → ρ (σ i) ≠ some x := fun x hx => ⟨hm.oldlt x hx, fun i s0 hi hc => by
      obtain ⟨s, h1, _⟩ := hpre i s0 hi
      exact hm.nold _ x s h1 hc hx⟩
    refine ⟨v, R', ρ, e1, ?_, ⟨p1.hR, p1.hk, p1.hs, fun _ _ => rfl⟩, (v1.cut hr).mono (fun _ h => h) (fun _ _ => rfl) (.refl _) (fun b x hb => by simp [upTo] at hb)⟩
    have away : ∀ b s x, getSlot mem b = some s → ρ b = some x → (∀ i s0, getSlot mem0 i = some s0 → b ≠ σ i) → (x < w.heap.size ∧ ∀ i s0, getSlot mem0 i = some s0 → ρ (σ i) ≠ some x) := fun b s x hs hx hb => ⟨hm.lt b x hx, fun i s0 hi hc => by
      obtain ⟨s1, h1, _⟩ := hpre i s0 hi
      exact hb i s0 hi (hm.inj b (σ i) x s s1 hs h1 hx hc)⟩
    have pre_slot : ∀ b s', getSlot mem' b = some s' → ∃ s, getSlot mem b = some s := fun b s' hs' => by
      rcases hpost b s' hs' with ⟨i, s0, s1, rfl, h0, _⟩ | ⟨_, h2⟩
      · obtain ⟨s, h1, _⟩ := hpre i s0 h0
        exact ⟨s, h1⟩
      · exact ⟨s', h2⟩
    exact
      { blk := fun b s' hs' => by
          rcases hpost b s' hs' with ⟨i, s0, s1, rfl, h0, h1, rfl, h3⟩ | ⟨hb, h2⟩
          · have hi := getSlot_lt h0
            rcases m1.blk i s1 h1 with ⟨x, k1, k2⟩ | ⟨k1, k2⟩
            · exact .inl ⟨x, hback i x hi k1, k2.reren h3 hback⟩
            · refine .inr ⟨?_, renBlk_empty.2 k2⟩
              have := p1.hρ i hi
              rw [hρ0 i hi] at this
              rw [← this]; exact k1
          · rcases hm.blk b s' h2 with ⟨x, k1, k2⟩ | ⟨k1, k2⟩
            · exact .inl ⟨x, k1, k2.mono (m1.oldk x (away b s' x h2 k1 hb)) p1.hR p1.hk p1.hs (fun _ _ h => h)⟩
            · exact .inr ⟨k1, k2⟩
        dom := fun b x hb => by rw [hlen]; exact hm.dom b x hb
        inj := fun b b' x s s' hs hs' => by
          obtain ⟨s1, h1⟩ := pre_slot b s hs
          obtain ⟨s2, h2⟩ := pre_slot b' s' hs'
          exact hm.inj b b' x s1 s2 h1 h2
        lt := fun b x hb => Nat.lt_of_lt_of_le (hm.lt b x hb) m1.size
        nold := fun b x s hs => by
          obtain ⟨s1, h1⟩ := pre_slot b s hs
          exact hm.nold b x s1 h1
        oldk := fun x hx => (m1.oldk x (hold x hx)).trans (hm.oldk x hx)
        oldlt := fun x hx => Nat.lt_of_lt_of_le (hm.oldlt x hx) m1.size
        nR := fun b x s' hs' hf hx => by
          rcases hpost b s' hs' with ⟨i, s0, s1, rfl, h0, h1, rfl, h3⟩ | ⟨hb, h2⟩
          · have hi := getSlot_lt h0
            refine m1.nR i x s1 h1 hf ?_
            rw [p1.hρ i hi, hρ0 i hi]
            exact hx
          · intro hR
            rcases m1.Rn x hR with h3 | h3
            · exact hm.nR b x s' h2 hf hx h3
            · exact h3 (away b s' x h2 hx hb)
        Rlt := m1.Rlt
        R0 := fun x hx => p1.hR x (hm.R0 x hx)
        Rn := fun x hx => by
          rcases m1.Rn x hx with h3 | h3
          · exact hm.Rn x h3
          · exact .inr fun ho => h3 (hold x ho)
        R0k := fun x hx => (p1.hk x (hm.R0 x hx)).trans (hm.R0k x hx)
        ρ0 := hm.ρ0
        szk := hm.szk.trans p1.hs
        size := Nat.le_trans hm.size m1.size
        base := by rw [hlen]; exact hm.base }
theorem mut_of_leaf {t : List Ent} {m : List Ment} {hints : Hints} {nils : FuncId → Nat → List (Nat × Nat × Nat)} (ht : ∀ e ∈ t, e.ok P) (hm : ∀ e ∈ m, e.ok P) (hN : Named P) (hM : P.follows .mixedOrders = true)
    (n : Nat) (f : FuncId) (args : List AV) (mem : Mem) (r : AV) (mem' : Mem) (h : runM (ctxN P t m hints nils) n f args mem = .leaf (r, mem')) : Callable P f ∧ MutOk P f args mem r mem' :=
  mut_of_runG (C := ctxN P t m hints nils) ⟨fun f args r g _ h1 h2 => orcOf_ok ht f args r g h1 h2, fun _ _ h => (by cases h), fun _ _ h => (by cases h), fun _ _ _ _ _ h => absurd rfl h⟩ (fun g args mem r mem' cs h1 h2 => mutOf_ok hm g args mem r mem' cs h1 h2) hN hM n f
    args mem (kM mem.length) (· = (r, mem')) r mem' (kM_ok _ _ _) (by rw [← runM_eq, h]; exact rfl)
/-- a run over a memory with local calls -/
theorem mut_of_treeL {t : List Ent} {m l : List Ment} {rs : List Rent} {hints : Hints} {nils : FuncId → Nat → List (Nat × Nat × Nat)} (ht : ∀ e ∈ t, e.ok P) (hm : ∀ e ∈ m, e.ok P) (hl : ∀ e ∈ l, e.ok P) (hr : ∀ e ∈ rs, ReadOk P e.f e.run)
    (hN : Named P) (hM : P.follows .mixedOrders = true) (n : Nat) (f : FuncId) (args : List AV) (mem : Mem) (r : AV) (mem' : Mem) (tr : Tree (AV × Mem))
    (h : runM (ctxL P t m l rs hints nils) n f args mem = tr) (h2 : tr.holds (· = (r, mem'))) : Callable P f ∧ MutOk P f args mem r mem' :=
  mut_of_runG (C := ctxL P t m l rs hints nils) (ctxL_ok ht hl hr) (ctxL_muts hm) hN hM n f
    args mem (kM mem.length) (· = (r, mem')) r mem' (kM_ok _ _ _) (by rw [← runM_eq, h]; exact h2)
/-- the result is what stands in the memory, which is cut back: a condition -/
def kC (k : Nat) (m : Mem) (vs : List AV) : Tree (AV × Mem) := .node (locsBelow k (results1 vs) && (m.take k).all (slotBelow k)) (.leaf (results1 vs, m.take k)) (.fail 9)
def runC (C : Ctx) (n : Nat) (f : FuncId) (args : List AV) (mem : Mem) : Tree (AV × Mem) := runG C n f args mem (kC mem.length)
theorem kC_ok (k : Nat) (r : AV) (mem' : Mem) : KOk k (kC k) (· = (r, mem')) r mem' := fun rf R ρ w m avs v hm hb hk hv h => by
  obtain ⟨h1, h2⟩ := h
  cases hc : (locsBelow k (results1 avs) && (m.take k).all (slotBelow k)) with
  | false => exact (h2 hc).elim
  | true =>
    have h3 : (results1 avs, m.take k) = (r, mem') := h1 hc
    injection h3 with e1 e2
    subst e1 e2
    simp only [Bool.and_eq_true] at hc
    exact ⟨R, upTo k ρ, hm.cut hb hk hc.2, fun _ h => h, fun b hb => by simp [upTo, hb], hv.cut hc.1⟩
theorem mut_of_treeC {t : List Ent} {m l : List Ment} {rs : List Rent} {hints : Hints} {nils : FuncId → Nat → List (Nat × Nat × Nat)} (ht : ∀ e ∈ t, e.ok P) (hm : ∀ e ∈ m, e.ok P) (hl : ∀ e ∈ l, e.ok P) (hr : ∀ e ∈ rs, ReadOk P e.f e.run)
    (hN : Named P) (hM : P.follows .mixedOrders = true) (n : Nat) (f : FuncId) (args : List AV) (mem : Mem) (r : AV) (mem' : Mem) (tr : Tree (AV × Mem))
    (h : runC (ctxL P t m l rs hints nils) n f args mem = tr) (h2 : tr.holds (· = (r, mem'))) : Callable P f ∧ MutOk P f args mem r mem' :=
  mut_of_runG (C := ctxL P t m l rs hints nils) (ctxL_ok ht hl hr) (ctxL_muts hm) hN hM n f
    args mem (kC mem.length) (· = (r, mem')) r mem' (kC_ok _ _ _) (by
      have e : runG (ctxL P t m l rs hints nils) n f args mem (kC mem.length) = tr := h
      rw [e]; exact h2)
theorem con_treeLG {t : List Ent} {m l : List Ment} {rs : List Rent} {hints : Hints} {nils : FuncId → Nat → List (Nat × Nat × Nat)} (ht : ∀ e ∈ t, e.ok P) (hm : ∀ e ∈ m, e.ok P) (hl : ∀ e ∈ l, e.ok P) (hrs : ∀ e ∈ rs, ReadOk P e.f e.run)
    (hN : Named P) (hM : P.follows .mixedOrders = true) {f : FuncId} (hc : callB P f = true) {args : List AV} {r : AV} (hr : locsBelow 0 r = true) (n : Nat) (tr : Tree AV)
    (h : runF (ctxL P t m l rs hints nils) n f args = tr) (h2 : (∀ a ∈ args, Sat a) → tr.holds fun x => Fits x r) : Con P f args r :=
  .inl ⟨callB_ok hc, PureOk.ranged fun hs => (pure_of_run (C := ctxL P t m l rs hints nils) (ctxL_ok ht hl hrs) (ctxL_muts hm) hN hM n f args r hr (by rw [h]; exact h2 hs)).2⟩
theorem holds_guards {α : Type} {Q : α → Prop} : ∀ {cs : List Bool} {t : Tree α}, (∀ c ∈ cs, c = true) → t.holds Q → (guards cs t).holds Q
  | [], t, _, h => h
  | c :: cs, t, hc, h => by
    have h1 := hc c List.mem_cons_self
    subst h1
    exact ⟨fun _ => holds_guards (fun c h => hc c (List.mem_cons_of_mem _ h)) h, fun h => by cases h⟩
end
end Go.Flat
end

section
/- Contracts of calls that work on tables of bodies. -/
set_option linter.unusedSimpArgs false
set_option linter.unusedVariables false
namespace Go.Flat
open Go

/-! a table: pointers to bodies -/
def ptrsT (i : Nat) : Nat → List (List AV)
  | 0 => []
  | n + 1 => [.ptr i 27 0 0] :: ptrsT (i + 1) n
def memB (l : List Body) : Mem := l.map fun b => some ⟨.one (rBody.cells b), false⟩
def memT (l : List Body) : Mem := some ⟨.many N.t_pworked 1 false (ptrsT 1 l.length), false⟩ :: memB l
def tblA (n : Nat) : AV := .lsl true 0 N.t_pworked 1 n
def isPtrs : Nat → List (List AV) → Bool
  | _, [] => true
  | i, [.ptr b e 0 0] :: r => Nat.beq b i && (Nat.beq e 27 && isPtrs (i + 1) r)
  | _, _ => false
theorem isPtrs_eq : ∀ {rows : List (List AV)} {i : Nat}, isPtrs i rows = true → rows = ptrsT i rows.length
  | [], i, _ => rfl
  | [.ptr b e 0 0] :: r, i, h => by
    simp only [isPtrs, Bool.and_eq_true] at h
    have h1 := Nat.eq_of_beq_eq_true h.1
    have h2 := Nat.eq_of_beq_eq_true h.2.1
    subst h1 h2
    show _ = _ :: ptrsT _ _
    rw [← isPtrs_eq h.2.2]
  | [] :: r, i, h => by simp [isPtrs] at h
  | (a :: b :: c) :: r, i, h => by cases a <;> simp [isPtrs] at h
  | [.ptr b e (k + 1) o] :: r, i, h => by simp [isPtrs] at h
  | [.ptr b e 0 (o + 1)] :: r, i, h => by simp [isPtrs] at h
  | [.lit v] :: r, i, h => by simp [isPtrs] at h
  | [.kb v] :: r, i, h => by simp [isPtrs] at h
  | [.ki k v] :: r, i, h => by simp [isPtrs] at h
  | [.nsl] :: r, i, h => by simp [isPtrs] at h
  | [.vsl a b c d] :: r, i, h => by simp [isPtrs] at h
  | [.vptr a] :: r, i, h => by simp [isPtrs] at h
  | [.lsl a b c d e] :: r, i, h => by simp [isPtrs] at h
  | [.clo a b] :: r, i, h => by simp [isPtrs] at h
  | [.iface a b] :: r, i, h => by simp [isPtrs] at h
  | [.agg a] :: r, i, h => by simp [isPtrs] at h
  | [.tup a] :: r, i, h => by simp [isPtrs] at h
  | [.undef] :: r, i, h => by simp [isPtrs] at h
def decB : Mem → Option (List Body × List Bool)
  | [] => some ([], [])
  | some ⟨.one cs, false⟩ :: r => (match rBody.dec cs with
    | some (x, g) => (match decB r with
      | some (l, h) => some (x :: l, g ++ h)
      | none => none)
    | none => none)
  | _ => none
theorem decB_ok : ∀ {m : Mem} {l : List Body} {g : List Bool}, decB m = some (l, g) → (∀ c ∈ g, c = true) → l.length = m.length ∧ ∀ (i : Nat) (s' : Slot), (memB l)[i]? = some (some s') → ∃ s : Slot, m[i]? = some (some s) ∧ s'.frozen = s.frozen ∧ BFits s.blk s'.blk
  | [], l, g, h, _ => by simp [decB] at h; obtain ⟨rfl, rfl⟩ := h; exact ⟨rfl, fun i s' h => by simp [memB] at h⟩
  | some ⟨.one cs, false⟩ :: m, l, g, h, hg => by
    simp only [decB] at h
    cases h1 : rBody.dec cs with
    | none => simp [h1] at h
    | some q =>
      obtain ⟨x, g1⟩ := q
      cases h2 : decB m with
      | none => simp [h1, h2] at h
      | some q =>
        obtain ⟨l', g2⟩ := q
        simp [h1, h2] at h
        obtain ⟨rfl, rfl⟩ := h
        obtain ⟨k1, k2⟩ := decB_ok h2 (fun c hc => hg c (by simp [hc]))
        have hfit := rBody.ok _ _ _ h1 (fun c hc => hg c (by simp [hc]))
        refine ⟨by simp [k1], fun i s' hs => ?_⟩
        cases i with
        | zero =>
          have hs : some (some (Slot.mk (.one (rBody.cells x)) false)) = some (some s') := hs
          cases hs
          refine ⟨_, rfl, rfl, ?_⟩
          exact ⟨hfit.1, fun i c c' hc hc' => ⟨(hfit.2 i c c' hc hc').1, (hfit.2 i c c' hc hc').2.1⟩⟩
        | succ i => exact k2 i s' hs
  | some ⟨.one cs, true⟩ :: m, l, g, h, _ => by simp [decB] at h
  | some ⟨.many _ _ _ _, _⟩ :: m, l, g, h, _ => by simp [decB] at h
  | none :: m, l, g, h, _ => by simp [decB] at h

theorem MutOk.fits {P : Program} {f : FuncId} {args args0 : List AV} {mem mem0 mem' : Mem} {r : AV} (h : MutOk P f args0 mem0 r mem') (hl : args0.length = args.length)
    (ha : ∀ (i : Nat) (a a0 : AV), args[i]? = some a → args0[i]? = some a0 → Fits a a0) (hm : MFits mem mem0) : MutOk P f args mem r mem' := fun rf R ρ w vs hms hs hv => by
  have := h rf R ρ w vs (hms.fits hm) (by rw [hs, hl]) (fun i x hx => by
    have hlt : i < args.length := by rw [← hl]; exact (List.getElem?_eq_some_iff.1 hx).1
    exact ha i args[i] x (by simp [hlt]) hx _ _ _ _ (hv i args[i] (by simp [hlt])))
  rw [hm.1] at this
  exact this

def bAt (l : List Body) (i : Nat) : Body := l.getD i rBody.d
/-- a list whose length is seen -/
def shown (n : Nat) (l : List Body) : List Body := (List.range n).map fun i => bAt l i
theorem shown_eq {n : Nat} {l : List Body} (h : l.length = n) : shown n l = l := by
  subst h
  apply List.ext_getElem?
  intro k
  unfold shown
  rw [List.getElem?_map]
  by_cases hk : k < l.length
  · rw [List.getElem?_range hk]; simp [bAt, List.getD, hk]
  · rw [List.getElem?_eq_none (by simp; omega), List.getElem?_eq_none (by omega)]; rfl
/-- a call that changes the bodies of a table of at most so many -/
def mentT {β : Type} (f : FuncId) (N0 : Nat) (D : Dec β) (ok : List Body → β → Bool) (spec : List Body → β → List Body) : Ment := ⟨f, fun args mem => match args, mem with
  | .lsl _ 0 t 1 n :: args, some ⟨.many t' 1 _ rows, false⟩ :: bl =>
    bif Nat.beq t N.t_pworked && (Nat.beq t' N.t_pworked && (isPtrs 1 rows && (Nat.beq rows.length n && (Nat.beq bl.length n && Nat.ble n N0)))) then
      (match decB bl with
      | some (l, g) => (match D.dec args with
        | some (y, h) => some (.tup [], memT (shown l.length (spec l y)), ok l y :: (g ++ h))
        | none => none)
      | none => none) else none
  | _, _ => none⟩
theorem ptrs_noflat (i n : Nat) : ∀ (k : Nat) (c : List AV), (ptrsT i n)[k]? = some c → CFits c c := by
  induction n generalizing i with
  | zero => intro k c h; simp [ptrsT] at h
  | succ n ih =>
    intro k c h
    cases k with
    | zero => simp [ptrsT] at h; subst h; exact CFits.refl rfl
    | succ k => exact ih (i + 1) k c (by simpa [ptrsT] using h)
theorem getSlot_of {m : Mem} {i : Nat} {s : Slot} (h : m[i]? = some (some s)) : getSlot m i = some s := by unfold getSlot; rw [h]
theorem ptrs_len (i n : Nat) : (ptrsT i n).length = n := by
  induction n generalizing i with
  | zero => rfl
  | succ n ih => simp [ptrsT, ih]
theorem mentT_ok {β : Type} {f : FuncId} {N0 : Nat} {D : Dec β} {ok : List Body → β → Bool} {spec : List Body → β → List Body} (hc : Callable N.P f) (hlen : ∀ l y, (spec l y).length = l.length)
    (h : ∀ l y, l.length ≤ N0 → ok l y = true → MutOk N.P f (tblA l.length :: D.enc y) (memT l) (.tup []) (memT (spec l y))) : (mentT f N0 D ok spec).ok N.P := fun args mem v mem' cs hr hg => by
  unfold mentT at hr
  simp only at hr
  split at hr
  · rename_i kn t n args t' fl rows bl
    cases hck : (Nat.beq t N.t_pworked && (Nat.beq t' N.t_pworked && (isPtrs 1 rows && (Nat.beq rows.length n && (Nat.beq bl.length n && Nat.ble n N0))))) with
    | false => simp only [hck, cond_false] at hr; cases hr
    | true =>
      simp only [hck, cond_true] at hr
      simp only [Bool.and_eq_true] at hck
      obtain ⟨q1, q2, q3, q4, q5, q6⟩ := hck
      have q1 := Nat.eq_of_beq_eq_true q1
      have q2 := Nat.eq_of_beq_eq_true q2
      have q3 := isPtrs_eq q3
      have q4 := Nat.eq_of_beq_eq_true q4
      have q5 := Nat.eq_of_beq_eq_true q5
      have q6 := Nat.le_of_ble_eq_true q6
      subst q1 q2
      cases h1 : decB bl with
      | none => simp [h1] at hr
      | some q =>
        obtain ⟨l, g⟩ := q
        cases h2 : D.dec args with
        | none => simp [h1, h2] at hr
        | some q =>
          obtain ⟨y, h'⟩ := q
          simp only [h1, h2, Option.some.injEq, Prod.mk.injEq] at hr
          rw [shown_eq (hlen l y)] at hr
          obtain ⟨rfl, rfl, rfl⟩ := hr
          obtain ⟨k1, k2⟩ := decB_ok h1 (fun c hc => hg c (by simp [hc]))
          obtain ⟨d1, d2⟩ := D.ok _ _ _ h2 (fun c hc => hg c (by simp [hc]))
          have hn : l.length = n := by omega
          have key := h l y (by omega) (hg _ List.mem_cons_self)
          refine ⟨hc, key.fits (by simp [d1]) (fun i a a0 ha ha0 => ?_) ⟨?_, fun b s' hs' => ?_⟩, ?_⟩
          · cases i with
            | zero =>
              simp at ha ha0
              subst ha ha0
              rw [hn]
              intro R ρ w v hv
              cases hv with
              | lsl0 => exact .lsl0
              | lsl h1 h2 h3 h4 h5 => exact .lsl h1 h2 h3 h4 h5
            | succ i => exact d2 i a a0 (by simpa using ha) (by simpa using ha0)
          · simp [memT, memB, k1]
          · have hs' := getSlot_some hs'
            cases b with
            | zero =>
              have hs' : some (some (Slot.mk (.many N.t_pworked 1 false (ptrsT 1 l.length)) false)) = some (some s') := hs'
              cases hs'
              refine ⟨⟨.many N.t_pworked 1 fl rows, false⟩, rfl, rfl, rfl, rfl, ?_, fun i c c' hc hc' => ?_, fun h => by cases h⟩
              · rw [ptrs_len]; omega
              · rw [q3, q4, ← hn] at hc
                rw [hc] at hc'
                cases hc'
                exact ptrs_noflat _ _ i c hc
            | succ b =>
              obtain ⟨s, e1, e2, e3⟩ := k2 b s' hs'
              exact ⟨s, getSlot_of e1, e2, e3⟩
          · simp only [memT, memB, List.length_cons, List.length_map, hlen]
            omega
  · cases hr
end Go.Flat
end
