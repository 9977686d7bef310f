/- What is proved in the end: SolverMoves returns true whatever the input, and its input reads as it did; no condition.
This text: C23, C24, C25, C26, FlatMut2, C27, C28, C29, C30, C31, C32, C33, C34, C35, C50, C61, C62, C63, C64. -/
import Derived.Lib.ItoaNum
import Derived.Test.YtldnfpgemlgbmaaGreatM6

section
/- Contracts: lists of bodies. -/
set_option linter.unusedSimpArgs false
set_option linter.unusedVariables false
namespace Go.Flat
open Go

/-- a loop that answers whether all are so -/
theorem loop_allB {C : Ctx} {f : FuncId} {args : List AV} (d n : Nat) (σ : Nat → St) (c : Nat → Bool)
    (hstart : ∀ F (Q : AV → Prop), (loop1 C f (F + 1) (σ 0) (F + d)).holds Q → (runF C (F + d) f args).holds Q)
    (hstep : ∀ i F G (Q : AV → Prop), i < n → (c i = false → Q (.kb false)) → (c i = true → (loop1 C f (F + 39) (σ (i + 1)) (G + d)).holds Q) → (loop1 C f (F + 40) (σ i) (G + d)).holds Q)
    (hend : ∀ F G (Q : AV → Prop), Q (.kb true) → (loop1 C f (F + 40) (σ n) (G + d)).holds Q) : ∃ m, (runF C m f args).holds fun x => Fits x (lb (allN n c)) :=
  loop_all d n σ (fun i => ∀ k, k < i → c k = true) (fun F h => hstart F _ h) (fun k hk => by omega)
    (fun i F G h hI hn => hstep i F G _ h (fun hc => by rw [allN_false h hc]; exact Fits.kb) fun hc => hn fun k hk => by
      by_cases hk2 : k = i
      · subst hk2; exact hc
      · exact hI k (by omega))
    (fun F G hI => hend F G _ (by rw [allN_iff.2 hI]; exact Fits.kb))

theorem holds_yes {α : Type} {Q : α → Prop} {c : Bool} {t e : Tree α} (h : c = true) (ht : t.holds Q) : (Tree.node c t e).holds Q := ⟨fun _ => ht, fun h' => (by rw [h] at h'; cases h')⟩
theorem lt_true {i n : Nat} (h : i < n) : decide ((i : Int) < (n : Int)) = true := by simp; exact h
theorem lt_no {n : Nat} : decide ((n : Int) < (n : Int)) = false := by simp
theorem in_true {i n : Nat} (h : i < n) : (decide (0 ≤ (i : Int)) && decide ((i : Int) < (n : Int))) = true := by simp; exact h

def hSBs : Hints := fun _ _ => some ([0, 1, 5], 0)
noncomputable abbrev Csbs : Ctx := ctxN N.P [e_SameBody] [] hSBs fun _ _ => []
def sSbs (a b : Sl Body) (i : Int) : St := ⟨[(0, rBody.encS a), (1, rBody.encS b), (5, li i)], []⟩
theorem sbs_start (a b : Sl Body) (F : Nat) : runF Csbs (F + 6) N.kit_SameBodies [rBody.encS a, rBody.encS b] = .node ((a.len : Int) != b.len) (.leaf (.kb false)) (loop1 Csbs N.kit_SameBodies (F + 1) (sSbs a b 0) (F + 6)) := by kernel_rfl
theorem sbs_step (a b : Sl Body) (i F G : Nat) : loop1 Csbs N.kit_SameBodies (F + 40) (sSbs a b i) (G + 6) =
    .node (decide ((i : Int) < (a.len : Int))) (gd (decide (0 ≤ (i : Int)) && decide ((i : Int) < (a.len : Int))) (gd (decide (0 ≤ (i : Int)) && decide ((i : Int) < (b.len : Int))) (gd (okS (a.at' i).Shp.Pts) (gd (okS (b.at' i).Shp.Pts)
      (.node (!bodyEq (a.at' i) (b.at' i)) (.leaf (.kb false)) (loop1 Csbs N.kit_SameBodies (F + 39) (sSbs a b (i64 ((i : Int) + 1))) (G + 6))))))) (.leaf (.kb true)) := by kernel_rfl
def bodiesEq (a b : Sl Body) : Bool := bif (a.len : Int) != b.len then false else allN a.len fun i => bodyEq (a.at' i) (b.at' i)
theorem bodiesEq_refl (a : Sl Body) : bodiesEq a a = true := by
  unfold bodiesEq
  simp only [bne_self_eq_false, cond_false]
  exact allN_iff.2 fun i _ => bodyEq_refl _
theorem c_SameBodies (a b : Sl Body) : Con N.P N.kit_SameBodies [rBody.encS a, rBody.encS b] (lb (bodiesEq a b)) :=
  con_of_runN (t := [e_SameBody]) (m := []) (hints := hSBs) (nils := fun _ _ => []) (all_cons o_SameBody all_nil) mall_nil named mixed (by kernel_rfl) rfl fun hs => by
    have hm := (hs _ List.mem_cons_self).len
    by_cases hlen : a.len = b.len
    · have e0 : bodiesEq a b = allN a.len fun i => bodyEq (a.at' i) (b.at' i) := by unfold bodiesEq; rw [hlen]; simp
      rw [e0]
      refine loop_allB (C := Csbs) 6 a.len (fun i => sSbs a b i) _ (fun F Q h => ?_) (fun i F G Q h h1 h2 => ?_) (fun F G Q h => ?_)
      · rw [sbs_start]; exact holds_no (ne_eq (by rw [hlen])) h
      · rw [sbs_step, next_i hm h]
        refine holds_yes (lt_true h) (holds_gd (in_true h) (holds_gd (in_true (by omega)) (holds_gd (okS_true _) (holds_gd (okS_true _) ⟨fun h' => h1 ?_, fun h' => h2 ?_⟩))))
        · simpa only [Bool.not_eq_true'] using h'
        · simpa only [Bool.not_eq_false'] using h'
      · rw [sbs_step]; exact holds_no lt_no h
    · refine ⟨6, ?_⟩
      show (runF Csbs _ _ _).holds _
      rw [sbs_start (F := 0)]
      have hne : ((a.len : Int) != b.len) = true := by simp; omega
      refine holds_yes hne ?_
      unfold bodiesEq; rw [hne]; exact Fits.kb
def e_SameBodies : Ent := ent2 N.kit_SameBodies rBody.cSl rBody.cSl fun a b => lb (bodiesEq a b)
theorem o_SameBodies : e_SameBodies.ok N.P := ent2_ok c_SameBodies

def hLight : Hints := fun _ _ => some ([0, 3], 999)
noncomputable abbrev Clight : Ctx := ctxN N.P [] [] hLight fun _ _ => []
def sLight (a : Sl Body) (i : Int) : St := ⟨[(0, rBody.encS a), (3, li i)], []⟩
theorem light_start (a : Sl Body) (F : Nat) : runF Clight (F + 5) N.law05_light [rBody.encS a] = loop1 Clight N.law05_light (F + 1) (sLight a 0) (F + 5) := by kernel_rfl
theorem light_step (a : Sl Body) (i F G : Nat) : loop1 Clight N.law05_light (F + 40) (sLight a i) (G + 5) =
    .node (decide ((i : Int) < (a.len : Int))) (gd (decide (0 ≤ (i : Int)) && decide ((i : Int) < (a.len : Int)))
      (.node (decide (((a.at' i).Shp.Pts.len : Int) > 12)) (.leaf (.kb false)) (loop1 Clight N.law05_light (F + 39) (sLight a (i64 ((i : Int) + 1))) (G + 5)))) (.leaf (.kb true)) := by kernel_rfl
def isLight (b : Body) : Bool := Nat.ble b.Shp.Pts.len 12
def lightAll (a : Sl Body) : Bool := allN a.len fun i => isLight (a.at' i)
theorem c_light (a : Sl Body) : Con N.P N.law05_light [rBody.encS a] (lb (lightAll a)) :=
  con_of_runN (t := []) (m := []) (hints := hLight) (nils := fun _ _ => []) all_nil mall_nil named mixed (by kernel_rfl) rfl fun hs => by
    have hm := (hs _ List.mem_cons_self).len
    refine loop_allB (C := Clight) 5 a.len (fun i => sLight a i) _ (fun F Q h => ?_) (fun i F G Q h h1 h2 => ?_) (fun F G Q h => ?_)
    · rw [light_start]; exact h
    · rw [light_step, next_i hm h]
      refine holds_yes (lt_true h) (holds_gd (in_true h) ⟨fun h' => h1 ?_, fun h' => h2 ?_⟩)
      · have := of_decide_eq_true h'
        cases hq : isLight (a.at' i) with
        | false => rfl
        | true => have := Nat.le_of_ble_eq_true hq; omega
      · have := of_decide_eq_false h'
        exact Nat.ble_eq_true_of_le (by omega)
    · rw [light_step]; exact holds_no lt_no h
def e_light : Ent := ent1 N.law05_light rBody.cSlK fun a => lb (lightAll a)
theorem o_light : e_light.ok N.P := ent1_ok c_light

def hOBs : Hints := fun _ _ => some ([0, 3, 4], 999)
noncomputable abbrev Cobs : Ctx := ctxN N.P [e_OwnBody] [] hOBs fun _ _ => [(3, N.t_Body, 27)]
def sObs (a : Sl Body) (i : Nat) (j : Int) (r1 : List (List AV)) : St := ⟨[(0, rBody.encS a), (3, .lsl false 0 N.t_Body 27 i), (4, li j)], [some ⟨.many N.t_Body 27 true r1, false⟩]⟩
theorem obs_start (a : Sl Body) (F : Nat) : runF Cobs (F + 6) N.kit_OwnBodies [rBody.encS a] = loop1 Cobs N.kit_OwnBodies (F + 1) (sObs a 0 0 []) (F + 6) := by kernel_rfl
theorem obs_step (a : Sl Body) (i j : Nat) (r1 : List (List AV)) (F G : Nat) : loop1 Cobs N.kit_OwnBodies (F + 40) (sObs a i j r1) (G + 6) =
    .node (decide ((j : Int) < (a.len : Int))) (gd (decide (0 ≤ (j : Int)) && decide ((j : Int) < (a.len : Int))) (gd (a.at' j).small (gd (okS (a.at' j).Shp.Pts) (gd (decide (r1.length = i)) (gd (decide (i + 1 < 16777216))
      (loop1 Cobs N.kit_OwnBodies (F + 39) (sObs a (i + 1) (i64 ((j : Int) + 1)) (r1 ++ [rBody.cells (a.at' j)])) (G + 6)))))))
      (gd (Nat.ble i r1.length) (.leaf (.vsl false 27 i (fun r => r1.getD r [])))) := by kernel_rfl
def smallAll (a : Sl Body) : Bool := smallN a.len && allN a.len fun i => (a.at' i).small
theorem c_OwnBodies (a : Sl Body) (ha : smallAll a = true) : Con N.P N.kit_OwnBodies [rBody.encS a] (rBody.encS a) :=
  con_of_runN (t := [e_OwnBody]) (m := []) (hints := hOBs) (nils := fun _ _ => [(3, N.t_Body, 27)]) (all_cons o_OwnBody all_nil) mall_nil named mixed (by kernel_rfl) rfl fun hs => by
    simp only [smallAll, Bool.and_eq_true] at ha
    have hl := smallN_lt ha.1
    have hm : a.len ≤ maxLen := by simp only [maxLen]; omega
    refine loop_all (C := Cobs) 6 a.len (fun i => sObs a i i (a.rows rBody i)) (fun _ => True) (fun F h => by rw [obs_start]; exact h) trivial (fun i F G h hI hn => ?_) (fun F G hI => ?_)
    · have hn := hn trivial
      simp only [Sl.rows_succ] at hn
      rw [obs_step, next_i hm h]
      exact holds_yes (lt_true h) (holds_gd (in_true h) (holds_gd (allN_iff.1 ha.2 i h) (holds_gd (okS_true _) (holds_gd (by simp [Sl.rows_len]) (holds_gd (by simp; omega) hn)))))
    · rw [obs_step, Sl.rows_len]
      exact holds_no lt_no (holds_gd (Nat.ble_eq_true_of_le (Nat.le_refl _)) (fits_sl rBody (fun _ => rfl) a rfl))
def e_OwnBodies : Ent := entC N.kit_OwnBodies rBody.cSl smallAll fun a => rBody.encS a
theorem o_OwnBodies : e_OwnBodies.ok N.P := entC_ok c_OwnBodies
end Go.Flat
end

section
/- Contracts: the sum of momenta. -/
set_option linter.unusedSimpArgs false
set_option linter.unusedVariables false
namespace Go.Flat
open Go

def momOf (b : Body) : Vec := ⟨nDiv b.V.X b.Wt.M, nDiv b.V.Y b.Wt.M⟩
def moms (a : Sl Body) : Nat → List Vec
  | 0 => []
  | i + 1 => bif moves (a.at' i) then moms a i ++ [momOf (a.at' i)] else moms a i
theorem moms_len (a : Sl Body) : ∀ i, (moms a i).length ≤ i
  | 0 => Nat.le_refl _
  | i + 1 => by
    have := moms_len a i
    unfold moms
    cases moves (a.at' i)
    · simp; omega
    · simp; omega
def sTotal (a : Sl Body) : Vec := vAdd (moms a a.len)
theorem vec_dec (x : Vec) : decRow rVec (rVec.cells x) = x := rfl
theorem vec_ok (x : Vec) : okRow rVec (rVec.cells x) = true := rfl

def hTot : Hints := fun _ _ => some ([2, 3, 6, 7, 8], 999)
noncomputable abbrev Ctot : Ctx := ctxN N.P [e_Moves, e_Div, e_PAdd] [] hTot fun _ _ => [(3, N.t_Vec, 4)]
def sTot (a : Sl Body) (i : Int) (n : Nat) (r1 : List (List AV)) : St := ⟨[(2, .ptr 0 4 0 0), (3, .lsl false 1 N.t_Vec 4 n), (6, rBody.encS a), (7, li a.len), (8, li i)], [some ⟨.one zVec, false⟩, some ⟨.many N.t_Vec 4 true r1, false⟩]⟩
theorem tot_start (a : Sl Body) (F : Nat) : runF Ctot (F + 6) N.solver_Total [rBody.encS a] = loop1 Ctot N.solver_Total (F + 1) (sTot a 0 0 []) (F + 6) := by kernel_rfl
theorem tot_step (a : Sl Body) (i n : Nat) (r1 : List (List AV)) (F G : Nat) : loop1 Ctot N.solver_Total (F + 40) (sTot a i n r1) (G + 6) =
    .node (decide ((i : Int) < (a.len : Int))) (gd (decide (0 ≤ (i : Int)) && decide ((i : Int) < (a.len : Int))) (gd (okS (a.at' i).Shp.Pts)
      (.node (moves (a.at' i)) (gd (decide (r1.length = n)) (gd (decide (n + 1 < 16777216)) (loop1 Ctot N.solver_Total (F + 39) (sTot a (i64 ((i : Int) + 1)) (n + 1) (r1 ++ [rVec.cells (momOf (a.at' i))])) (G + 6))))
        (loop1 Ctot N.solver_Total (F + 39) (sTot a (i64 ((i : Int) + 1)) n r1) (G + 6)))))
      (gd (Nat.ble n r1.length) (gd (smallB ((List.range n).map fun i => decRow rVec (r1.getD i []))) (gd ((List.range n).all fun i => okRow rVec (r1.getD i []))
        (.leaf (vAdd ((List.range n).map fun i => decRow rVec (r1.getD i []))).av)))) := by kernel_rfl
theorem rows_add {l : List Vec} {v : Vec} : (l.map fun x => rVec.cells x) ++ [rVec.cells v] = (l ++ [v]).map fun x => rVec.cells x := by simp
theorem tot_end (a : Sl Body) (ha : smallN a.len = true) :
    (gd (Nat.ble (moms a a.len).length ((moms a a.len).map fun x => rVec.cells x).length) (gd (smallB ((List.range (moms a a.len).length).map fun i => decRow rVec (((moms a a.len).map fun x => rVec.cells x).getD i []))) (gd ((List.range (moms a a.len).length).all fun i => okRow rVec (((moms a a.len).map fun x => rVec.cells x).getD i []))
        (.leaf (vAdd ((List.range (moms a a.len).length).map fun i => decRow rVec (((moms a a.len).map fun x => rVec.cells x).getD i []))).av)))).holds fun x => Fits x (sTotal a).av := by
  have hl := smallN_lt ha
  have hle := moms_len a a.len
  have e := dec_fill rVec vec_dec (fun x => x) (moms a a.len)
  have e2 := ok_fill rVec vec_ok (fun x => x) (moms a a.len)
  rw [List.map_id''] at e
  · rw [e, e2]
    refine holds_gd (by simp) (holds_gd (small_true (by omega)) (holds_gd rfl ?_))
    exact Fits.refl _
  · intro x; rfl
theorem c_Total (a : Sl Body) (ha : smallN a.len = true) : Con N.P N.solver_Total [rBody.encS a] (sTotal a).av :=
  con_of_runN (t := [e_Moves, e_Div, e_PAdd]) (m := []) (hints := hTot) (nils := fun _ _ => [(3, N.t_Vec, 4)]) (all_cons o_Moves (all_cons o_Div (all_cons o_PAdd all_nil))) mall_nil named mixed (by kernel_rfl) rfl fun hs => by
    have hm := (hs _ List.mem_cons_self).len
    have hl := smallN_lt ha
    refine loop_all (C := Ctot) 6 a.len (fun i => sTot a i (moms a i).length ((moms a i).map fun x => rVec.cells x)) (fun _ => True) (fun F h => by rw [tot_start]; exact h) trivial (fun i F G h hI hn => ?_) (fun F G hI => ?_)
    · have hn := hn trivial
      have hle := moms_len a i
      rw [tot_step, next_i hm h]
      refine holds_yes (lt_true h) (holds_gd (in_true h) (holds_gd (okS_true _) ⟨fun h1 => holds_gd (by simp) (holds_gd (by simp; omega) ?_), fun h1 => ?_⟩))
      · rw [rows_add]
        simp only [moms, h1, cond_true, List.length_append, List.length_cons, List.length_nil] at hn
        exact hn
      · simp only [moms, h1, cond_false] at hn
        exact hn
    · rw [tot_step]
      exact holds_no lt_no (tot_end a ha)
def e_Total : Ent := entC N.solver_Total rBody.cSl (fun a => smallN a.len) fun a => (sTotal a).av
theorem o_Total : e_Total.ok N.P := entC_ok c_Total
end Go.Flat
end

section
/- Contracts: Max, Min, Clamp; vectors. -/
set_option linter.unusedSimpArgs false
set_option linter.unusedVariables false
namespace Go.Flat
open Go

/-- the extreme of a number and the first i of others -/
def ext (o : Int) (s : Sl Int) (x : Int) : Nat → Int
  | 0 => x
  | i + 1 => bif decide (i64 (sCmp (s.at' i) (ext o s x i) * o) < 0) then s.at' i else ext o s x i
def hExt : Hints := fun _ _ => some ([0, 1, 9, 10, 11], 999)
noncomputable abbrev Cext : Ctx := ctxN N.P [e_Cmp_i] [] hExt fun _ _ => []
def sExt (o x : Int) (l : Sl Int) (i : Int) : St := ⟨[(0, li o), (1, li x), (9, rI.encS l), (10, li l.len), (11, li i)], []⟩
theorem ext_start (o x : Int) (l : Sl Int) (F : Nat) : runF Cext (F + 5) N.fixed_extreme_int64 [li o, li x, rI.encS l] = loop1 Cext N.fixed_extreme_int64 (F + 1) (sExt o x l 0) (F + 5) := by kernel_rfl
theorem ext_step (o x : Int) (l : Sl Int) (i F G : Nat) : loop1 Cext N.fixed_extreme_int64 (F + 40) (sExt o x l i) (G + 5) =
    .node (decide ((i : Int) < (l.len : Int))) (gd (decide (0 ≤ (i : Int)) && decide ((i : Int) < (l.len : Int))) (.node (decide (i64 (sCmp (l.at' i) x * o) < 0))
      (loop1 Cext N.fixed_extreme_int64 (F + 39) (sExt o (l.at' i) l (i64 ((i : Int) + 1))) (G + 5)) (loop1 Cext N.fixed_extreme_int64 (F + 39) (sExt o x l (i64 ((i : Int) + 1))) (G + 5)))) (.leaf (li x)) := by kernel_rfl
theorem c_extreme (o x : Int) (l : Sl Int) : Con N.P N.fixed_extreme_int64 [li o, li x, rI.encS l] (li (ext o l x l.len)) :=
  con_of_runN (t := [e_Cmp_i]) (m := []) (hints := hExt) (nils := fun _ _ => []) (all_cons o_Cmp_i all_nil) mall_nil named mixed (by kernel_rfl) rfl fun hs => by
    have hm := (hs (rI.encS l) (by simp)).len
    refine loop_all (C := Cext) 5 l.len (fun i => sExt o (ext o l x i) l i) (fun _ => True) (fun F h => by rw [ext_start]; exact h) trivial (fun i F G h hI hn => ?_) (fun F G hI => ?_)
    · have hn := hn trivial
      rw [ext_step, next_i hm h]
      refine holds_yes (lt_true h) (holds_gd (in_true h) ⟨fun h1 => ?_, fun h1 => ?_⟩)
      · simp only [ext, h1, cond_true] at hn; exact hn
      · simp only [ext, h1, cond_false] at hn; exact hn
    · rw [ext_step]; exact holds_no lt_no (Fits.refl _)
def e_extreme : Ent := ent3 N.fixed_extreme_int64 (cInt .i64) (cInt .i64) rI.cSl fun o x l => li (ext o l x l.len)
theorem o_extreme : e_extreme.ok N.P := ent3_ok c_extreme

/-- the first value, and the others -/
def behind1 (l : List Int) : Sl Int := ⟨l.length - 1, fun i => l.getD (i + 1) 0⟩
def nMost (o : Int) (l : List Num) : Num := match l with
  | [] => ⟨0, false⟩
  | l => ⟨ext o (behind1 (l.map sv)) ((l.map sv).getD 0 0) (l.length - 1), l.any sf⟩
theorem c_most (o : Int) (l : List Num) (hl : l.length < 4096) : Con N.P N.fixed_most [li o, rNum.sl l] (nMost o l).av :=
  con_ty (c := cNum) (t := [e_values, e_extreme]) (hints := h0) (all_cons o_values (all_cons o_extreme all_nil)) (by kernel_rfl) rfl 30
    (.node ((l.length : Int) == 0) (.leaf ⟨0, false⟩) (gd (smallB (rNum.dl l)) (gd (rNum.okl l) (gd (decide ((0 : Int) ≤ 0) && decide ((0 : Int) < (((rNum.dl l).map sv).length : Int))) (gd (decide ((1 : Int) ≤ (((rNum.dl l).map sv).length : Int)))
      (gd (allN (((rNum.dl l).map sv).length - 1) fun i => okRow rI (rI.rows ((rNum.dl l).map sv) (i + 1)))
        (.leaf ⟨ext o (behind1 ((rNum.dl l).map sv)) (((rNum.dl l).map sv).getD 0 0) (((rNum.dl l).map sv).length - 1), (rNum.dl l).any sf⟩))))))) (by kernel_rfl) fun hs => by
    rw [(dl_num l).1, (dl_num l).2, small_true hl]
    cases l with
    | nil => exact holds_yes rfl rfl
    | cons a r =>
      have e : allN (((a :: r).map sv).length - 1) (fun i => okRow rI (rI.rows ((a :: r).map sv) (i + 1))) = true := allN_iff.2 fun i _ => rfl
      rw [e]
      refine holds_no (by simp; omega) (holds_gd rfl (holds_gd rfl (holds_gd (by simp) (holds_gd (by simp; omega) (holds_gd rfl ?_)))))
      show _ = _
      unfold nMost
      simp
def entL2 (f : FuncId) (spec : Int → List Num → AV) : Ent := ⟨f, fun
  | [o, a] => (match int? .i64 o with
    | some z => (match rNum.decSl a with
      | some (x, g) => bif knownLen a then (bif smallB x then some (spec z x, g) else none) else some (spec z x, smallB x :: g)
      | none => none)
    | none => none)
  | _ => none⟩
theorem entL2_ok {P : Program} {f : FuncId} {spec : Int → List Num → AV} (h : ∀ o (l : List Num), l.length < 4096 → Con P f [li o, rNum.sl l] (spec o l)) : (entL2 f spec).ok P := fun args v g hr hg => by
  unfold entL2 at hr
  rcases args with _ | ⟨o, _ | ⟨a, _ | ⟨b, t⟩⟩⟩ <;> simp only at hr
  · cases hr
  · cases hr
  · cases h0 : int? .i64 o with
    | none => simp [h0] at hr
    | some z =>
    cases h1 : rNum.decSl a with
    | none => simp [h0, h1] at hr
    | some p =>
      obtain ⟨x, g1⟩ := p
      simp only [h0, h1] at hr
      have key : smallB x = true → (∀ c ∈ g1, c = true) → Con P f [o, a] (spec z x) := fun hsm hg1 => by
        refine Con.args (args' := [li z, rNum.sl x]) rfl (fun i a1 a1' hi hi' => ?_) (h z x (by simpa [smallB] using hsm))
        rcases i with _ | _ | i <;> simp at hi hi' <;> subst hi <;> subst hi'
        · exact int?_ok h0
        · exact rNum.list.ok _ _ _ h1 hg1
      cases hk : knownLen a with
      | true =>
        cases hsm : smallB x with
        | false => simp [hk, hsm] at hr
        | true =>
          simp only [hk, hsm, cond_true, Option.some.injEq, Prod.mk.injEq] at hr
          obtain ⟨rfl, rfl⟩ := hr
          exact key hsm hg
      | false =>
        simp only [hk, cond_false, Option.some.injEq, Prod.mk.injEq] at hr
        obtain ⟨rfl, rfl⟩ := hr
        exact key (hg _ List.mem_cons_self) (fun c hc => hg c (List.mem_cons_of_mem _ hc))
  · cases hr
def e_most : Ent := entL2 N.fixed_most fun o l => (nMost o l).av
theorem o_most : e_most.ok N.P := entL2_ok c_most

/-- the greatest and the least -/
def nMax (l : List Num) : Num := match l with
  | [] => ⟨0, false⟩
  | a :: r => ⟨r.foldl (fun m x => max m (sv x)) (sv a), (a :: r).any sf⟩
def nMin (l : List Num) : Num := match l with
  | [] => ⟨0, false⟩
  | a :: r => ⟨r.foldl (fun m x => min m (sv x)) (sv a), (a :: r).any sf⟩
theorem cmp_max (x f : Int) : (bif decide (i64 (sCmp x f * -1) < 0) then x else f) = max f x := by
  unfold sCmp i64
  by_cases h1 : x < f
  · simp [h1, IntKind.wrap_i64]; omega
  · by_cases h2 : x > f
    · simp [h1, h2, IntKind.wrap_i64]; omega
    · simp [h1, h2, IntKind.wrap_i64]; omega
theorem cmp_min (x f : Int) : (bif decide (i64 (sCmp x f * 1) < 0) then x else f) = min f x := by
  unfold sCmp i64
  by_cases h1 : x < f
  · simp [h1, IntKind.wrap_i64]; omega
  · by_cases h2 : x > f
    · simp [h1, h2, IntKind.wrap_i64]; omega
    · simp [h1, h2, IntKind.wrap_i64]; omega
theorem ext_fold (o : Int) (g : Int → Int → Int) (hg : ∀ x f, (bif decide (i64 (sCmp x f * o) < 0) then x else f) = g f x) (s : Sl Int) (l : List Num) (x : Int) : ∀ i, (∀ k, k < i → s.at' k = (l.map sv).getD k 0) → i ≤ l.length →
    ext o s x i = (l.take i).foldl (fun m y => g m (sv y)) x
  | 0, _, _ => rfl
  | i + 1, h, hi => by
    rw [take_getD rNum.d (by omega), List.foldl_append, ← ext_fold o g hg s l x i (fun k hk => h k (by omega)) (by omega)]
    simp only [ext, List.foldl_cons, List.foldl_nil]
    rw [hg, h i (by omega)]
    congr 1
    have hlt : i < l.length := by omega
    simp [List.getD, hlt]
theorem most_max (l : List Num) : nMost (-1) l = nMax l := by
  cases l with
  | nil => rfl
  | cons a r =>
    have := ext_fold (-1) max cmp_max (behind1 ((a :: r).map sv)) r (sv a) r.length (fun k hk => by simp [behind1, List.getD]) (Nat.le_refl _)
    rw [List.take_length] at this
    show (⟨_, _⟩ : Num) = ⟨_, _⟩
    rw [← this]
    simp
theorem most_min (l : List Num) : nMost 1 l = nMin l := by
  cases l with
  | nil => rfl
  | cons a r =>
    have := ext_fold 1 min cmp_min (behind1 ((a :: r).map sv)) r (sv a) r.length (fun k hk => by simp [behind1, List.getD]) (Nat.le_refl _)
    rw [List.take_length] at this
    show (⟨_, _⟩ : Num) = ⟨_, _⟩
    rw [← this]
    simp
theorem c_Max (l : List Num) (hl : l.length < 4096) : Con N.P N.fixed_Max [rNum.sl l] (nMax l).av :=
  con_of_tree (t := [e_most]) (hints := h0) (all_cons o_most all_nil) (by kernel_rfl) rfl 30 (gd (smallB (rNum.dl l)) (gd (rNum.okl l) (.leaf (nMost (-1) (rNum.dl l)).av))) (by kernel_rfl) fun _ => by
    rw [(dl_num l).1, (dl_num l).2, small_true hl, most_max]
    exact holds_gd rfl (holds_gd rfl (Fits.refl _))
theorem c_Min (l : List Num) (hl : l.length < 4096) : Con N.P N.fixed_Min [rNum.sl l] (nMin l).av :=
  con_of_tree (t := [e_most]) (hints := h0) (all_cons o_most all_nil) (by kernel_rfl) rfl 30 (gd (smallB (rNum.dl l)) (gd (rNum.okl l) (.leaf (nMost 1 (rNum.dl l)).av))) (by kernel_rfl) fun _ => by
    rw [(dl_num l).1, (dl_num l).2, small_true hl, most_min]
    exact holds_gd rfl (holds_gd rfl (Fits.refl _))
def e_Max : Ent := entL N.fixed_Max rNum fun l => (nMax l).av
theorem o_Max : e_Max.ok N.P := entL_ok c_Max
def e_Min : Ent := entL N.fixed_Min rNum fun l => (nMin l).av
theorem o_Min : e_Min.ok N.P := entL_ok c_Min
def nClamp (x low high : Num) : Num := nMax [low, nMin [x, high]]
theorem c_Clamp (x a b : Num) : Con N.P N.fixed_Clamp [x.av, a.av, b.av] (nClamp x a b).av :=
  con_of_one (t := [e_Max, e_Min]) (hints := h0) (all_cons o_Max (all_cons o_Min all_nil)) (by kernel_rfl) rfl 30 (by kernel_rfl)
def e_Clamp : Ent := ent3 N.fixed_Clamp cNum cNum cNum fun x a b => (nClamp x a b).av
theorem o_Clamp : e_Clamp.ok N.P := ent3_ok c_Clamp

/-! vectors -/
def vSub (a b : Vec) : Vec := ⟨nSub a.X b.X, nSub a.Y b.Y⟩
def vScale (v : Vec) (k : Num) : Vec := ⟨nMul v.X k, nMul v.Y k⟩
def vCross (a b : Vec) : Num := nDot a.X b.Y (nNeg a.Y) b.X
theorem c_PSub (a b : Vec) : Con N.P N.plane_Sub [a.av, b.av] (vSub a b).av :=
  con_of_one (t := [e_Sub]) (hints := h0) (all_cons o_Sub all_nil) (by kernel_rfl) rfl 30 (by kernel_rfl)
def e_PSub : Ent := ent2 N.plane_Sub cVec cVec fun a b => (vSub a b).av
theorem o_PSub : e_PSub.ok N.P := ent2_ok c_PSub
theorem c_PScale (a : Vec) (k : Num) : Con N.P N.plane_Scale [a.av, k.av] (vScale a k).av :=
  con_of_one (t := [e_Mul]) (hints := h0) (all_cons o_Mul all_nil) (by kernel_rfl) rfl 30 (by kernel_rfl)
def e_PScale : Ent := ent2 N.plane_Scale cVec cNum fun a b => (vScale a b).av
theorem o_PScale : e_PScale.ok N.P := ent2_ok c_PScale
theorem c_PCross (a b : Vec) : Con N.P N.plane_Cross [a.av, b.av] (vCross a b).av :=
  con_of_one (t := [e_Neg, e_Dot]) (hints := h0) (all_cons o_Neg (all_cons o_Dot all_nil)) (by kernel_rfl) rfl 30 (by kernel_rfl)
def e_PCross : Ent := ent2 N.plane_Cross cVec cVec fun a b => (vCross a b).av
theorem o_PCross : e_PCross.ok N.P := ent2_ok c_PCross
end Go.Flat
end

section
/- Contracts: impulses. -/
set_option linter.unusedSimpArgs false
set_option linter.unusedVariables false
namespace Go.Flat
open Go

/-- what stands behind a pointer -/
theorem Fits.vptr {cs cs' : List AV} (h : FitsL cs cs') : Fits (.vptr cs) (.vptr cs') := fun R ρ w v hv => by
  cases hv with
  | vptr vals hR h1 h2 h3 =>
    refine .vptr vals hR (fun j c hc => ?_) (fun j c hc => ?_) (fun j c hc => ?_)
    · obtain ⟨_, _, _, h5⟩ := h.get hc; exact h5
    · obtain ⟨c0, hc0, _⟩ := h.get hc; exact h2 j c0 hc0
    · obtain ⟨c0, hc0, h4, _⟩ := h.get hc; exact h4 R ρ w _ (h3 j c0 hc0)
def Row.ptr {α : Type} (r : Row α) : Cdc α := ⟨fun a => match a with
    | .vptr cs => r.dec cs
    | _ => none, fun x => .vptr (r.cells x), fun a x g h hg => by
  split at h
  · exact Fits.vptr (r.ok _ _ _ h hg)
  · cases h⟩

/-- a number, limited -/
def nLimit (y : Num) (n : Int) : Num := ⟨(nClamp y (nInt (i64 (0 - n))) (nInt n)).V, false⟩
theorem c_limit1 (y : Num) (n : Int) : Con N.P N.solver_limit_c1_Num [y.av, (rInt .i64).ptr.enc n] (nLimit y n).av :=
  con_ty (c := cNum) (t := [e_Int, e_Clamp]) (hints := h0) (all_cons o_Int (all_cons o_Clamp all_nil)) (by kernel_rfl) rfl 30 (.leaf (nLimit y n)) (by kernel_rfl) fun _ => rfl
theorem c_limit1V (y : Num) (n : Int) : Con N.P N.solver_limit_c1_Vec [y.av, (rInt .i64).ptr.enc n] (nLimit y n).av :=
  con_ty (c := cNum) (t := [e_Int, e_Clamp]) (hints := h0) (all_cons o_Int (all_cons o_Clamp all_nil)) (by kernel_rfl) rfl 30 (.leaf (nLimit y n)) (by kernel_rfl) fun _ => rfl
def e_limit1 : Ent := ent2 N.solver_limit_c1_Num cNum (rInt .i64).ptr fun y n => (nLimit y n).av
theorem o_limit1 : e_limit1.ok N.P := ent2_ok c_limit1
def e_limit1V : Ent := ent2 N.solver_limit_c1_Vec cNum (rInt .i64).ptr fun y n => (nLimit y n).av
theorem o_limit1V : e_limit1V.ok N.P := ent2_ok c_limit1V
def vLimit (y : Vec) (n : Int) : Vec := ⟨nLimit y.X n, nLimit y.Y n⟩
theorem c_limitN (y : Num) (n : Int) : Con N.P N.solver_limit_Num [y.av, li n] (nLimit y n).av :=
  con_ty (c := cNum) (t := [e_limit1]) (hints := h0) (all_cons o_limit1 all_nil) (by kernel_rfl) rfl 30 (.leaf (nLimit y n)) (by kernel_rfl) fun _ => rfl
def e_limitN : Ent := ent2 N.solver_limit_Num cNum (cInt .i64) fun y n => (nLimit y n).av
theorem o_limitN : e_limitN.ok N.P := ent2_ok c_limitN
theorem c_limitV (y : Vec) (n : Int) : Con N.P N.solver_limit_Vec [y.av, li n] (vLimit y n).av :=
  con_ty (c := cVec) (t := [e_limit1V]) (hints := h0) (all_cons o_limit1V all_nil) (by kernel_rfl) rfl 30 (.leaf (vLimit y n)) (by kernel_rfl) fun _ => rfl
def e_limitV : Ent := ent2 N.solver_limit_Vec cVec (cInt .i64) fun y n => (vLimit y n).av
theorem o_limitV : e_limitV.ok N.P := ent2_ok c_limitV

/-- the arm of a place -/
def bArm (b : Body) (at' : Vec) : Vec := vSub at' b.Pos.At
theorem c_arm (b : Body) (at' : Vec) : Con N.P N.solver_worked_arm [rBody.ptr.enc b, at'.av] (bArm b at').av :=
  con_ty (c := cVec) (t := [e_PSub]) (hints := h0) (all_cons o_PSub all_nil) (by kernel_rfl) rfl 30 (.leaf (bArm b at')) (by kernel_rfl) fun _ => rfl
def e_arm : Ent := ent2 N.solver_worked_arm rBody.ptr cVec fun b at' => (bArm b at').av
theorem o_arm : e_arm.ok N.P := ent2_ok c_arm
end Go.Flat
end

section
/- Contracts of calls that write one thing behind a pointer: typed runs. -/
set_option linter.unusedSimpArgs false
set_option linter.unusedVariables false
namespace Go.Flat
open Go

/-- what a call leaves of the one thing behind its first argument -/
def oneOf {α : Type} (r : Row α) (p : AV × Mem) : Tree α := match p.1 with
  | .tup [] => (match p.2 with
    | [some ⟨.one cs, false⟩] => (match r.dec cs with
      | some (y, g) => guards g (.leaf y)
      | none => .fail 31)
    | _ => .fail 32)
  | _ => .fail 33
def runP {α : Type} (C : Ctx) (n : Nat) (f : FuncId) (esz : Nat) (r : Row α) (x : α) (args : List AV) : Tree α :=
  (runM C n f (.ptr 0 esz 0 0 :: args) [some ⟨.one (r.cells x), false⟩]).bind (oneOf r)

theorem mut_of_runP {α : Type} {P : Program} {t : List Ent} {m : List Ment} {hints : Hints} {nils : FuncId → Nat → List (Nat × Nat × Nat)} (ht : ∀ e ∈ t, e.ok P) (hm : ∀ e ∈ m, e.ok P) (hN : Named P) (hM : P.follows .mixedOrders = true)
    {f : FuncId} {esz : Nat} {r : Row α} {x y : α} {args : List AV} (n : Nat)
    (h : (runP (ctxN P t m hints nils) n f esz r x args).holds (· = y)) : MutOk P f (.ptr 0 esz 0 0 :: args) [some ⟨.one (r.cells x), false⟩] (.tup []) [some ⟨.one (r.cells y), false⟩] := by
  refine (mut_of_run (C := ctxN P t m hints nils) ⟨fun f args r g _ h1 h2 => orcOf_ok ht f args r g h1 h2, fun _ _ h => (by cases h), fun _ _ h => (by cases h), fun _ _ _ _ _ h => absurd rfl h⟩ (fun g args mem r mem' cs h1 h2 => mutOf_ok hm g args mem r mem' cs h1 h2) hN hM n f _ _ _ _ ?_).2
  refine holds_mono (fun p hp => ?_) (bind_holds h)
  obtain ⟨v, mem⟩ := p
  unfold oneOf at hp
  simp only at hp
  split at hp
  · split at hp
    · rename_i cs
      cases hd : r.dec cs with
      | none => simp [hd, Tree.holds] at hp
      | some q =>
        obtain ⟨z, g⟩ := q
        simp only [hd] at hp
        obtain ⟨hg, hz⟩ := guards_holds hp
        have hz : z = y := hz
        subst hz
        have hf := r.ok _ _ _ hd hg
        refine ⟨Fits.refl _, rfl, fun b s' hs' => ?_⟩
        cases b with
        | zero =>
          have : s' = ⟨.one (r.cells z), false⟩ := by simpa [getSlot] using hs'.symm
          subst this
          exact ⟨_, rfl, rfl, hf.1, fun i c c' hc hc' => ⟨(hf.2 i c c' hc hc').1, (hf.2 i c c' hc hc').2.1⟩⟩
        | succ b => simp [getSlot] at hs'
    · exact hp.elim
  · exact hp.elim

def dec2 {α β : Type} (A : Cdc α) (B : Cdc β) : List AV → Option ((α × β) × List Bool)
  | [a, b] => (match A.dec a with
    | some (x, g) => (match B.dec b with
      | some (y, h) => some ((x, y), g ++ h)
      | none => none)
    | none => none)
  | _ => none
theorem dec2_ok {α β : Type} (A : Cdc α) (B : Cdc β) : ∀ args y g, dec2 A B args = some (y, g) → (∀ c ∈ g, c = true) → [A.enc y.1, B.enc y.2].length = args.length ∧ ∀ (i : Nat) (a a0 : AV), args[i]? = some a → [A.enc y.1, B.enc y.2][i]? = some a0 → Fits a a0 := fun args y g h hg => by
  unfold dec2 at h
  split at h
  · rename_i a b
    cases h1 : A.dec a with
    | none => simp [h1] at h
    | some p =>
      obtain ⟨x1, g1⟩ := p
      cases h2 : B.dec b with
      | none => simp [h1, h2] at h
      | some q =>
        obtain ⟨x2, g2⟩ := q
        simp only [h1, h2, Option.some.injEq, Prod.mk.injEq] at h
        obtain ⟨rfl, rfl⟩ := h
        refine ⟨rfl, fun i a1 a0 hi hi' => ?_⟩
        rcases i with _ | _ | i <;> simp at hi hi' <;> subst hi <;> subst hi'
        · exact A.ok _ _ _ h1 (fun c hc => hg c (by simp [hc]))
        · exact B.ok _ _ _ h2 (fun c hc => hg c (by simp [hc]))
  · cases h
/-- two arguments -/
def Dec.two {α β : Type} (A : Cdc α) (B : Cdc β) (ha : ∀ x, okArg 0 (A.enc x) = true) (hb : ∀ x, okArg 0 (B.enc x) = true) : Dec (α × β) :=
  ⟨dec2 A B, fun p => [A.enc p.1, B.enc p.2], dec2_ok A B, fun y a ha' => by
    simp at ha'
    rcases ha' with rfl | rfl
    · exact ha _
    · exact hb _⟩
def dec1 {α : Type} (A : Cdc α) : List AV → Option (α × List Bool)
  | [a] => A.dec a
  | _ => none
theorem dec1_ok {α : Type} (A : Cdc α) : ∀ args y g, dec1 A args = some (y, g) → (∀ c ∈ g, c = true) → [A.enc y].length = args.length ∧ ∀ (i : Nat) (a a0 : AV), args[i]? = some a → [A.enc y][i]? = some a0 → Fits a a0 := fun args y g h hg => by
  unfold dec1 at h
  split at h
  · refine ⟨rfl, fun i a1 a0 hi hi' => ?_⟩
    rcases i with _ | i <;> simp at hi hi'
    subst hi; subst hi'
    exact A.ok _ _ _ h hg
  · cases h
def Dec.one {α : Type} (A : Cdc α) (ha : ∀ x, okArg 0 (A.enc x) = true) : Dec α :=
  ⟨dec1 A, fun p => [A.enc p], dec1_ok A, fun y a ha' => by
    simp at ha'
    subst ha'
    exact ha _⟩
def dec0 : List AV → Option (Unit × List Bool)
  | [] => some ((), [])
  | _ => none
def Dec.nil : Dec Unit :=
  ⟨dec0, fun _ => [], fun args y g h hg => by
    unfold dec0 at h
    split at h
    · exact ⟨rfl, fun i a1 a0 hi hi' => by simp at hi⟩
    · exact absurd h (by simp), fun y a ha' => by simp at ha'⟩
end Go.Flat
end

section
/- Contracts: Push. -/
set_option linter.unusedSimpArgs false
set_option linter.unusedVariables false
namespace Go.Flat
open Go

/-- a body behind an impulse -/
def pushV (b : Body) (j : Vec) : Vec := vLimit (vAdd [b.V, vScale j b.Wt.M]) 256
def pushW (b : Body) (x j : Vec) : Num := nLimit (nAdd b.W (nMul b.Wt.I (vCross (bArm b x) j))) 64
def sPush (b : Body) (x j : Vec) : Body := bif moves b then (bif b.Fault then b else { b with V := pushV b j, W := pushW b x j, Still := bif b.Asleep then 0 else b.Still, Asleep := false }) else b

def t_push : List Ent := [e_Moves, e_arm, e_PCross, e_Mul, e_PScale, e_PAdd, e_limitV, e_Add, e_limitN]
theorem ok_push : ∀ e ∈ t_push, e.ok N.P := all_cons o_Moves (all_cons o_arm (all_cons o_PCross (all_cons o_Mul (all_cons o_PScale (all_cons o_PAdd (all_cons o_limitV (all_cons o_Add (all_cons o_limitN all_nil))))))))
noncomputable abbrev Cpush : Ctx := ctxN N.P t_push [] h0 fun _ _ => []
theorem push_tree (b : Body) (x j : Vec) : runP Cpush 30 N.solver_worked_push 27 rBody b [x.av, j.av] =
    gd (okS b.Shp.Pts) (.node (!moves b) (gd (okS b.Shp.Pts) (.leaf b)) (.node b.Fault (gd (okS b.Shp.Pts) (.leaf b)) (gd (okS b.Shp.Pts) (.node b.Asleep
      (gd (okS b.Shp.Pts) (.node (moves b) (.node (!b.Fault) (gd (okS b.Shp.Pts) (.leaf { b with V := pushV b j, W := pushW b x j, Still := 0, Asleep := false }))
        (gd (okS b.Shp.Pts) (.leaf { b with V := pushV b j, W := pushW b x j }))) (gd (okS b.Shp.Pts) (.leaf { b with V := pushV b j, W := pushW b x j }))))
      (gd (okS b.Shp.Pts) (.leaf { b with V := pushV b j, W := pushW b x j })))))) := by kernel_rfl
theorem body_cells (b : Body) : (rBody.cells b).all (fun c => c.leaf && noLoc c) = true := rfl
theorem vec_arg (x : Vec) : okArg 0 (cVec.enc x) = true := rfl
def dVV : Dec (Vec × Vec) := Dec.two cVec cVec vec_arg vec_arg
def m_push : Ment := mentP N.solver_worked_push 27 rBody dVV fun b p => sPush b p.1 p.2
theorem k_push (b : Body) (x j : Vec) : MutOk N.P N.solver_worked_push [.ptr 0 27 0 0, x.av, j.av] [some ⟨.one (rBody.cells b), false⟩] (.tup []) [some ⟨.one (rBody.cells (sPush b x j)), false⟩] := by
  refine mut_of_runP (P := N.P) (f := N.solver_worked_push) (esz := 27) (r := rBody) (x := b) (y := sPush b x j) (args := [x.av, j.av]) (t := t_push) (m := []) (hints := h0) (nils := fun _ _ => []) ok_push mall_nil named mixed 30 ?_
  show (runP Cpush 30 N.solver_worked_push 27 rBody b [x.av, j.av]).holds _
  rw [push_tree, okS_true]
  refine holds_gd rfl ⟨fun h => holds_gd rfl ?_, fun h => ⟨fun h1 => holds_gd rfl ?_, fun h1 => holds_gd rfl ⟨fun h2 => holds_gd rfl ⟨fun h3 => ⟨fun h4 => holds_gd rfl ?_, fun h4 => ?_⟩, fun h3 => ?_⟩, fun h2 => holds_gd rfl ?_⟩⟩⟩
  · show _ = _
    unfold sPush; simp only [Bool.not_eq_true'] at h; rw [h]; rfl
  · show _ = _
    unfold sPush; simp only [Bool.not_eq_false'] at h; rw [h, h1]; rfl
  · show _ = _
    unfold sPush; rw [h3, h1, h2]; rfl
  · rw [h1] at h4; cases h4
  · rw [h3] at h; cases h
  · show _ = _
    simp only [Bool.not_eq_false'] at h
    unfold sPush; rw [h, h1, h2]
    obtain ⟨s, p, v, w, wt, st, asl, fa, ver⟩ := b
    simp only at h2
    subst h2
    rfl
theorem mo_push : m_push.ok N.P := by
  have hc : Callable N.P N.solver_worked_push := callB_ok (by kernel_rfl)
  have key : ∀ (b : Body) (p : Vec × Vec), MutOk N.P N.solver_worked_push (.ptr 0 27 0 0 :: dVV.enc p) [some ⟨.one (rBody.cells b), false⟩] (.tup []) [some ⟨.one (rBody.cells (sPush b p.1 p.2)), false⟩] := fun b p => k_push b p.1 p.2
  exact mentP_ok (f := N.solver_worked_push) (esz := 27) (r := rBody) (D := dVV) (spec := fun b p => sPush b p.1 p.2) body_cells hc key
end Go.Flat
end

section
/- Contracts: Push; the chapter's examples that every statement asks. -/
set_option linter.unusedSimpArgs false
set_option linter.unusedVariables false
namespace Go.Flat
open Go

theorem con_tyNG {P : Program} {α : Type} {t : List Ent} {m : List Ment} {hints : Hints} {nils : FuncId → Nat → List (Nat × Nat × Nat)} (ht : ∀ e ∈ t, e.ok P) (hm : ∀ e ∈ m, e.ok P) (hN : Named P) (hM : P.follows .mixedOrders = true) {f : FuncId} (hc : callB P f = true) {args : List AV} {c : Cdc α} {x : α} (hr : locsBelow 0 (c.enc x) = true) (n : Nat) (tr : Tree α)
    (h : runT (ctxN P t m hints nils) n f args c = tr) (h2 : (∀ a ∈ args, Sat a) → tr.holds (· = x)) : Con P f args (c.enc x) :=
  con_of_runN ht hm hN hM hc hr fun hs => ⟨n, runT_holds (c := c) (by rw [h]; exact h2 hs)⟩
theorem con_tyN {α : Type} {t : List Ent} {m : List Ment} {hints : Hints} {nils : FuncId → Nat → List (Nat × Nat × Nat)} (ht : ∀ e ∈ t, e.ok N.P) (hm : ∀ e ∈ m, e.ok N.P) {f : FuncId} (hc : callB N.P f = true) {args : List AV} {c : Cdc α} {x : α} (hr : locsBelow 0 (c.enc x) = true) (n : Nat) (tr : Tree α)
    (h : runT (ctxN N.P t m hints nils) n f args c = tr) (h2 : (∀ a ∈ args, Sat a) → tr.holds (· = x)) : Con N.P f args (c.enc x) :=
  con_tyNG ht hm named mixed hc hr n tr h h2
abbrev nn : FuncId → Nat → List (Nat × Nat × Nat) := fun _ _ => []
theorem c_Push (b : Body) (x j : Vec) (hb : b.small = true) : Con N.P N.solver_Push [b.av, x.av, j.av] (sPush b x j).av :=
  con_tyN (c := rBody.agg) (t := [e_Copy]) (m := [m_push]) (hints := h0) (nils := nn) (all_cons o_Copy all_nil) (mall_cons mo_push mall_nil) (by kernel_rfl) rfl 30
    (gd b.small (gd (okS b.Shp.Pts) (gd (okS b.Shp.Pts) (gd (okS (sPush b x j).Shp.Pts) (.leaf (sPush b x j)))))) (by kernel_rfl) fun hs => by
    rw [okS_true, okS_true]
    exact holds_gd hb (holds_gd rfl (holds_gd rfl (holds_gd rfl rfl)))
def e_Push : Ent := entC3 N.solver_Push rBody.agg cVec cVec (fun b _ _ => b.small) fun b x j => (sPush b x j).av
theorem o_Push : e_Push.ok N.P := entC3_ok c_Push

def one : Num := ⟨4294967296, false⟩
theorem c_one : Con N.P N.law05_one [] one.av :=
  con_ty (c := cNum) (t := []) (hints := h0) all_nil (by kernel_rfl) rfl 30 (.leaf one) (by kernel_rfl) fun _ => rfl
def e_one : Ent := ent0 N.law05_one one.av
theorem o_one : e_one.ok N.P := ent0_ok c_one
def noSpots : Sl Spot := ⟨0, fun _ => ⟨0, 0⟩⟩
def zNum : Num := ⟨0, false⟩
def zV : Vec := ⟨zNum, zNum⟩
def sRound (x : Int) (w : Weight) : Body := ⟨⟨1, 256, 0, 0, noSpots⟩, ⟨⟨⟨x, false⟩, zNum⟩, ⟨one, zNum⟩⟩, zV, zNum, w, 0, false, false, 1⟩
theorem c_round (x : Int) (w : Weight) : Con N.P N.law05_round [li x, w.av] (sRound x w).av :=
  con_ty (c := rBody.agg) (t := [e_one]) (hints := h0) (all_cons o_one all_nil) (by kernel_rfl) rfl 30 (.leaf (sRound x w)) (by kernel_rfl) fun _ => rfl
def e_round : Ent := ent2 N.law05_round (cInt .i64) rWeight.agg fun x w => (sRound x w).av
theorem o_round : e_round.ok N.P := ent2_ok c_round

def j4 : Joint := ⟨4, 0, 0, zV, zV, zNum⟩
def isJ4 (n : Int) (j : Joint) : Bool := decide (n = 1) && decide (j = j4)
def kAgg (j : AV) : AV := j
theorem fits_ki {k : IntKind} {n : Int} : Fits (.lit (.int k n)) (.ki k n) := fun R ρ w v hv => by
  cases hv with
  | lit h => exact .ki h
theorem fits_kb {b : Bool} : Fits (.lit (.bool b)) (.kb b) := fun R ρ w v hv => by
  cases hv with
  | lit h => exact .kb
def j4k : List AV := [.ki .i64 4, .ki .i64 0, .ki .i64 0, .ki .i64 0, .kb false, .ki .i64 0, .kb false, .ki .i64 0, .kb false, .ki .i64 0, .kb false, .ki .i64 0, .kb false]
theorem c_Check4 (n : Int) (j : Joint) (h : isJ4 n j = true) : Con N.P N.solver_CheckJoint [li n, j.av] (.ki .i64 8) := by
  simp only [isJ4, Bool.and_eq_true, decide_eq_true_eq] at h
  obtain ⟨rfl, rfl⟩ := h
  have h2 : Con N.P N.solver_CheckJoint [.ki .i64 1, .agg j4k] (.ki .i64 8) := con_of_one (t := []) (hints := h0) all_nil (by kernel_rfl) rfl 30 (by kernel_rfl)
  refine Con.args (args' := [.ki .i64 1, .agg j4k]) rfl (fun i a a' hi hi' => ?_) h2
  rcases i with _ | _ | i <;> simp at hi hi' <;> subst hi <;> subst hi'
  · exact fits_ki
  · have f : ∀ {k : IntKind} {n : Int}, Fits (.lit (.int k n)) (.ki k n) := fits_ki
    exact Fits.agg (.cons f rfl rfl (.cons f rfl rfl (.cons f rfl rfl (.cons f rfl rfl (.cons fits_kb rfl rfl (.cons f rfl rfl (.cons fits_kb rfl rfl (.cons f rfl rfl (.cons fits_kb rfl rfl (.cons f rfl rfl (.cons fits_kb rfl rfl (.cons f rfl rfl (.cons fits_kb rfl rfl .nil)))))))))))))
def e_Check4 : Ent := entC2 N.solver_CheckJoint (cInt .i64) rJoint.agg isJ4 fun _ _ => .ki .i64 8
theorem o_Check4 : e_Check4.ok N.P := entC2_ok c_Check4
end Go.Flat
end

section
/- Contracts: the chapter's examples. -/
set_option linter.unusedSimpArgs false
set_option linter.unusedVariables false
namespace Go.Flat
open Go

def t_awake : List Ent := [e_Push, e_round, e_one, e_Check4]
theorem ok_awake : ∀ e ∈ t_awake, e.ok N.P := all_cons o_Push (all_cons o_round (all_cons o_one (all_cons o_Check4 all_nil)))
def aw1 : Body := sPush (sRound 0 ⟨one, one⟩) ⟨zNum, one⟩ ⟨one, zNum⟩
theorem c_awake : Con N.P N.law05_awake [] (lb true) :=
  con_tyN (c := cBool) (t := t_awake) (m := []) (hints := h0) (nils := nn) ok_awake mall_nil (by kernel_rfl) rfl 30
    (gd (sRound 0 ⟨one, one⟩).small (gd (okS noSpots) (.node (vecEq aw1.V ⟨one, zNum⟩) (.node (numEq aw1.W ⟨-4294967296, false⟩) (gd (isJ4 1 j4) (.leaf true)) (.leaf false)) (.leaf false)))) (by kernel_rfl) fun _ =>
    holds_gd (by kernel_rfl) (holds_gd (okS_true _) (holds_yes (by kernel_rfl) (holds_yes (by kernel_rfl) (holds_gd (by kernel_rfl) rfl))))
def e_awake : Ent := ent0 N.law05_awake (lb true)
theorem o_awake : e_awake.ok N.P := ent0_ok c_awake

def okB (l : Sl Body) : Bool := allN l.len fun i => okRow rBody (rBody.cells (l.at' i))
def lst1 (a : Body) : Sl Body := ⟨1, fun i => [a].getD i rBody.d⟩
def lst2 (a b : Body) : Sl Body := ⟨2, fun i => [a, b].getD i rBody.d⟩
end Go.Flat
end

section
/- Small helpers, and contracts by trees. -/
set_option linter.unusedSimpArgs false
set_option linter.unusedVariables false
namespace Go.Flat
open Go

/-- a part of a tree -/
def Tree.l {α : Type} : Tree α → Tree α
  | .node _ t _ => t
  | t => t
def Tree.r {α : Type} : Tree α → Tree α
  | .node _ _ e => e
  | t => t

theorem okB_true (l : Sl Body) : okB l = true := law_body.all _ _
theorem light_small {b : Body} (h : isLight b = true) : b.small = true := by
  have := Nat.le_of_ble_eq_true h
  unfold Body.small smallN
  exact Nat.ble_eq_true_of_le (by omega)

theorem con_treeNG {P : Program} {t : List Ent} {m : List Ment} {hints : Hints} {nils : FuncId → Nat → List (Nat × Nat × Nat)} (ht : ∀ e ∈ t, e.ok P) (hm : ∀ e ∈ m, e.ok P) (hN : Named P) (hM : P.follows .mixedOrders = true) {f : FuncId} (hc : callB P f = true) {args : List AV} {r : AV} (hr : locsBelow 0 r = true) (n : Nat) (tr : Tree AV)
    (h : runF (ctxN P t m hints nils) n f args = tr) (h2 : (∀ a ∈ args, Sat a) → tr.holds fun x => Fits x r) : Con P f args r :=
  con_of_runN ht hm hN hM hc hr fun hs => ⟨n, by rw [h]; exact h2 hs⟩
theorem con_treeN {t : List Ent} {m : List Ment} {hints : Hints} {nils : FuncId → Nat → List (Nat × Nat × Nat)} (ht : ∀ e ∈ t, e.ok N.P) (hm : ∀ e ∈ m, e.ok N.P) {f : FuncId} (hc : callB N.P f = true) {args : List AV} {r : AV} (hr : locsBelow 0 r = true) (n : Nat) (tr : Tree AV)
    (h : runF (ctxN N.P t m hints nils) n f args = tr) (h2 : (∀ a ∈ args, Sat a) → tr.holds fun x => Fits x r) : Con N.P f args r :=
  con_treeNG ht hm named mixed hc hr n tr h h2
end Go.Flat
end

section
/- Contracts of the reference's numbers: sums, products, the greatest and the least. -/
set_option linter.unusedSimpArgs false
set_option linter.unusedVariables false
namespace Go.Flat
open Go

theorem c_rAddN (a b : Num) : Con N.P N.ref01_Add [a.av, b.av] (nAdd a b).av :=
  con_of_one (t := [e_rSum]) (hints := h0) (all_cons o_rSum all_nil) (by kernel_rfl) rfl 30 (by kernel_rfl)
def e_rAddN : Ent := ent2 N.ref01_Add cNum cNum fun a b => (nAdd a b).av
theorem o_rAddN : e_rAddN.ok N.P := ent2_ok c_rAddN
theorem c_rNeg (a : Num) : Con N.P N.ref01_Neg [a.av] (nNeg a).av :=
  con_of_tree (t := [e_rWhole]) (hints := h0) (all_cons o_rWhole all_nil) (by kernel_rfl) rfl 60
    (.leaf (.agg [li (i64 (0 - sv a)), lb (sf a)])) (by kernel_rfl) fun hs => by
    have := sv_range ((hs _ List.mem_cons_self).cells _ List.mem_cons_self)
    refine fits_num rfl rfl ?_ rfl
    simp only [nNeg, i64, IntKind.wrap_i64]; omega
def e_rNeg : Ent := ent1 N.ref01_Neg cNum fun a => (nNeg a).av
theorem o_rNeg : e_rNeg.ok N.P := ent1_ok c_rNeg
theorem c_rSub (a b : Num) : Con N.P N.ref01_Sub [a.av, b.av] (nSub a b).av :=
  con_of_one (t := [e_rNeg, e_rSum]) (hints := h0) (all_cons o_rNeg (all_cons o_rSum all_nil)) (by kernel_rfl) rfl 30 (by kernel_rfl)
def e_rSub : Ent := ent2 N.ref01_Sub cNum cNum fun a b => (nSub a b).av
theorem o_rSub : e_rSub.ok N.P := ent2_ok c_rSub

/-- a product with a sign that is never that of a zero -/
def rMul (a b : Int) : Wd := { wMul a b with neg := bif (!decide (a < 0) == decide (b < 0)) then (bif a != 0 then b != 0 else false) else false }
theorem rMul_valid {a b : Int} (ha : -9223372036854775808 ≤ a ∧ a ≤ 9223372036854775807) (hb : -9223372036854775808 ≤ b ∧ b ≤ 9223372036854775807) :
    (rMul a b).valid ∧ (rMul a b).v = a * b ∧ (rMul a b).m ≤ 85070591730234615865843651857942052864 := by
  obtain ⟨k1, k2, k3⟩ := wMul_valid ha hb
  refine ⟨k1, ?_, k3⟩
  by_cases h0 : a = 0
  · subst h0
    have e : (rMul 0 b) = ⟨false, 0, 0⟩ := by
      unfold rMul wMul wOf
      cases (!decide ((0 : Int) < 0) == decide (b < 0)) <;> simp
    rw [e, Int.zero_mul]; rfl
  · by_cases h1 : b = 0
    · subst h1
      have e : (rMul a 0) = ⟨false, 0, 0⟩ := by
        unfold rMul wMul wOf
        cases (!decide (a < 0) == decide ((0 : Int) < 0)) <;> simp
      rw [e, Int.mul_zero]; rfl
    · have e : (rMul a b) = wMul a b := by
        unfold rMul
        have e1 : (a != 0) = true := by simpa using h0
        have e2 : (b != 0) = true := by simpa using h1
        rw [e1, e2]
        unfold wMul wOf
        simp only [cond_true]
        cases decide (a < 0) <;> cases decide (b < 0) <;> rfl
      rw [e, k2]
theorem c_rTimes (a b : Int) : Con N.P N.ref01_times [li a, li b] (rMul a b).avR :=
  con_of_tree (t := [e_rSize, e_Mul64]) (hints := h0) (all_cons o_rSize (all_cons o_Mul64 all_nil)) (by kernel_rfl) rfl 60
    (.node (!decide (a < 0) == decide (b < 0)) (.node (a != 0) (.leaf (.agg [lb (b != 0), lu (wMul a b).hi, lu (wMul a b).lo])) (.leaf (.agg [.kb false, lu (wMul a b).hi, lu (wMul a b).lo])))
      (.leaf (.agg [.kb false, lu (wMul a b).hi, lu (wMul a b).lo]))) (by kernel_rfl) fun _ => by
    unfold rMul
    refine ⟨fun h => ⟨fun h1 => ?_, fun h1 => ?_⟩, fun h => ?_⟩
    · rw [h, h1]; exact Fits.refl _
    · rw [h, h1]; exact Fits.agg (.cons Fits.kb rfl rfl (FitsL.refl_of rfl))
    · rw [h]; exact Fits.agg (.cons Fits.kb rfl rfl (FitsL.refl_of rfl))
def e_rTimes : Ent := ent2 N.ref01_times (cInt .i64) (cInt .i64) fun a b => (rMul a b).avR
theorem o_rTimes : e_rTimes.ok N.P := ent2_ok c_rTimes
theorem c_rDown (x : Wd) : Con N.P N.ref01_down [x.avR] (wDown x).avR :=
  con_of_one (t := []) (hints := h0) all_nil (by kernel_rfl) rfl 60 (by kernel_rfl)
def e_rDown : Ent := ent1 N.ref01_down cWdR fun x => (wDown x).avR
theorem o_rDown : e_rDown.ok N.P := ent1_ok c_rDown

theorem c_rMul (a b : Num) : Con N.P N.ref01_Mul [a.av, b.av] (nMul a b).av :=
  Con.sat (by kernel_rfl) fun hs => by
    have ha := sv_bound a (sat_num (hs _ List.mem_cons_self))
    have hb := sv_bound b (sat_num (hs _ (List.mem_cons_of_mem _ List.mem_cons_self)))
    obtain ⟨k1, k2, _⟩ := rMul_valid (a := sv a) (b := sv b) (by omega) (by omega)
    obtain ⟨j1, j2⟩ := wDown_valid k1
    have e : ∀ f, wFit (wDown (rMul (sv a) (sv b))) f = nFit ((sv a * sv b).tdiv B32) f := fun f => by
      rw [wFit_eq j1, j2, k2]; rfl
    exact con_ty (c := cNum) (t := [e_rWhole, e_rTimes, e_rDown, e_rFit]) (hints := h0) (all_cons o_rWhole (all_cons o_rTimes (all_cons o_rDown (all_cons o_rFit all_nil)))) (by kernel_rfl) rfl 40
      (.node (sf a) (.leaf (wFit (wDown (rMul (sv a) (sv b))) true)) (.leaf (wFit (wDown (rMul (sv a) (sv b))) (sf b)))) (by kernel_rfl) fun _ => by
        refine ⟨fun h => ?_, fun h => ?_⟩ <;> show _ = _ <;> rw [e] <;> unfold nMul <;> rw [h] <;> rfl
def e_rMul : Ent := ent2 N.ref01_Mul cNum cNum fun a b => (nMul a b).av
theorem o_rMul : e_rMul.ok N.P := ent2_ok c_rMul
theorem c_rDot (a b c d : Num) : Con N.P N.ref01_Dot [a.av, b.av, c.av, d.av] (nDot a b c d).av :=
  Con.sat (by kernel_rfl) fun hs => by
    have ha := sv_bound a (sat_num (hs _ List.mem_cons_self))
    have hb := sv_bound b (sat_num (hs _ (by simp)))
    have hc := sv_bound c (sat_num (hs _ (by simp)))
    have hd := sv_bound d (sat_num (hs _ (by simp)))
    obtain ⟨k1, k2, k3⟩ := rMul_valid (a := sv a) (b := sv b) (by omega) (by omega)
    obtain ⟨l1, l2, l3⟩ := rMul_valid (a := sv c) (b := sv d) (by omega) (by omega)
    obtain ⟨m1, m2, m3⟩ := rPlus_valid k1 l1 (by omega)
    obtain ⟨j1, j2⟩ := wDown_valid m1
    have e : ∀ f, wFit (wDown (rPlus (rMul (sv a) (sv b)) (rMul (sv c) (sv d)))) f = nFit ((sv a * sv b + sv c * sv d).tdiv B32) f := fun f => by
      rw [wFit_eq j1, j2, m2, k2, l2]; rfl
    exact con_ty (c := cNum) (t := [e_rWhole, e_rTimes, e_rDown, e_rFit, e_rPlus]) (hints := h0) (all_cons o_rWhole (all_cons o_rTimes (all_cons o_rDown (all_cons o_rFit (all_cons o_rPlus all_nil))))) (by kernel_rfl) rfl 40
      (.node (sf a) (.leaf (wFit (wDown (rPlus (rMul (sv a) (sv b)) (rMul (sv c) (sv d)))) true)) (.node (sf b) (.leaf (wFit (wDown (rPlus (rMul (sv a) (sv b)) (rMul (sv c) (sv d)))) true))
        (.node (sf c) (.leaf (wFit (wDown (rPlus (rMul (sv a) (sv b)) (rMul (sv c) (sv d)))) true)) (.leaf (wFit (wDown (rPlus (rMul (sv a) (sv b)) (rMul (sv c) (sv d)))) (sf d)))))) (by kernel_rfl) fun _ => by
        refine ⟨fun h => ?_, fun h => ⟨fun h2 => ?_, fun h2 => ⟨fun h3 => ?_, fun h3 => ?_⟩⟩⟩ <;> show _ = _ <;> rw [e] <;> unfold nDot
        · rw [h]; rfl
        · rw [h, h2]; rfl
        · rw [h, h2, h3]; rfl
        · rw [h, h2, h3]; rfl
def e_rDot : Ent := ent4 N.ref01_Dot cNum cNum cNum cNum fun a b c d => (nDot a b c d).av
theorem o_rDot : e_rDot.ok N.P := ent4_ok c_rDot
theorem c_rInt (n : Int) : Con N.P N.ref01_Int [li n] (nInt n).av :=
  Con.sat (by kernel_rfl) fun hs => by
    have hn := i64_range (hs _ List.mem_cons_self)
    obtain ⟨k1, k2, k3⟩ := wOf_valid (v := n) (by omega) (by omega)
    obtain ⟨j1, j2, _⟩ := wUp_valid k1 (by omega)
    have e : nInt n = wFit (wUp (wOf n)) false := by
      rw [wFit_eq j1, j2, k2]; rfl
    rw [e]
    exact con_of_one (t := [e_rExact, e_rUp, e_rFit]) (hints := h0) (all_cons o_rExact (all_cons o_rUp (all_cons o_rFit all_nil))) (by kernel_rfl) rfl 40 (by kernel_rfl)
def e_rInt : Ent := ent1 N.ref01_Int (cInt .i64) fun n => (nInt n).av
theorem o_rInt : e_rInt.ok N.P := ent1_ok c_rInt

/-- how two numbers compare; without its sign -/
def nCmp (a b : Num) : Int := sCmp (sv a) (sv b)
theorem c_Cmp (a b : Num) : Con N.P N.fixed_Cmp [a.av, b.av] (li (nCmp a b)) :=
  con_of_one (t := [e_sound, e_Cmp_i]) (hints := h0) (all_cons o_sound (all_cons o_Cmp_i all_nil)) (by kernel_rfl) rfl 40 (by kernel_rfl)
def e_Cmp : Ent := ent2 N.fixed_Cmp cNum cNum fun a b => li (nCmp a b)
theorem o_Cmp : e_Cmp.ok N.P := ent2_ok c_Cmp
theorem c_rCmp (a b : Num) : Con N.P N.ref01_Cmp [a.av, b.av] (li (nCmp a b)) :=
  con_ty (c := cInt .i64) (t := [e_rWhole]) (hints := h0) (all_cons o_rWhole all_nil) (by kernel_rfl) rfl 40
    (.node (decide (sv a < sv b)) (.leaf (-1)) (.node (decide (sv a > sv b)) (.leaf 1) (.leaf 0))) (by kernel_rfl) fun _ => by
    refine ⟨fun h => ?_, fun h => ⟨fun h2 => ?_, fun h2 => ?_⟩⟩ <;> show _ = _ <;> unfold nCmp sCmp
    · rw [h]; rfl
    · rw [h, h2]; rfl
    · rw [h, h2]; rfl
def e_rCmp : Ent := ent2 N.ref01_Cmp cNum cNum fun a b => li (nCmp a b)
theorem o_rCmp : e_rCmp.ok N.P := ent2_ok c_rCmp
def nAbs (a : Num) : Num := ⟨if sv a < 0 then -(sv a) else sv a, sf a⟩
theorem c_Abs (a : Num) : Con N.P N.fixed_Abs [a.av] (nAbs a).av :=
  con_ty (c := cNum) (t := [e_sound, e_Neg]) (hints := h0) (all_cons o_sound (all_cons o_Neg all_nil)) (by kernel_rfl) rfl 40
    (.leaf ⟨if i64 (0 - sv a) > sv a then i64 (0 - sv a) else sv a, sf a⟩) (by kernel_rfl) fun hs => by
    have := sv_range ((hs _ List.mem_cons_self).cells _ List.mem_cons_self)
    show _ = _
    have e : i64 (0 - sv a) = -(sv a) := by simp only [i64, IntKind.wrap_i64]; omega
    unfold nAbs
    rw [e]
    by_cases h : sv a < 0
    · rw [if_pos h, if_pos (by omega)]
    · rw [if_neg h]
      by_cases h2 : -(sv a) > sv a
      · exact absurd h2 (by omega)
      · rw [if_neg h2]
def e_Abs : Ent := ent1 N.fixed_Abs cNum fun a => (nAbs a).av
theorem o_Abs : e_Abs.ok N.P := ent1_ok c_Abs
theorem c_rAbs (a : Num) : Con N.P N.ref01_Abs [a.av] (nAbs a).av :=
  con_ty (c := cNum) (t := [e_rWhole]) (hints := h0) (all_cons o_rWhole all_nil) (by kernel_rfl) rfl 40
    (.node (decide (sv a < 0)) (.leaf ⟨i64 (0 - sv a), sf a⟩) (.leaf ⟨sv a, sf a⟩)) (by kernel_rfl) fun hs => by
    have := sv_range ((hs _ List.mem_cons_self).cells _ List.mem_cons_self)
    have e : i64 (0 - sv a) = -(sv a) := by simp only [i64, IntKind.wrap_i64]; omega
    refine ⟨fun h => ?_, fun h => ?_⟩ <;> show _ = _ <;> unfold nAbs
    · rw [if_pos (of_decide_eq_true h), e]
    · rw [if_neg (of_decide_eq_false h)]
def e_rAbs : Ent := ent1 N.ref01_Abs cNum fun a => (nAbs a).av
theorem o_rAbs : e_rAbs.ok N.P := ent1_ok c_rAbs

/-! the greatest and the least: the list, the result's place, the number so far, the counter -/
def hMx : Hints := fun _ _ => some ([0, 2, 3, 5], 1)
def t_mx : List Ent := [e_rWhole, e_rFlagged]
theorem ok_mx : ∀ e ∈ t_mx, e.ok N.P := all_cons o_rWhole (all_cons o_rFlagged all_nil)
noncomputable abbrev Cmx : Ctx := ctxOf N.P t_mx hMx
def sMx (l : List Num) (m i : Int) : St := ⟨[(0, rNum.sl l), (2, .ptr 0 2 0 0), (3, li m), (5, li i)], [some ⟨.one [li 0, lb false], false⟩]⟩
theorem rmax_start (a : Num) (r : List Num) (F : Nat) : runF Cmx (F + 7) N.ref01_Max [rNum.sl (a :: r)] = .node (((a :: r).length : Int) == 0) (.leaf (.agg [.ki .i64 0, .kb false]))
    (.node (decide ((0 : Int) ≤ 0) && decide ((0 : Int) < ((a :: r).length : Int))) (loop1 Cmx N.ref01_Max (F + 1) (sMx (a :: r) (sv a) 1) (F + 7)) (.fail 1)) := by kernel_rfl
theorem rmax_step (a : Num) (r : List Num) (m i : Int) (F G : Nat) : loop1 Cmx N.ref01_Max (F + 40) (sMx (a :: r) m i) (G + 7) =
    .node (decide (i < ((a :: r).length : Int))) (.node (decide (0 ≤ i) && decide (i < ((a :: r).length : Int)))
      (.node (decide (sv ((a :: r).getD i.toNat rNum.d) > m)) (loop1 Cmx N.ref01_Max (F + 39) (sMx (a :: r) (sv ((a :: r).getD i.toNat rNum.d)) (i64 (i + 1))) (G + 7))
        (loop1 Cmx N.ref01_Max (F + 39) (sMx (a :: r) m (i64 (i + 1))) (G + 7))) (.fail 1))
      (gd (rNum.okl (a :: r)) (.leaf (.agg [li m, lb ((rNum.dl (a :: r)).any sf)]))) := by kernel_rfl
theorem rmin_start (a : Num) (r : List Num) (F : Nat) : runF Cmx (F + 7) N.ref01_Min [rNum.sl (a :: r)] = .node (((a :: r).length : Int) == 0) (.leaf (.agg [.ki .i64 0, .kb false]))
    (.node (decide ((0 : Int) ≤ 0) && decide ((0 : Int) < ((a :: r).length : Int))) (loop1 Cmx N.ref01_Min (F + 1) (sMx (a :: r) (sv a) 1) (F + 7)) (.fail 1)) := by kernel_rfl
theorem rmin_step (a : Num) (r : List Num) (m i : Int) (F G : Nat) : loop1 Cmx N.ref01_Min (F + 40) (sMx (a :: r) m i) (G + 7) =
    .node (decide (i < ((a :: r).length : Int))) (.node (decide (0 ≤ i) && decide (i < ((a :: r).length : Int)))
      (.node (decide (sv ((a :: r).getD i.toNat rNum.d) < m)) (loop1 Cmx N.ref01_Min (F + 39) (sMx (a :: r) (sv ((a :: r).getD i.toNat rNum.d)) (i64 (i + 1))) (G + 7))
        (loop1 Cmx N.ref01_Min (F + 39) (sMx (a :: r) m (i64 (i + 1))) (G + 7))) (.fail 1))
      (gd (rNum.okl (a :: r)) (.leaf (.agg [li m, lb ((rNum.dl (a :: r)).any sf)]))) := by kernel_rfl
theorem mx_nil : runF Cmx 30 N.ref01_Max [rNum.sl []] = .node ((([] : List Num).length : Int) == 0) (.leaf (.agg [.ki .i64 0, .kb false])) (runF Cmx 30 N.ref01_Max [rNum.sl []]).r := by kernel_rfl
theorem mn_nil : runF Cmx 30 N.ref01_Min [rNum.sl []] = .node ((([] : List Num).length : Int) == 0) (.leaf (.agg [.ki .i64 0, .kb false])) (runF Cmx 30 N.ref01_Min [rNum.sl []]).r := by kernel_rfl
theorem mx_getD (a : Num) (r : List Num) (k : Nat) : (a :: r).getD ((k : Int) + 1).toNat rNum.d = r.getD k rNum.d := by
  have : ((k : Int) + 1).toNat = k + 1 := by omega
  rw [this]; rfl
theorem mx_all (f : FuncId) (hf : callB N.P f = true) (g : Int → Int → Int) (c : Int → Int → Bool) (hg : ∀ m x, g m x = bif c x m then x else m) (a : Num) (r : List Num)
    (hstart : ∀ F, runF Cmx (F + 7) f [rNum.sl (a :: r)] = .node (((a :: r).length : Int) == 0) (.leaf (.agg [.ki .i64 0, .kb false]))
      (.node (decide ((0 : Int) ≤ 0) && decide ((0 : Int) < ((a :: r).length : Int))) (loop1 Cmx f (F + 1) (sMx (a :: r) (sv a) 1) (F + 7)) (.fail 1)))
    (hstep : ∀ m i F G, loop1 Cmx f (F + 40) (sMx (a :: r) m i) (G + 7) = .node (decide (i < ((a :: r).length : Int))) (.node (decide (0 ≤ i) && decide (i < ((a :: r).length : Int)))
      (.node (c (sv ((a :: r).getD i.toNat rNum.d)) m) (loop1 Cmx f (F + 39) (sMx (a :: r) (sv ((a :: r).getD i.toNat rNum.d)) (i64 (i + 1))) (G + 7))
        (loop1 Cmx f (F + 39) (sMx (a :: r) m (i64 (i + 1))) (G + 7))) (.fail 1))
      (gd (rNum.okl (a :: r)) (.leaf (.agg [li m, lb ((rNum.dl (a :: r)).any sf)])))) :
    Con N.P f [rNum.sl (a :: r)] (.agg [li (r.foldl (fun m x => g m (sv x)) (sv a)), lb ((a :: r).any sf)]) :=
  con_of_run (t := t_mx) (hints := hMx) ok_mx named mixed hf rfl fun hs => by
    have hl := (hs _ List.mem_cons_self).len
    have hl2 : ((a :: r).length : Int) = (r.length : Int) + 1 := by simp
    refine loop_all 7 r.length (fun i => sMx (a :: r) ((r.take i).foldl (fun m x => g m (sv x)) (sv a)) ((i : Int) + 1)) (fun _ => True) (fun F h => ?_) trivial (fun i F G h _ hn => ?_) (fun F G _ => ?_)
    · rw [hstart]
      refine ⟨fun h' => ?_, fun _ => ⟨fun _ => h, fun h' => ?_⟩⟩
      · exfalso; have := eq_of_beq h'; omega
      · exfalso; rw [hl2] at h'; simp only [Bool.and_eq_false_iff, decide_eq_false_iff_not] at h'; omega
    · have hn := hn trivial
      show (loop1 Cmx _ _ _ _).holds _
      rw [hstep, mx_getD]
      have e : (r.take (i + 1)).foldl (fun m x => g m (sv x)) (sv a) = g ((r.take i).foldl (fun m x => g m (sv x)) (sv a)) (sv (r.getD i rNum.d)) := by
        rw [take_getD rNum.d h, List.foldl_append]; rfl
      have e2 : i64 ((i : Int) + 1 + 1) = ((i + 1 : Nat) : Int) + 1 := by
        have : (a :: r).length ≤ maxLen := hl
        unfold maxLen at this
        simp at this
        simp only [i64, IntKind.wrap_i64]; omega
      rw [e2]
      rw [e, hg] at hn
      refine ⟨fun h' => ⟨fun _ => ⟨fun h3 => ?_, fun h3 => ?_⟩, fun h2 => ?_⟩, fun h' => ?_⟩
      · rw [h3] at hn; exact hn
      · rw [h3] at hn; exact hn
      · exfalso; rw [hl2] at h2; simp only [Bool.and_eq_false_iff, decide_eq_false_iff_not] at h2; omega
      · exfalso; rw [hl2] at h'; simp only [decide_eq_false_iff_not] at h'; omega
    · show (loop1 Cmx _ _ _ _).holds _
      rw [hstep, (dl_num _).1, (dl_num _).2, List.take_length]
      refine ⟨fun h' => ?_, fun h' => holds_gd rfl (Fits.refl _)⟩
      exfalso; rw [hl2] at h'; simp only [decide_eq_true_eq] at h'; omega
theorem c_rMax (l : List Num) (hl : l.length < 4096) : Con N.P N.ref01_Max [rNum.sl l] (nMax l).av := by
  cases l with
  | nil =>
    have h := con_treeN (t := t_mx) (m := []) (hints := hMx) (nils := nn) ok_mx mall_nil (f := N.ref01_Max) (by kernel_rfl) (args := [rNum.sl []]) (r := (nMax []).av) rfl 30 _ mx_nil fun _ =>
      ⟨fun _ => Fits.agg (.cons Fits.ki rfl rfl (.cons Fits.kb rfl rfl .nil)), fun h => by simp at h⟩
    exact h
  | cons a r => exact mx_all N.ref01_Max (by kernel_rfl) max (fun x m => decide (x > m)) (fun m x => by by_cases h : x > m <;> simp [h] <;> omega) a r (rmax_start a r) (fun m i F G => rmax_step a r m i F G)
theorem c_rMin (l : List Num) (hl : l.length < 4096) : Con N.P N.ref01_Min [rNum.sl l] (nMin l).av := by
  cases l with
  | nil =>
    have h := con_treeN (t := t_mx) (m := []) (hints := hMx) (nils := nn) ok_mx mall_nil (f := N.ref01_Min) (by kernel_rfl) (args := [rNum.sl []]) (r := (nMin []).av) rfl 30 _ mn_nil fun _ =>
      ⟨fun _ => Fits.agg (.cons Fits.ki rfl rfl (.cons Fits.kb rfl rfl .nil)), fun h => by simp at h⟩
    exact h
  | cons a r => exact mx_all N.ref01_Min (by kernel_rfl) min (fun x m => decide (x < m)) (fun m x => by by_cases h : x < m <;> simp [h] <;> omega) a r (rmin_start a r) (fun m i F G => rmin_step a r m i F G)
def e_rMax : Ent := entL N.ref01_Max rNum fun l => (nMax l).av
theorem o_rMax : e_rMax.ok N.P := entL_ok c_rMax
def e_rMin : Ent := entL N.ref01_Min rNum fun l => (nMin l).av
theorem o_rMin : e_rMin.ok N.P := entL_ok c_rMin
theorem c_rClamp (x a b : Num) : Con N.P N.ref01_Clamp [x.av, a.av, b.av] (nClamp x a b).av :=
  con_of_one (t := [e_rMax, e_rMin]) (hints := h0) (all_cons o_rMax (all_cons o_rMin all_nil)) (by kernel_rfl) rfl 30 (by kernel_rfl)
def e_rClamp : Ent := ent3 N.ref01_Clamp cNum cNum cNum fun x a b => (nClamp x a b).av
theorem o_rClamp : e_rClamp.ok N.P := ent3_ok c_rClamp
end Go.Flat
end

section
/- Contracts: vectors on both sides; speeds and hefts. -/
set_option linter.unusedSimpArgs false
set_option linter.unusedVariables false
namespace Go.Flat
open Go

def vDot (a b : Vec) : Num := nDot a.X b.X a.Y b.Y
def nSound1 (a : Num) : Num := nSum [a]
def vPerp (v : Vec) : Vec := ⟨nNeg v.Y, nSum [v.X]⟩
def vTurn (k : Num) (v : Vec) : Vec := vScale (vPerp v) k
theorem c_PDot (a b : Vec) : Con N.P N.plane_Dot [a.av, b.av] (vDot a b).av :=
  con_of_one (t := [e_Dot]) (hints := h0) (all_cons o_Dot all_nil) (by kernel_rfl) rfl 30 (by kernel_rfl)
def e_PDot : Ent := ent2 N.plane_Dot cVec cVec fun a b => (vDot a b).av
theorem o_PDot : e_PDot.ok N.P := ent2_ok c_PDot
theorem c_PPerp (a : Vec) : Con N.P N.plane_Perp [a.av] (vPerp a).av :=
  con_of_one (t := [e_Neg, e_SumN]) (hints := h0) (all_cons o_Neg (all_cons o_SumN all_nil)) (by kernel_rfl) rfl 30 (by kernel_rfl)
def e_PPerp : Ent := ent1 N.plane_Perp cVec fun a => (vPerp a).av
theorem o_PPerp : e_PPerp.ok N.P := ent1_ok c_PPerp
theorem c_PTurn (k : Num) (a : Vec) : Con N.P N.plane_Turn [k.av, a.av] (vTurn k a).av :=
  con_of_one (t := [e_PPerp, e_PScale]) (hints := h0) (all_cons o_PPerp (all_cons o_PScale all_nil)) (by kernel_rfl) rfl 30 (by kernel_rfl)
def e_PTurn : Ent := ent2 N.plane_Turn cNum cVec fun k a => (vTurn k a).av
theorem o_PTurn : e_PTurn.ok N.P := ent2_ok c_PTurn

theorem c_rVSub (a b : Vec) : Con N.P N.ref02_Sub [a.av, b.av] (vSub a b).av :=
  con_of_one (t := [e_rSub]) (hints := h0) (all_cons o_rSub all_nil) (by kernel_rfl) rfl 30 (by kernel_rfl)
def e_rVSub : Ent := ent2 N.ref02_Sub cVec cVec fun a b => (vSub a b).av
theorem o_rVSub : e_rVSub.ok N.P := ent2_ok c_rVSub
theorem c_rScale (a : Vec) (k : Num) : Con N.P N.ref02_Scale [a.av, k.av] (vScale a k).av :=
  con_of_one (t := [e_rMul]) (hints := h0) (all_cons o_rMul all_nil) (by kernel_rfl) rfl 30 (by kernel_rfl)
def e_rScale : Ent := ent2 N.ref02_Scale cVec cNum fun a k => (vScale a k).av
theorem o_rScale : e_rScale.ok N.P := ent2_ok c_rScale
theorem c_rVDot (a b : Vec) : Con N.P N.ref02_Dot [a.av, b.av] (vDot a b).av :=
  con_of_one (t := [e_rDot]) (hints := h0) (all_cons o_rDot all_nil) (by kernel_rfl) rfl 30 (by kernel_rfl)
def e_rVDot : Ent := ent2 N.ref02_Dot cVec cVec fun a b => (vDot a b).av
theorem o_rVDot : e_rVDot.ok N.P := ent2_ok c_rVDot
theorem c_rCross (a b : Vec) : Con N.P N.ref02_Cross [a.av, b.av] (vCross a b).av :=
  con_of_one (t := [e_rDot, e_rNeg]) (hints := h0) (all_cons o_rDot (all_cons o_rNeg all_nil)) (by kernel_rfl) rfl 30 (by kernel_rfl)
def e_rCross : Ent := ent2 N.ref02_Cross cVec cVec fun a b => (vCross a b).av
theorem o_rCross : e_rCross.ok N.P := ent2_ok c_rCross
theorem c_rPerp (a : Vec) : Con N.P N.ref02_Perp [a.av] (vPerp a).av :=
  con_of_one (t := [e_rNeg, e_rSum]) (hints := h0) (all_cons o_rNeg (all_cons o_rSum all_nil)) (by kernel_rfl) rfl 30 (by kernel_rfl)
def e_rPerp : Ent := ent1 N.ref02_Perp cVec fun a => (vPerp a).av
theorem o_rPerp : e_rPerp.ok N.P := ent1_ok c_rPerp
theorem c_rTurn (k : Num) (a : Vec) : Con N.P N.ref02_Turn [k.av, a.av] (vTurn k a).av :=
  con_of_one (t := [e_rPerp, e_rScale]) (hints := h0) (all_cons o_rPerp (all_cons o_rScale all_nil)) (by kernel_rfl) rfl 30 (by kernel_rfl)
def e_rTurn : Ent := ent2 N.ref02_Turn cNum cVec fun k a => (vTurn k a).av
theorem o_rTurn : e_rTurn.ok N.P := ent2_ok c_rTurn

/-! a body's arm, speed and heft -/
def bSpeed (b : Body) (x : Vec) : Vec := vAdd [b.V, vTurn b.W (bArm b x)]
def bHeft (b : Body) (x n : Vec) : Num := nAdd b.Wt.M (nMul b.Wt.I (nMul (vCross (bArm b x) n) (vCross (bArm b x) n)))
theorem c_rArm (b : Body) (x : Vec) : Con N.P N.ref05_arm [b.av, x.av] (bArm b x).av :=
  con_of_one (t := [e_rVSub]) (hints := h0) (all_cons o_rVSub all_nil) (by kernel_rfl) rfl 30 (by kernel_rfl)
def e_rArm : Ent := ent2 N.ref05_arm rBody.agg cVec fun b x => (bArm b x).av
theorem o_rArm : e_rArm.ok N.P := ent2_ok c_rArm
theorem c_rSpeed (b : Body) (x : Vec) : Con N.P N.ref05_Speed [b.av, x.av] (bSpeed b x).av :=
  con_ty (c := cVec) (t := [e_rArm, e_rTurn, e_rAdd]) (hints := h0) (all_cons o_rArm (all_cons o_rTurn (all_cons o_rAdd all_nil))) (by kernel_rfl) rfl 30 (gd (okS b.Shp.Pts) (.leaf (bSpeed b x))) (by kernel_rfl) fun _ => holds_gd (okS_true _) rfl
def e_rSpeed : Ent := ent2 N.ref05_Speed rBody.agg cVec fun b x => (bSpeed b x).av
theorem o_rSpeed : e_rSpeed.ok N.P := ent2_ok c_rSpeed
theorem c_rHeft (b : Body) (x n : Vec) : Con N.P N.ref05_Heft [b.av, x.av, n.av] (bHeft b x n).av :=
  con_ty (c := cNum) (t := [e_rArm, e_rCross, e_rMul, e_rAddN]) (hints := h0) (all_cons o_rArm (all_cons o_rCross (all_cons o_rMul (all_cons o_rAddN all_nil)))) (by kernel_rfl) rfl 30 (gd (okS b.Shp.Pts) (.leaf (bHeft b x n))) (by kernel_rfl) fun _ => holds_gd (okS_true _) rfl
def e_rHeft : Ent := ent3 N.ref05_Heft rBody.agg cVec cVec fun b x n => (bHeft b x n).av
theorem o_rHeft : e_rHeft.ok N.P := ent3_ok c_rHeft
theorem c_speed (b : Body) (x : Vec) : Con N.P N.solver_worked_speed [rBody.ptr.enc b, x.av] (bSpeed b x).av :=
  con_ty (c := cVec) (t := [e_arm, e_PTurn, e_PAdd]) (hints := h0) (all_cons o_arm (all_cons o_PTurn (all_cons o_PAdd all_nil))) (by kernel_rfl) rfl 30 (gd (okS b.Shp.Pts) (.leaf (bSpeed b x))) (by kernel_rfl) fun _ => holds_gd (okS_true _) rfl
def e_speed : Ent := ent2 N.solver_worked_speed rBody.ptr cVec fun b x => (bSpeed b x).av
theorem o_speed : e_speed.ok N.P := ent2_ok c_speed
theorem c_heft (b : Body) (x n : Vec) : Con N.P N.solver_worked_heft [rBody.ptr.enc b, x.av, n.av] (bHeft b x n).av :=
  con_ty (c := cNum) (t := [e_arm, e_PCross, e_Mul, e_Add]) (hints := h0) (all_cons o_arm (all_cons o_PCross (all_cons o_Mul (all_cons o_Add all_nil)))) (by kernel_rfl) rfl 30 (gd (okS b.Shp.Pts) (.leaf (bHeft b x n))) (by kernel_rfl) fun _ => holds_gd (okS_true _) rfl
def e_heft : Ent := ent3 N.solver_worked_heft rBody.ptr cVec cVec fun b x n => (bHeft b x n).av
theorem o_heft : e_heft.ok N.P := ent3_ok c_heft
end Go.Flat
end

section
/- Contracts: copies and impulses of the reference; what is within limits; what is idle. -/
set_option linter.unusedSimpArgs false
set_option linter.unusedVariables false
namespace Go.Flat
open Go

theorem c_rCopyShape (a : Shape) (ha : a.small = true) : Con N.P N.ref02_CopyShape [a.av] a.av :=
  con_treeN (t := []) (m := []) (hints := h0) (nils := nn) all_nil mall_nil (by kernel_rfl) rfl 30
    (gd (decide ((0 : Nat) = 0)) (gd (decide (0 + ((List.range a.Pts.len).map fun i => rSpot.cells (a.Pts.at' i)).length < 16777216)) (gd (Nat.ble (0 + ((List.range a.Pts.len).map fun i => rSpot.cells (a.Pts.at' i)).length) ([] ++ ((List.range a.Pts.len).map fun i => rSpot.cells (a.Pts.at' i))).length)
        (.leaf (.agg [li a.Kind, li a.R, li a.W, li a.H, .vsl false 2 (0 + ((List.range a.Pts.len).map fun i => rSpot.cells (a.Pts.at' i)).length) (fun i => ([] ++ ((List.range a.Pts.len).map fun i => rSpot.cells (a.Pts.at' i))).getD i [])]))))) (by kernel_rfl) fun _ => by
    have := smallN_lt ha
    rw [Nat.zero_add, List.nil_append]
    refine holds_gd rfl (holds_gd (by simp; omega) (holds_gd (Nat.ble_eq_true_of_le (Nat.le_refl _)) ?_))
    exact Fits.agg (.cons (Fits.refl _) rfl rfl (.cons (Fits.refl _) rfl rfl (.cons (Fits.refl _) rfl rfl (.cons (Fits.refl _) rfl rfl (.cons (fits_copy _) rfl rfl .nil)))))
def e_rCopyShape : Ent := entC N.ref02_CopyShape rShape.agg Shape.small Shape.av
theorem o_rCopyShape : e_rCopyShape.ok N.P := entC_ok c_rCopyShape
theorem c_rCopy (b : Body) (hb : b.small = true) : Con N.P N.ref05_Copy [b.av] b.av :=
  con_ty (c := rBody.agg) (t := [e_rCopyShape]) (hints := h0) (all_cons o_rCopyShape all_nil) (by kernel_rfl) rfl 30
    (gd b.small (gd (okS b.Shp.Pts) (gd (okS b.Shp.Pts) (.leaf b)))) (by kernel_rfl) fun _ => holds_gd hb (holds_gd (okS_true _) (holds_gd (okS_true _) rfl))
def e_rCopy : Ent := entC N.ref05_Copy rBody.agg Body.small Body.av
theorem o_rCopy : e_rCopy.ok N.P := entC_ok c_rCopy

theorem c_rLimit (a : Num) (n : Int) : Con N.P N.ref05_limit [a.av, li n] (nLimit a n).av :=
  con_ty (c := cNum) (t := [e_rClamp, e_rInt]) (hints := h0) (all_cons o_rClamp (all_cons o_rInt all_nil)) (by kernel_rfl) rfl 30 (.leaf (nLimit a n)) (by kernel_rfl) fun _ => rfl
def e_rLimit : Ent := ent2 N.ref05_limit cNum (cInt .i64) fun a n => (nLimit a n).av
theorem o_rLimit : e_rLimit.ok N.P := ent2_ok c_rLimit
theorem c_rLimited (a : Vec) : Con N.P N.ref05_limited [a.av] (vLimit a 256).av :=
  con_of_one (t := [e_rLimit]) (hints := h0) (all_cons o_rLimit all_nil) (by kernel_rfl) rfl 30 (by kernel_rfl)
def e_rLimited : Ent := ent1 N.ref05_limited cVec fun a => (vLimit a 256).av
theorem o_rLimited : e_rLimited.ok N.P := ent1_ok c_rLimited

theorem c_rRatio64 : Con N.P N.ref05_slop [] (nRatio 1 64).av :=
  con_of_one (t := [e_rRatio]) (hints := h0) (all_cons o_rRatio all_nil) (by kernel_rfl) rfl 30 (by kernel_rfl)
def e_slop : Ent := ent0 N.ref05_slop (nRatio 1 64).av
theorem o_slop : e_slop.ok N.P := ent0_ok c_rRatio64
theorem c_beta : Con N.P N.ref05_beta [] (nRatio 1 5).av :=
  con_of_one (t := [e_rRatio]) (hints := h0) (all_cons o_rRatio all_nil) (by kernel_rfl) rfl 30 (by kernel_rfl)
def e_beta : Ent := ent0 N.ref05_beta (nRatio 1 5).av
theorem o_beta : e_beta.ok N.P := ent0_ok c_beta
theorem c_rough : Con N.P N.ref05_rough [] (nRatio 1 2).av :=
  con_of_one (t := [e_rRatio]) (hints := h0) (all_cons o_rRatio all_nil) (by kernel_rfl) rfl 30 (by kernel_rfl)
def e_rough : Ent := ent0 N.ref05_rough (nRatio 1 2).av
theorem o_rough : e_rough.ok N.P := ent0_ok c_rough
theorem c_calm : Con N.P N.ref05_calm [] (nRatio 1 16).av :=
  con_of_one (t := [e_rRatio]) (hints := h0) (all_cons o_rRatio all_nil) (by kernel_rfl) rfl 30 (by kernel_rfl)
def e_calm : Ent := ent0 N.ref05_calm (nRatio 1 16).av
theorem o_calm : e_calm.ok N.P := ent0_ok c_calm

/-! what is idle -/
def idle (b : Body) : Bool := bif moves b then (bif b.Asleep then true else b.Fault) else true
theorem idle_tree (b : Body) : (gd (okS b.Shp.Pts) (.node (!moves b) (.leaf true) (.node b.Asleep (.leaf true) (.leaf b.Fault)))).holds (· = idle b) := by
  refine holds_gd (okS_true _) ⟨fun h => ?_, fun h => ⟨fun h2 => ?_, fun h2 => ?_⟩⟩ <;> show _ = _ <;> unfold idle
  · simp only [Bool.not_eq_true'] at h; rw [h]; rfl
  · simp only [Bool.not_eq_false'] at h; rw [h, h2]; rfl
  · simp only [Bool.not_eq_false'] at h; rw [h, h2]; rfl
theorem c_Idle (b : Body) : Con N.P N.solver_Idle [b.av] (lb (idle b)) :=
  con_ty (c := cBool) (t := [e_Moves]) (hints := h0) (all_cons o_Moves all_nil) (by kernel_rfl) rfl 30 _ (by kernel_rfl) fun _ => idle_tree b
def e_Idle : Ent := ent1 N.solver_Idle rBody.agg fun b => lb (idle b)
theorem o_Idle : e_Idle.ok N.P := ent1_ok c_Idle
theorem c_rIdle (b : Body) : Con N.P N.ref05_Idle [b.av] (lb (idle b)) :=
  con_ty (c := cBool) (t := [e_rMoves]) (hints := h0) (all_cons o_rMoves all_nil) (by kernel_rfl) rfl 30 _ (by kernel_rfl) fun _ => idle_tree b
def e_rIdle : Ent := ent1 N.ref05_Idle rBody.agg fun b => lb (idle b)
theorem o_rIdle : e_rIdle.ok N.P := ent1_ok c_rIdle

/-! the reference's impulse -/
def t_rpush : List Ent := [e_rCopy, e_rMoves, e_rScale, e_rAdd, e_rLimited, e_rArm, e_rCross, e_rMul, e_rAddN, e_rLimit]
theorem ok_rpush : ∀ e ∈ t_rpush, e.ok N.P := all_cons o_rCopy (all_cons o_rMoves (all_cons o_rScale (all_cons o_rAdd (all_cons o_rLimited (all_cons o_rArm (all_cons o_rCross (all_cons o_rMul (all_cons o_rAddN (all_cons o_rLimit all_nil)))))))))
theorem c_rPush (b : Body) (x j : Vec) (hb : b.small = true) : Con N.P N.ref05_Push [b.av, x.av, j.av] (sPush b x j).av :=
  con_ty (c := rBody.agg) (t := t_rpush) (hints := h0) ok_rpush (by kernel_rfl) rfl 30
    (gd b.small (gd (okS b.Shp.Pts) (gd (okS b.Shp.Pts) (.node (!moves b) (gd (okS b.Shp.Pts) (.leaf b)) (.node b.Fault (gd (okS b.Shp.Pts) (.leaf b)) (gd (okS b.Shp.Pts) (.node b.Asleep
      (gd (okS b.Shp.Pts) (.leaf { b with V := pushV b j, W := pushW b x j, Still := 0, Asleep := false }))
      (gd (okS b.Shp.Pts) (.leaf { b with V := pushV b j, W := pushW b x j }))))))))) (by kernel_rfl) fun _ => by
    rw [okS_true]
    refine holds_gd hb (holds_gd rfl (holds_gd rfl ⟨fun h => holds_gd rfl ?_, fun h => ⟨fun h1 => holds_gd rfl ?_, fun h1 => holds_gd rfl ⟨fun h2 => holds_gd rfl ?_, fun h2 => holds_gd rfl ?_⟩⟩⟩))
    · show _ = _
      unfold sPush; simp only [Bool.not_eq_true'] at h; rw [h]; rfl
    · show _ = _
      unfold sPush; simp only [Bool.not_eq_false'] at h; rw [h, h1]; rfl
    · show _ = _
      simp only [Bool.not_eq_false'] at h
      unfold sPush; rw [h, h1, h2]; rfl
    · show _ = _
      simp only [Bool.not_eq_false'] at h
      unfold sPush; rw [h, h1, h2]
      obtain ⟨s, p, v, w, wt, st, asl, fa, ver⟩ := b
      simp only at h2
      subst h2
      rfl
def e_rPush : Ent := entC3 N.ref05_Push rBody.agg cVec cVec (fun b _ _ => b.small) fun b x j => (sPush b x j).av
theorem o_rPush : e_rPush.ok N.P := entC3_ok c_rPush
end Go.Flat
end

section
/- Contracts: numbers within limits; contacts and their copies. -/
set_option linter.unusedSimpArgs false
set_option linter.unusedVariables false
namespace Go.Flat
open Go

/-! within limits -/
def wIn (n : Int) (x : Num) : Bool := !sf x && (decide (sv x ≤ n * 4294967296) && decide (-(n * 4294967296) ≤ sv x))
def lim (n : Int) : Bool := decide (0 ≤ n) && decide (n ≤ 100000)
def hWi : Hints := fun _ _ => some ([0, 7, 8, 9], 0)
noncomputable abbrev Cwi : Ctx := ctxOf N.P [e_SumN] hWi
def sWi (n : Int) (l : List Num) (i : Int) : St := ⟨[(0, li n), (7, rNum.sl l), (8, li l.length), (9, li i)], []⟩
theorem wi_start (n : Int) (l : List Num) (F : Nat) : runF Cwi (F + 5) N.solver_within [li n, rNum.sl l] = loop1 Cwi N.solver_within (F + 1) (sWi n l 0) (F + 5) := by kernel_rfl
theorem wi_step (n : Int) (l : List Num) (i F G : Nat) : loop1 Cwi N.solver_within (F + 40) (sWi n l i) (G + 5) =
    .node (decide ((i : Int) < (l.length : Int))) (gd (decide (0 ≤ (i : Int)) && decide ((i : Int) < (l.length : Int)))
      (.node (nSum [l.getD i rNum.d]).F (.leaf (.kb false)) (.node (decide ((if i64 (0 - (nSum [l.getD i rNum.d]).V) > (nSum [l.getD i rNum.d]).V then i64 (0 - (nSum [l.getD i rNum.d]).V) else (nSum [l.getD i rNum.d]).V) > i64 (n * 2 ^ 32)))
        (.leaf (.kb false)) (loop1 Cwi N.solver_within (F + 39) (sWi n l (i64 ((i : Int) + 1))) (G + 5))))) (.leaf (.kb true)) := by kernel_rfl
theorem sum_one {x : Num} (h : -9223372036854775807 ≤ sv x ∧ sv x ≤ 9223372036854775807) : nSum [x] = ⟨sv x, sf x⟩ := by
  unfold nSum nFit Top
  simp only [List.map_cons, List.map_nil, List.sum_cons, List.sum_nil, List.any_cons, List.any_nil, Bool.or_false]
  rw [if_neg (by omega), if_neg (by omega)]
  simp
theorem wIn_max {n : Int} {x : Num} (hn : lim n = true) (h : -9223372036854775807 ≤ sv x ∧ sv x ≤ 9223372036854775807) (hf : sf x = false) :
    wIn n x = !decide ((if i64 (0 - sv x) > sv x then i64 (0 - sv x) else sv x) > i64 (n * 2 ^ 32)) := by
  simp only [lim, Bool.and_eq_true, decide_eq_true_eq] at hn
  have e1 : i64 (n * 2 ^ 32) = n * 4294967296 := by simp only [i64, IntKind.wrap_i64]; omega
  have e2 : i64 (0 - sv x) = -(sv x) := by simp only [i64, IntKind.wrap_i64]; omega
  rw [e1, e2]
  unfold wIn
  rw [hf]
  by_cases h1 : sv x ≤ n * 4294967296 <;> by_cases h2 : -(n * 4294967296) ≤ sv x <;> by_cases h3 : -(sv x) > sv x <;> simp [h1, h2, h3] <;> omega
theorem c_within (n : Int) (l : List Num) (hn : lim n = true) : Con N.P N.solver_within [li n, rNum.sl l] (lb (allN l.length fun i => wIn n (l.getD i rNum.d))) :=
  con_of_run (t := [e_SumN]) (hints := hWi) (all_cons o_SumN all_nil) named mixed (by kernel_rfl) rfl fun hs => by
    have hm := (hs _ (List.mem_cons_of_mem _ List.mem_cons_self)).len
    have hx := sat_nums (hs _ (List.mem_cons_of_mem _ List.mem_cons_self))
    refine loop_allB (C := Cwi) 5 l.length (fun i => sWi n l i) _ (fun F Q h => ?_) (fun i F G Q h h1 h2 => ?_) (fun F G Q h => ?_)
    · rw [wi_start]; exact h
    · have hv := sv_bound _ (hx (l.getD i rNum.d) (by
        have : l.getD i rNum.d = l[i] := by simp [List.getD, h]
        rw [this]; exact List.getElem_mem h))
      rw [wi_step, next_i hm h, sum_one hv]
      refine holds_yes (lt_true h) (holds_gd (in_true h) ⟨fun h' => h1 ?_, fun h' => ⟨fun h3 => h1 ?_, fun h3 => h2 ?_⟩⟩)
      · have h' : sf (l.getD i rNum.d) = true := h'
        unfold wIn; rw [h']; rfl
      · rw [wIn_max hn hv h', h3]; rfl
      · rw [wIn_max hn hv h', h3]; rfl
    · rw [wi_step]; exact holds_no lt_no h
def e_within : Ent := entC2 N.solver_within (cInt .i64) rNum.list (fun n _ => lim n) fun n l => lb (allN l.length fun i => wIn n (l.getD i rNum.d))
theorem o_within : e_within.ok N.P := entC2_ok c_within
theorem c_rWithin (x : Num) (n : Int) (hn : lim n = true) : Con N.P N.ref05_within [x.av, li n] (lb (wIn n x)) :=
  con_ty (c := cBool) (t := [e_rOf]) (hints := h0) (all_cons o_rOf all_nil) (by kernel_rfl) rfl 30
    (.node (nSound ⟨x.V, false⟩).F (.leaf false) (.node (!x.F) (.node (decide (x.V ≤ i64 (n * 4294967296))) (.leaf (decide (x.V ≥ i64 (i64 (0 - n) * 4294967296)))) (.leaf false)) (.leaf false))) (by kernel_rfl) fun _ => by
    simp only [lim, Bool.and_eq_true, decide_eq_true_eq] at hn
    have e1 : i64 (n * 4294967296) = n * 4294967296 := by simp only [i64, IntKind.wrap_i64]; omega
    have e2 : i64 (i64 (0 - n) * 4294967296) = -(n * 4294967296) := by simp only [i64, IntKind.wrap_i64]; omega
    rw [e1, e2]
    by_cases hm : x.V = -9223372036854775808
    · have k1 : (nSound ⟨x.V, false⟩).F = true := by unfold nSound; rw [hm]; rfl
      have k2 : sf x = true := by unfold sf nSound; rw [hm]; rfl
      refine holds_yes k1 ?_
      show _ = _
      unfold wIn; rw [k2]; rfl
    · have k1 : (nSound ⟨x.V, false⟩).F = false := by unfold nSound; simp [hm]
      have k2 : nSound x = x := by unfold nSound; simp [hm]
      refine holds_no k1 ?_
      unfold wIn sv sf
      rw [k2]
      refine ⟨fun h => ⟨fun h2 => ?_, fun h2 => ?_⟩, fun h => ?_⟩ <;> show _ = _ <;> rw [h]
      · rw [h2]; rfl
      · rw [h2]; rfl
      · rfl
def e_rWithin : Ent := entC2 N.ref05_within cNum (cInt .i64) (fun _ n => lim n) fun x n => lb (wIn n x)
theorem o_rWithin : e_rWithin.ok N.P := entC2_ok c_rWithin
def vIn (n : Int) (v : Vec) : Bool := wIn n v.X && wIn n v.Y
theorem c_rBoth (v : Vec) (n : Int) (hn : lim n = true) : Con N.P N.ref05_both [v.av, li n] (lb (vIn n v)) :=
  con_ty (c := cBool) (t := [e_rWithin]) (hints := h0) (all_cons o_rWithin all_nil) (by kernel_rfl) rfl 30
    (gd (lim n) (.node (wIn n v.X) (gd (lim n) (.leaf (wIn n v.Y))) (.leaf false))) (by kernel_rfl) fun _ => by
    refine holds_gd hn ⟨fun h => holds_gd hn ?_, fun h => ?_⟩ <;> show _ = _ <;> unfold vIn <;> rw [h] <;> rfl
def e_rBoth : Ent := entC2 N.ref05_both cVec (cInt .i64) (fun _ n => lim n) fun v n => lb (vIn n v)
theorem o_rBoth : e_rBoth.ok N.P := entC2_ok c_rBoth

/-! contacts -/
def Contact.small (c : Contact) : Bool := smallN c.M.L.len
theorem touch_fits (s : Sl Touch) {b : Bool} : Fits (.vsl b 6 ((List.range s.len).map fun i => rTouch.cells (s.at' i)).length (fun i => ((List.range s.len).map fun i => rTouch.cells (s.at' i)).getD i [])) (rTouch.encS s) := by
  rw [List.length_map, List.length_range]
  exact fits_sl rTouch (fun _ => rfl) s rfl
def ownLeaf (c : Contact) : AV := .agg [li c.A, li c.B, li c.M.N.X.V, lb c.M.N.X.F, li c.M.N.Y.V, lb c.M.N.Y.F,
  .vsl false 6 ((List.range c.M.L.len).map fun i => rTouch.cells (c.M.L.at' i)).length (fun i => ((List.range c.M.L.len).map fun i => rTouch.cells (c.M.L.at' i)).getD i []),
  li c.P0.V, lb c.P0.F, li c.P1.V, lb c.P1.F, li c.R0.V, lb c.R0.F, li c.R1.V, lb c.R1.F]
theorem ownLeaf_fits (c : Contact) : Fits (ownLeaf c) c.av := by
  have r : ∀ x : AV, Fits x x := fun x => Fits.refl x
  exact Fits.agg (.cons (r _) rfl rfl (.cons (r _) rfl rfl (.cons (r _) rfl rfl (.cons (r _) rfl rfl (.cons (r _) rfl rfl (.cons (r _) rfl rfl (.cons (touch_fits _) rfl rfl (FitsL.refl_of rfl))))))))
theorem c_own (c : Contact) (hc : c.small = true) : Con N.P N.solver_own [c.av] c.av :=
  con_treeN (t := []) (m := []) (hints := h0) (nils := nn) all_nil mall_nil (by kernel_rfl) rfl 30
    (gd (decide (((List.range c.M.L.len).map fun i => rTouch.cells (c.M.L.at' i)).length < 16777216)) (gd (Nat.ble ((List.range c.M.L.len).map fun i => rTouch.cells (c.M.L.at' i)).length ((List.range c.M.L.len).map fun i => rTouch.cells (c.M.L.at' i)).length)
      (.leaf (ownLeaf c)))) (by kernel_rfl) fun _ => by
    have := smallN_lt hc
    exact holds_gd (by simp; omega) (holds_gd (Nat.ble_eq_true_of_le (Nat.le_refl _)) (ownLeaf_fits c))
def e_own : Ent := entC N.solver_own rContact.agg Contact.small Contact.av
theorem o_own : e_own.ok N.P := entC_ok c_own
theorem c_rContact (c : Contact) (hc : c.small = true) : Con N.P N.ref05_contact [c.av] c.av :=
  con_treeN (t := []) (m := []) (hints := h0) (nils := nn) all_nil mall_nil (by kernel_rfl) rfl 30
    (gd (decide (((List.range c.M.L.len).map fun i => rTouch.cells (c.M.L.at' i)).length < 16777216)) (gd (Nat.ble ((List.range c.M.L.len).map fun i => rTouch.cells (c.M.L.at' i)).length ((List.range c.M.L.len).map fun i => rTouch.cells (c.M.L.at' i)).length)
      (.leaf (ownLeaf c)))) (by kernel_rfl) fun _ => by
    have := smallN_lt hc
    exact holds_gd (by simp; omega) (holds_gd (Nat.ble_eq_true_of_le (Nat.le_refl _)) (ownLeaf_fits c))
def e_rContact : Ent := entC N.ref05_contact rContact.agg Contact.small Contact.av
theorem o_rContact : e_rContact.ok N.P := entC_ok c_rContact
end Go.Flat
end

section
/- Contracts: copies and equality of contacts; the reference's copies of bodies; moving a body to a place. -/
set_option linter.unusedSimpArgs false
set_option linter.unusedVariables false
namespace Go.Flat
open Go

/-! a copy of a contact by the kit -/
def zc0 : List AV := [li 0, li 0, li 0, lb false, li 0, lb false, .nsl, li 0, lb false, li 0, lb false, li 0, lb false, li 0, lb false]
def hOc : Hints := fun _ _ => some ([1, 2, 3, 4], 999)
noncomputable abbrev Coc : Ctx := ctxN N.P [] [] hOc fun _ _ => [(3, N.t_Touch, 6)]
def sOc (c : Contact) (i : Nat) (j : Int) (r1 : List (List AV)) : St := ⟨[(1, .ptr 0 15 0 0), (2, .ptr 1 15 0 0), (3, .lsl false 2 N.t_Touch 6 i), (4, li j)], [some ⟨.one (rContact.cells c), false⟩, some ⟨.one zc0, false⟩, some ⟨.many N.t_Touch 6 true r1, false⟩]⟩
theorem oc_start (c : Contact) (F : Nat) : runF Coc (F + 6) N.kit_OwnContact [c.av] = loop1 Coc N.kit_OwnContact (F + 1) (sOc c 0 0 []) (F + 6) := by kernel_rfl
def ocLeaf (c : Contact) (i : Nat) (r1 : List (List AV)) : AV := .agg [li c.A, li c.B, li c.M.N.X.V, lb c.M.N.X.F, li c.M.N.Y.V, lb c.M.N.Y.F,
  .vsl false 6 i (fun r => r1.getD r []), li c.P0.V, lb c.P0.F, li c.P1.V, lb c.P1.F, li c.R0.V, lb c.R0.F, li c.R1.V, lb c.R1.F]
theorem oc_step (c : Contact) (i j : Nat) (r1 : List (List AV)) (F G : Nat) : loop1 Coc N.kit_OwnContact (F + 40) (sOc c i j r1) (G + 6) =
    .node (decide ((j : Int) < (c.M.L.len : Int))) (gd (decide (0 ≤ (j : Int)) && decide ((j : Int) < (c.M.L.len : Int))) (gd (decide (r1.length = i)) (gd (decide (i + 1 < 16777216))
      (loop1 Coc N.kit_OwnContact (F + 39) (sOc c (i + 1) (i64 ((j : Int) + 1)) (r1 ++ [rTouch.cells (c.M.L.at' j)])) (G + 6)))))
      (gd (Nat.ble i r1.length) (.leaf (ocLeaf c i r1))) := by kernel_rfl
theorem c_OwnContact (c : Contact) (hc : c.small = true) : Con N.P N.kit_OwnContact [c.av] c.av :=
  con_of_runN (t := []) (m := []) (hints := hOc) (nils := fun _ _ => [(3, N.t_Touch, 6)]) all_nil mall_nil named mixed (by kernel_rfl) rfl fun hs => by
    have hl := smallN_lt hc
    have hm : c.M.L.len ≤ maxLen := by simp only [maxLen]; omega
    refine loop_all (C := Coc) 6 c.M.L.len (fun i => sOc c i i (c.M.L.rows rTouch i)) (fun _ => True) (fun F h => by rw [oc_start]; exact h) trivial (fun i F G h hI hn => ?_) (fun F G hI => ?_)
    · have hn := hn trivial
      simp only [Sl.rows_succ] at hn
      rw [oc_step, next_i hm h]
      exact holds_yes (lt_true h) (holds_gd (in_true h) (holds_gd (by simp [Sl.rows_len]) (holds_gd (by simp; omega) hn)))
    · rw [oc_step, Sl.rows_len]
      refine holds_no lt_no (holds_gd (Nat.ble_eq_true_of_le (Nat.le_refl _)) ?_)
      have r : ∀ x : AV, Fits x x := fun x => Fits.refl x
      exact Fits.agg (.cons (r _) rfl rfl (.cons (r _) rfl rfl (.cons (r _) rfl rfl (.cons (r _) rfl rfl (.cons (r _) rfl rfl (.cons (r _) rfl rfl (.cons (fits_sl rTouch (fun _ => rfl) c.M.L rfl) rfl rfl (FitsL.refl_of rfl))))))))
def e_OwnContact : Ent := entC N.kit_OwnContact rContact.agg Contact.small Contact.av
theorem o_OwnContact : e_OwnContact.ok N.P := entC_ok c_OwnContact

/-! equality -/
def touchEq (a b : Touch) : Bool := vecEq a.At b.At && (numEq a.Depth b.Depth && true)
def touchesEq (a b : Sl Touch) : Bool := allN a.len fun i => touchEq (a.at' i) (b.at' i)
def maniEq (a b : Mani) : Bool := vecEq a.N b.N && (bif (a.L.len : Int) != b.L.len then false else touchesEq a.L b.L)
def hSm : Hints := fun _ _ => some ([2, 3, 5], 999)
noncomputable abbrev Csm : Ctx := ctxN N.P [] [] hSm nn
def sSm (a b : Mani) (i : Int) : St := ⟨[(2, .ptr 0 5 0 0), (3, .ptr 1 5 0 0), (5, li i)], [some ⟨.one (rMani.cells a), false⟩, some ⟨.one (rMani.cells b), false⟩]⟩
theorem sm_start (a b : Mani) (F : Nat) : runF Csm (F + 6) N.kit_SameManifold [a.av, b.av] = .node (!vecEq a.N b.N) (.leaf (.kb false)) (.node ((a.L.len : Int) != b.L.len) (.leaf (.kb false)) (loop1 Csm N.kit_SameManifold (F + 1) (sSm a b 0) (F + 6))) := by kernel_rfl
theorem sm_step (a b : Mani) (i F G : Nat) : loop1 Csm N.kit_SameManifold (F + 40) (sSm a b i) (G + 6) =
    .node (decide ((i : Int) < (a.L.len : Int))) (gd (decide (0 ≤ (i : Int)) && decide ((i : Int) < (a.L.len : Int))) (gd (decide (0 ≤ (i : Int)) && decide ((i : Int) < (b.L.len : Int)))
      (.node (!touchEq (a.L.at' i) (b.L.at' i)) (.leaf (.kb false)) (loop1 Csm N.kit_SameManifold (F + 39) (sSm a b (i64 ((i : Int) + 1))) (G + 6))))) (.leaf (.kb true)) := by kernel_rfl
theorem c_SameManifold (a b : Mani) : Con N.P N.kit_SameManifold [a.av, b.av] (lb (maniEq a b)) :=
  con_of_runN (t := []) (m := []) (hints := hSm) (nils := nn) all_nil mall_nil named mixed (by kernel_rfl) rfl fun hs => by
    have hm : a.L.len ≤ maxLen := by
      have h1 := hs _ List.mem_cons_self
      exact (h1.cells (rTouch.encS a.L) (by simp [Mani.av, Row.agg, rMani, Row.iso, Row.prod, rSl, Row.cSl, Cdc.row])).len
    by_cases hv : vecEq a.N b.N = true
    · by_cases hlen : a.L.len = b.L.len
      · have e0 : maniEq a b = allN a.L.len fun i => touchEq (a.L.at' i) (b.L.at' i) := by unfold maniEq touchesEq; rw [hv, hlen]; simp
        rw [e0]
        refine loop_allB (C := Csm) 6 a.L.len (fun i => sSm a b i) _ (fun F Q h => ?_) (fun i F G Q h h1 h2 => ?_) (fun F G Q h => ?_)
        · rw [sm_start]; exact holds_no (by rw [hv]; rfl) (holds_no (ne_eq (by rw [hlen])) h)
        · rw [sm_step, next_i hm h]
          refine holds_yes (lt_true h) (holds_gd (in_true h) (holds_gd (in_true (by omega)) ⟨fun h' => h1 ?_, fun h' => h2 ?_⟩))
          · simpa only [Bool.not_eq_true'] using h'
          · simpa only [Bool.not_eq_false'] using h'
        · rw [sm_step]; exact holds_no lt_no h
      · refine ⟨6, ?_⟩
        show (runF Csm _ _ _).holds _
        rw [sm_start (F := 0)]
        have hne : ((a.L.len : Int) != b.L.len) = true := by simp; omega
        refine holds_no (by rw [hv]; rfl) (holds_yes hne ?_)
        unfold maniEq; rw [hne, hv]; exact Fits.kb
    · refine ⟨6, ?_⟩
      show (runF Csm _ _ _).holds _
      rw [sm_start (F := 0)]
      have hv' : vecEq a.N b.N = false := by simpa using hv
      refine holds_yes (by rw [hv']; rfl) ?_
      unfold maniEq; rw [hv']; exact Fits.kb
def e_SameManifold : Ent := ent2 N.kit_SameManifold rMani.agg rMani.agg fun a b => lb (maniEq a b)
theorem o_SameManifold : e_SameManifold.ok N.P := ent2_ok c_SameManifold

/-! the reference's copies of bodies -/
def hRb : Hints := fun _ _ => some ([0, 3, 4], 999)
noncomputable abbrev Crb : Ctx := ctxN N.P [e_rCopy] [] hRb fun _ _ => [(3, N.t_Body, 27)]
theorem rb_start (a : Sl Body) (F : Nat) : runF Crb (F + 6) N.ref05_bodies [rBody.encS a] = loop1 Crb N.ref05_bodies (F + 1) (sObs a 0 0 []) (F + 6) := by kernel_rfl
theorem rb_step (a : Sl Body) (i j : Nat) (r1 : List (List AV)) (F G : Nat) : loop1 Crb N.ref05_bodies (F + 40) (sObs a i j r1) (G + 6) =
    .node (decide ((j : Int) < (a.len : Int))) (gd (decide (0 ≤ (j : Int)) && decide ((j : Int) < (a.len : Int))) (gd (a.at' j).small (gd (okS (a.at' j).Shp.Pts) (gd (decide (r1.length = i)) (gd (decide (i + 1 < 16777216))
      (loop1 Crb N.ref05_bodies (F + 39) (sObs a (i + 1) (i64 ((j : Int) + 1)) (r1 ++ [rBody.cells (a.at' j)])) (G + 6)))))))
      (gd (Nat.ble i r1.length) (.leaf (.vsl false 27 i (fun r => r1.getD r [])))) := by kernel_rfl
theorem c_rBodies (a : Sl Body) (ha : smallAll a = true) : Con N.P N.ref05_bodies [rBody.encS a] (rBody.encS a) :=
  con_of_runN (t := [e_rCopy]) (m := []) (hints := hRb) (nils := fun _ _ => [(3, N.t_Body, 27)]) (all_cons o_rCopy all_nil) mall_nil named mixed (by kernel_rfl) rfl fun hs => by
    simp only [smallAll, Bool.and_eq_true] at ha
    have hl := smallN_lt ha.1
    have hm : a.len ≤ maxLen := by simp only [maxLen]; omega
    refine loop_all (C := Crb) 6 a.len (fun i => sObs a i i (a.rows rBody i)) (fun _ => True) (fun F h => by rw [rb_start]; exact h) trivial (fun i F G h hI hn => ?_) (fun F G hI => ?_)
    · have hn := hn trivial
      simp only [Sl.rows_succ] at hn
      rw [rb_step, next_i hm h]
      exact holds_yes (lt_true h) (holds_gd (in_true h) (holds_gd (allN_iff.1 ha.2 i h) (holds_gd (okS_true _) (holds_gd (by simp [Sl.rows_len]) (holds_gd (by simp; omega) hn)))))
    · rw [rb_step, Sl.rows_len]
      exact holds_no lt_no (holds_gd (Nat.ble_eq_true_of_le (Nat.le_refl _)) (fits_sl rBody (fun _ => rfl) a rfl))
def e_rBodies : Ent := entC N.ref05_bodies rBody.cSl smallAll fun a => rBody.encS a
theorem o_rBodies : e_rBodies.ok N.P := entC_ok c_rBodies
def apartB (n a b : Int) : Bool := decide (a ≥ 0) && (decide (a < n) && (decide (b ≥ 0) && (decide (b < n) && a != b)))
theorem c_rApart (n a b : Int) : Con N.P N.ref05_apart [li n, li a, li b] (lb (apartB n a b)) :=
  con_ty (c := cBool) (t := []) (hints := h0) all_nil (by kernel_rfl) rfl 30
    (andT (decide (a ≥ 0)) (andT (decide (a < n)) (andT (decide (b ≥ 0)) (andT (decide (b < n)) (.leaf (a != b)))))) (by kernel_rfl) fun _ => by
    unfold apartB andT
    refine ⟨fun h => ⟨fun h2 => ⟨fun h3 => ⟨fun h4 => ?_, fun h4 => ?_⟩, fun h3 => ?_⟩, fun h2 => ?_⟩, fun h => ?_⟩ <;> show _ = _
    · rw [h, h2, h3, h4]; rfl
    · rw [h, h2, h3, h4]; rfl
    · rw [h, h2, h3]; rfl
    · rw [h, h2]; rfl
    · rw [h]; rfl
def e_rApart : Ent := ent3 N.ref05_apart (cInt .i64) (cInt .i64) (cInt .i64) fun n a b => lb (apartB n a b)
theorem o_rApart : e_rApart.ok N.P := ent3_ok c_rApart

/-! a body at another place -/
def sShift (b : Body) (x : Vec) : Body := bif idle b then b else bif vIn 4096 x then { b with Pos := { b.Pos with At := x } } else b
theorem shift_tree (b : Body) (x : Vec) : (gd (okS b.Shp.Pts) (.node (!idle b) (gd (lim 4096) (.node (vIn 4096 x) (gd (okS b.Shp.Pts) (.leaf { b with Pos := { b.Pos with At := x } })) (gd (okS b.Shp.Pts) (.leaf b)))) (gd (okS b.Shp.Pts) (.leaf b)))).holds (· = sShift b x) := by
  rw [okS_true]
  refine holds_gd rfl ⟨fun h => holds_gd (by decide) ⟨fun h2 => holds_gd rfl ?_, fun h2 => holds_gd rfl ?_⟩, fun h => holds_gd rfl ?_⟩ <;> show _ = _ <;> unfold sShift
  · simp only [Bool.not_eq_true'] at h; rw [h, h2]; rfl
  · simp only [Bool.not_eq_true'] at h; rw [h, h2]; rfl
  · simp only [Bool.not_eq_false'] at h; rw [h]; rfl
theorem c_rMoved (b : Body) (x : Vec) : Con N.P N.ref05_moved [b.av, x.av] (sShift b x).av :=
  con_ty (c := rBody.agg) (t := [e_rIdle, e_rBoth]) (hints := h0) (all_cons o_rIdle (all_cons o_rBoth all_nil)) (by kernel_rfl) rfl 30 _ (by kernel_rfl) fun _ => shift_tree b x
def e_rMoved : Ent := ent2 N.ref05_moved rBody.agg cVec fun b x => (sShift b x).av
theorem o_rMoved : e_rMoved.ok N.P := ent2_ok c_rMoved
theorem allN_two (f : Nat → Bool) : allN 2 f = (f 0 && f 1) := by
  have h : (allN 2 f = true) ↔ ((f 0 && f 1) = true) := by
    rw [allN_iff, Bool.and_eq_true]
    exact ⟨fun h => ⟨h 0 (by omega), h 1 (by omega)⟩, fun h i hi => by
      rcases i with _ | _ | i
      · exact h.1
      · exact h.2
      · omega⟩
  cases h1 : allN 2 f <;> cases h2 : (f 0 && f 1) <;> simp_all
noncomputable abbrev Cshift : Ctx := ctxN N.P [e_Idle, e_within] [] h0 nn
theorem shift_run (b : Body) (x : Vec) : runP Cshift 30 N.solver_worked_shift 27 rBody b [x.av] =
    (gd (okS b.Shp.Pts) (.node (!idle b) (gd (lim 4096) (.node (allN 2 fun i => wIn 4096 ([x.X, x.Y].getD i rNum.d)) (gd (okS b.Shp.Pts) (.leaf { b with Pos := { b.Pos with At := x } })) (gd (okS b.Shp.Pts) (.leaf b)))) (gd (okS b.Shp.Pts) (.leaf b)))) := by kernel_rfl
def dVc : Dec Vec := Dec.one cVec vec_arg
def m_shift : Ment := mentP N.solver_worked_shift 27 rBody dVc sShift
theorem k_shift (b : Body) (x : Vec) : MutOk N.P N.solver_worked_shift [.ptr 0 27 0 0, x.av] [some ⟨.one (rBody.cells b), false⟩] (.tup []) [some ⟨.one (rBody.cells (sShift b x)), false⟩] := by
  refine mut_of_runP (P := N.P) (f := N.solver_worked_shift) (esz := 27) (r := rBody) (x := b) (y := sShift b x) (args := [x.av]) (t := [e_Idle, e_within]) (m := []) (hints := h0) (nils := nn) (all_cons o_Idle (all_cons o_within all_nil)) mall_nil named mixed 30 ?_
  show (runP Cshift 30 N.solver_worked_shift 27 rBody b [x.av]).holds _
  rw [shift_run, allN_two]
  exact shift_tree b x
theorem mo_shift : m_shift.ok N.P := by
  have hc : Callable N.P N.solver_worked_shift := callB_ok (by kernel_rfl)
  have key : ∀ (b : Body) (p : Vec), MutOk N.P N.solver_worked_shift (.ptr 0 27 0 0 :: dVc.enc p) [some ⟨.one (rBody.cells b), false⟩] (.tup []) [some ⟨.one (rBody.cells (sShift b p)), false⟩] := fun b p => k_shift b p
  exact mentP_ok (f := N.solver_worked_shift) (esz := 27) (r := rBody) (D := dVc) (spec := sShift) body_cells hc key
end Go.Flat
end

section
/- Roots of integers, rounded down: by bits, and by Newton's way from above. -/
set_option linter.unusedSimpArgs false
set_option linter.unusedVariables false
namespace Go.Flat
open Go

/-- the root of a number below 4 ^ k -/
def isq : Nat → Nat → Nat
  | 0, _ => 0
  | k + 1, n => if (2 * isq k (n / 4) + 1) * (2 * isq k (n / 4) + 1) ≤ n then 2 * isq k (n / 4) + 1 else 2 * isq k (n / 4)
theorem isq_spec : ∀ (k n : Nat), n < 4 ^ k → isq k n * isq k n ≤ n ∧ n < (isq k n + 1) * (isq k n + 1)
  | 0, n, h => by simp [isq] at h ⊢; omega
  | k + 1, n, h => by
    have h4 : n / 4 < 4 ^ k := by rw [Nat.pow_succ] at h; omega
    obtain ⟨h1, h2⟩ := isq_spec k (n / 4) h4
    unfold isq
    generalize isq k (n / 4) = r at h1 h2
    have e1 : (2 * r) * (2 * r) = 4 * (r * r) := by grind
    have e2 : (2 * r + 1 + 1) * (2 * r + 1 + 1) = 4 * ((r + 1) * (r + 1)) := by grind
    split
    · rename_i h3
      exact ⟨h3, by rw [e2]; omega⟩
    · rename_i h3
      refine ⟨by rw [e1]; omega, by omega⟩
theorem sq_mono {a b : Nat} (h : a ≤ b) : a * a ≤ b * b := Nat.mul_le_mul h h
theorem root_unique {n r s : Nat} (h1 : r * r ≤ n) (h2 : n < (r + 1) * (r + 1)) (h3 : s * s ≤ n) (h4 : n < (s + 1) * (s + 1)) : r = s := by
  rcases Nat.lt_trichotomy r s with h | h | h
  · have := sq_mono (show r + 1 ≤ s from h); omega
  · exact h
  · have := sq_mono (show s + 1 ≤ r from h); omega
/-- one step of Newton's way stays above the root -/
theorem newton_ge {n r s : Nat} (h0 : 0 < r) (h : s * s ≤ n) : 2 * s ≤ r + n / r := by
  apply Nat.le_of_not_lt
  intro hlt
  have h1 : n < (n / r + 1) * r := by
    have h2 := Nat.div_add_mod n r
    have h3 := Nat.mod_lt n h0
    have e : (n / r + 1) * r = r * (n / r) + r := by grind
    omega
  have h5 : (n / r + 1) * r + r * r ≤ 2 * s * r := by
    have : (n / r + 1 + r) * r ≤ 2 * s * r := Nat.mul_le_mul_right r (by omega)
    have e : (n / r + 1 + r) * r = (n / r + 1) * r + r * r := by grind
    omega
  have h6 : 2 * s * r ≤ s * s + r * r := by
    rcases Nat.le_total r s with hle | hle
    · obtain ⟨d, rfl⟩ := Nat.exists_eq_add_of_le hle
      have e : (r + d) * (r + d) + r * r = 2 * (r + d) * r + d * d := by grind
      omega
    · obtain ⟨d, rfl⟩ := Nat.exists_eq_add_of_le hle
      have e : s * s + (s + d) * (s + d) = 2 * s * (s + d) + d * d := by grind
      omega
  omega
/-- where it stops -/
theorem newton_end {n r s : Nat} (h0 : 0 < r) (h : s * s ≤ n) (h2 : n < (s + 1) * (s + 1)) (hr : s ≤ r) (hq : r ≤ n / r) : r = s := by
  have h3 : r * r ≤ n := Nat.le_trans (Nat.mul_le_mul_left r hq) (Nat.mul_div_le n r)
  apply Nat.le_antisymm _ hr
  apply Nat.le_of_not_lt
  intro hlt
  have := sq_mono (show s + 1 ≤ r from hlt)
  omega
theorem root_pos {n s : Nat} (h0 : 0 < n) (h2 : n < (s + 1) * (s + 1)) : 0 < s := by
  rcases s with _ | s
  · simp at h2; omega
  · omega
/-- one bit of the root -/
theorem bit_step {n r p : Nat} (h1 : r * r ≤ n) (h2 : n < (r + 2 * p) * (r + 2 * p)) :
    ((r + p) * (r + p) ≤ n → (r + p) * (r + p) ≤ n ∧ n < (r + p + p) * (r + p + p)) ∧ (n < (r + p) * (r + p) → r * r ≤ n ∧ n < (r + p) * (r + p)) :=
  ⟨fun h => ⟨h, by rw [Nat.add_assoc, ← Nat.two_mul]; exact h2⟩, fun h => ⟨h1, h⟩⟩
end Go.Flat
end

section
/- Contract: the root of two words, by Newton's way. -/
set_option linter.unusedSimpArgs false
set_option linter.unusedVariables false
namespace Go.Flat
open Go

theorem c_Len (x : Int) : Con N.P N.bits_Len64 [lu x] (li (Lib.bitLen x.toNat : Int)) := by
  by_cases hx : 0 ≤ x ∧ x ≤ 18446744073709551615
  · have hle := Go.Proofs.Any.bitLen_le64 x hx.1 hx.2
    refine con_of_calls (by kernel_rfl) ?_ fun hs w => Go.Proofs.Any.bits_Len64 { Go.Proofs.Tryz.lays134 with } x w hx.1 hx.2
    show inK .i64 (Lib.bitLen x.toNat : Int) = true
    rw [inK_iff]
    simp only [IntKind.min, IntKind.max, IntKind.signed, IntKind.bits, if_true]
    omega
  · exact Con.sat (by kernel_rfl) fun hs => absurd (u64_range (hs _ List.mem_cons_self)) (by omega)
def e_Len : Ent := ent1 N.bits_Len64 (cInt .u64) fun x => li (Lib.bitLen x.toNat : Int)
theorem o_Len : e_Len.ok N.P := ent1_ok c_Len
theorem len_lt {x : Nat} (h : x < 18446744073709551616) : x < 2 ^ Lib.bitLen x := by
  by_cases h0 : x = 0
  · subst h0; exact Nat.two_pow_pos _
  · exact (Lib.bitLenAux_bounds 64 x (by simpa using h) h0).2.2

def hRoot : Hints := fun _ _ => some ([1, 4], 999)
def t_root : List Ent := [e_Len, e_Div64, e_Add64]
theorem ok_root : ∀ e ∈ t_root, e.ok N.P := all_cons o_Len (all_cons o_Div64 (all_cons o_Add64 all_nil))
noncomputable abbrev Croot : Ctx := ctxN N.P t_root [] hRoot nn
def sRoot (lo hi r : Int) : St := ⟨[(1, .ptr 0 2 0 0), (4, lu r)], [some ⟨.one [lu lo, lu hi], false⟩]⟩
/-- half of a number of bits, rounded up -/
def halfOf (b : Int) : Int := i64 ((i64 (b + 1)).tdiv 2)
def rGuess (h : Int) : Int := u64 (1 * 2 ^ (min h.toNat 64))
noncomputable def rootEnter (lo hi h : Int) (F : Nat) : Tree AV := .node (decide (h < 64)) (gd (decide (0 ≤ h)) (loopI Croot N.fixed_words_root 0 (F + 5) (sRoot lo hi (rGuess h)) [] (F + 12))) (loopI Croot N.fixed_words_root 0 (F + 5) (sRoot lo hi 18446744073709551615) [] (F + 12))
noncomputable def rootT (lo hi : Int) (F : Nat) : Tree AV := .node (hi != 0) (rootEnter lo hi (halfOf (i64 (64 + (Lib.bitLen hi.toNat : Int)))) F) (rootEnter lo hi (halfOf (Lib.bitLen lo.toNat : Int)) F)
theorem root_start (lo hi : Int) (F : Nat) : runF Croot (F + 12) N.fixed_words_root [.agg [lu lo, lu hi]] = .node (hi == 0) (.node (lo == 0) (.leaf (.ki .u64 0)) (rootT lo hi F)) (rootT lo hi F) := by kernel_rfl
def rHalf (s : Int) : Int := or64 ((s % 18446744073709551616).fdiv (2 ^ 1)) (u64 (s / 18446744073709551616 * 2 ^ 63))
theorem root_step (lo hi r : Int) (F G : Nat) : loopI Croot N.fixed_words_root 0 (F + 40) (sRoot lo hi r) [] (G + 12) =
    .node (decide (hi ≥ r)) (.leaf (lu r)) (gd (decide (0 ≤ hi ∧ hi < r)) (.node (decide ((hi * 18446744073709551616 + lo) / r ≥ r)) (.leaf (lu r))
      (loopI Croot N.fixed_words_root 0 (F + 39) (sRoot lo hi (rHalf (r + (hi * 18446744073709551616 + lo) / r + 0))) [] (G + 12)))) := by kernel_rfl
end Go.Flat
end

section
/- Contract: the root of two words, by Newton's way: what it comes to. -/
set_option linter.unusedSimpArgs false
set_option linter.unusedVariables false
namespace Go.Flat
open Go

theorem two64 : (4 : Nat) ^ 64 = 18446744073709551616 * 18446744073709551616 := by decide
theorem rHalf_eq {s : Nat} (h : s < 36893488147419103232) : rHalf (s : Int) = ((s / 2 : Nat) : Int) := by
  unfold rHalf or64
  have e1 : ((s : Int) % 18446744073709551616).fdiv (2 ^ 1) = ((s % 18446744073709551616 / 2 : Nat) : Int) := by
    rw [Int.fdiv_eq_ediv_of_nonneg _ (by decide)]
    show _ / (2 : Int) = _
    omega
  have e2 : u64 ((s : Int) / 18446744073709551616 * 2 ^ 63) = ((s / 18446744073709551616 * 9223372036854775808 : Nat) : Int) := by
    rw [show ((2 : Int) ^ 63) = 9223372036854775808 from rfl, show (s : Int) / 18446744073709551616 * 9223372036854775808 = ((s / 18446744073709551616 * 9223372036854775808 : Nat) : Int) by omega]
    exact u64_nat (by omega)
  rw [e1, e2, bits_or_u64_nat _ _ (by omega) (by omega)]
  have hc : s / 18446744073709551616 = 0 ∨ s / 18446744073709551616 = 1 := by omega
  rcases hc with hc | hc
  · rw [hc, Nat.zero_mul, Nat.or_zero]
    have : s % 18446744073709551616 = s := by omega
    rw [this]
  · rw [hc, Nat.one_mul]
    have hb : s % 18446744073709551616 / 2 < 2 ^ 63 := by
      show _ < 9223372036854775808
      omega
    have := Nat.two_pow_add_eq_or_of_lt (i := 63) hb 1
    rw [Nat.mul_one, show (2 : Nat) ^ 63 = 9223372036854775808 from rfl] at this
    rw [Nat.or_comm, ← this]
    congr 1
    omega
theorem lt_of_sq {a b : Nat} (h : a * a < b * b) : a < b := by
  apply Nat.lt_of_not_le
  intro hle
  have := sq_mono hle
  omega
theorem root_loop {L H : Nat} (hL : L < 18446744073709551616) (hH : H < 18446744073709551616) (hn : 0 < H * 18446744073709551616 + L) (k r G : Nat) (hk : r < k) (h0 : 0 < r) (h1 : r < 18446744073709551616) (hs : isq 64 (H * 18446744073709551616 + L) ≤ r) :
    (loopI Croot N.fixed_words_root 0 (39 + k) (sRoot L H r) [] (G + 12)).holds fun x => Fits x (lu (isq 64 (H * 18446744073709551616 + L) : Nat)) := by
  have hlt : H * 18446744073709551616 + L < 4 ^ 64 := by rw [two64]; omega
  obtain ⟨s1, s2⟩ := isq_spec 64 _ hlt
  generalize hN : H * 18446744073709551616 + L = n at *
  generalize isq 64 n = s at *
  have hspos := root_pos hn s2
  have key := roundsI (C := Croot) (f := N.fixed_words_root) (i := 0) (ns := []) (m := G + 12) (Q := fun x => Fits x (lu (s : Nat))) (fun r : Nat => sRoot L H r) (fun r => 0 < r ∧ r < 18446744073709551616 ∧ s ≤ r) (fun r : Nat => r) 39 (fun r F ⟨r0, r1, r2⟩ ih => by
    show (loopI Croot N.fixed_words_root 0 (F + 40) (sRoot L H r) [] (G + 12)).holds _
    rw [root_step]
    have eN : (H : Int) * 18446744073709551616 + (L : Int) = (n : Int) := by omega
    rw [eN]
    have eq : (n : Int) / (r : Int) = ((n / r : Nat) : Int) := (Int.natCast_ediv n r).symm
    rw [eq]
    refine ⟨fun h => ?_, fun h => holds_gd ?_ ⟨fun h' => ?_, fun h' => ?_⟩⟩
    · have h := of_decide_eq_true h
      have hle : r ≤ H := by omega
      have h3 : r * r ≤ n := by
        have := Nat.mul_le_mul hle (Nat.le_of_lt r1)
        omega
      have : r < s + 1 := lt_of_sq (by omega)
      have : r = s := by omega
      subst this
      exact Fits.refl _
    · have h := of_decide_eq_false h
      simp only [decide_eq_true_eq]
      omega
    · have h' := of_decide_eq_true h'
      have : r = s := newton_end r0 s1 s2 r2 (by omega)
      subst this
      exact Fits.refl _
    · have h' := of_decide_eq_false h'
      have hq : n / r < r := by omega
      have e : (r : Int) + ((n / r : Nat) : Int) + 0 = ((r + n / r : Nat) : Int) := by omega
      rw [e, rHalf_eq (by omega)]
      have hge := newton_ge r0 s1
      exact ih ((r + n / r) / 2) ⟨by omega, by omega, by omega⟩ (by show (r + n / r) / 2 < r; omega)) k r 0 hk ⟨h0, h1, hs⟩
  rw [Nat.zero_add] at key
  exact key
theorem i64_of {n : Int} (h1 : -9223372036854775808 ≤ n) (h2 : n ≤ 9223372036854775807) : i64 n = n := i64_small h1 h2
theorem half_eq {b : Nat} (hb : b ≤ 128) : halfOf (b : Int) = (((b + 1) / 2 : Nat) : Int) := by
  unfold halfOf
  rw [i64_of (n := (b : Int) + 1) (by omega) (by omega), Int.tdiv_eq_ediv_of_nonneg (by omega)]
  rw [show (((b : Int) + 1) / 2) = (((b + 1) / 2 : Nat) : Int) by omega]
  exact i64_of (by omega) (by omega)
theorem guess_eq {h : Nat} (hh : h < 64) : rGuess (h : Int) = ((2 ^ h : Nat) : Int) := by
  unfold rGuess
  rw [Int.toNat_natCast, Nat.min_eq_left (Nat.le_of_lt hh), Int.one_mul]
  have h1 : (2 : Nat) ^ h < 18446744073709551616 := by
    have := Nat.pow_lt_pow_right (a := 2) (by decide) hh
    exact this
  rw [show ((2 : Int) ^ h) = ((2 ^ h : Nat) : Int) by simp]
  exact u64_nat h1
/-- the first guess is above the root -/
theorem enter_holds {L H b : Nat} (hL : L < 18446744073709551616) (hH : H < 18446744073709551616) (hn : 0 < H * 18446744073709551616 + L) (hb : b ≤ 128) (hnb : H * 18446744073709551616 + L < 2 ^ b) (k : Nat) (hk : ∀ r : Nat, r < 18446744073709551616 → r < k) :
    (rootEnter L H (halfOf (b : Int)) (k + 34)).holds fun x => Fits x (lu (isq 64 (H * 18446744073709551616 + L) : Nat)) := by
  have hlt : H * 18446744073709551616 + L < 4 ^ 64 := by rw [two64]; omega
  obtain ⟨s1, s2⟩ := isq_spec 64 _ hlt
  rw [half_eq hb]
  unfold rootEnter
  have hsq : isq 64 (H * 18446744073709551616 + L) < 2 ^ ((b + 1) / 2) := by
    refine lt_of_sq (Nat.lt_of_le_of_lt s1 (Nat.lt_of_lt_of_le hnb ?_))
    rw [← Nat.pow_add]
    exact Nat.pow_le_pow_right (by decide) (by omega)
  refine ⟨fun h => holds_gd (by simp; omega) ?_, fun h => ?_⟩
  · have h := of_decide_eq_true h
    have hh : (b + 1) / 2 < 64 := by omega
    rw [guess_eq hh]
    have h1 : (2 : Nat) ^ ((b + 1) / 2) < 18446744073709551616 := Nat.pow_lt_pow_right (a := 2) (by decide) hh
    have := root_loop hL hH hn k (2 ^ ((b + 1) / 2)) (k + 34) (hk _ h1) (Nat.two_pow_pos _) h1 (Nat.le_of_lt hsq)
    rw [Nat.add_comm 39 k] at this
    exact this
  · have hS : isq 64 (H * 18446744073709551616 + L) < 18446744073709551616 := by
      refine lt_of_sq (Nat.lt_of_le_of_lt s1 ?_)
      rw [two64] at hlt
      exact hlt
    have := root_loop hL hH hn k 18446744073709551615 (k + 34) (hk _ (by omega)) (by omega) (by omega) (by omega)
    rw [Nat.add_comm 39 k] at this
    exact this
theorem isq_zero : isq 64 (0 * 18446744073709551616 + 0) = 0 := by
  rw [Nat.zero_mul]
  have h := (isq_spec 64 0 (Nat.pow_pos (by decide))).1
  generalize isq 64 0 = s at h
  rcases s with _ | s
  · rfl
  · have := Nat.mul_le_mul (show 1 ≤ s + 1 by omega) (show 1 ≤ s + 1 by omega)
    omega
def nRoot (lo hi : Int) : Int := ((isq 64 (hi.toNat * 18446744073709551616 + lo.toNat) : Nat) : Int)
theorem c_root (w : Int × Int) : Con N.P N.fixed_words_root [cW2.enc w] (lu (nRoot w.1 w.2)) :=
  con_of_runN (t := t_root) (m := []) (hints := hRoot) (nils := nn) ok_root mall_nil named mixed (by kernel_rfl) rfl fun hs => by
    obtain ⟨lo, hi⟩ := w
    have h1 := u64_range ((hs _ List.mem_cons_self).cells (lu lo) List.mem_cons_self)
    have h2 := u64_range ((hs _ List.mem_cons_self).cells (lu hi) (List.mem_cons_of_mem _ List.mem_cons_self))
    obtain ⟨L, rfl⟩ := Int.eq_ofNat_of_zero_le h1.1
    obtain ⟨H, rfl⟩ := Int.eq_ofNat_of_zero_le h2.1
    obtain ⟨k, hk⟩ : ∃ k : Nat, ∀ r : Nat, r < 18446744073709551616 → r < k := ⟨_, fun _ h => h⟩
    refine ⟨k + 34 + 12, ?_⟩
    show (runF Croot _ N.fixed_words_root [.agg [lu (L : Int), lu (H : Int)]]).holds _
    rw [root_start]
    have eR : nRoot (L : Int) (H : Int) = ((isq 64 (H * 18446744073709551616 + L) : Nat) : Int) := by unfold nRoot; rw [Int.toNat_natCast, Int.toNat_natCast]
    show Tree.holds (fun x => Fits x (lu (nRoot (L : Int) (H : Int)))) _
    rw [eR]
    have hL : L < 18446744073709551616 := by omega
    have hH : H < 18446744073709551616 := by omega
    have hbL := Go.Proofs.Any.bitLen_le64 (L : Int) h1.1 h1.2
    have hbH := Go.Proofs.Any.bitLen_le64 (H : Int) h2.1 h2.2
    rw [Int.toNat_natCast] at hbL hbH
    have rt : 0 < H * 18446744073709551616 + L → (rootT (L : Int) (H : Int) (k + 34)).holds fun x => Fits x (lu (isq 64 (H * 18446744073709551616 + L) : Nat)) := fun hn => by
      unfold rootT
      rw [Int.toNat_natCast, Int.toNat_natCast]
      refine ⟨fun h => ?_, fun h => ?_⟩
      · have e : i64 (64 + (Lib.bitLen H : Int)) = ((64 + Lib.bitLen H : Nat) : Int) := by rw [i64_of (by omega) (by omega)]; omega
        rw [e]
        refine enter_holds hL hH hn (by omega) ?_ k hk
        have := len_lt hH
        rw [Nat.pow_add, show (2 : Nat) ^ 64 = 18446744073709551616 from rfl, Nat.mul_comm 18446744073709551616]
        have h3 := Nat.mul_le_mul_right 18446744073709551616 (show H + 1 ≤ 2 ^ Lib.bitLen H from this)
        omega
      · have h0 : H = 0 := by
          have h : ((H : Int) != 0) = false := h
          simpa using h
        subst h0
        refine enter_holds hL hH hn (by omega) ?_ k hk
        have := len_lt hL
        omega
    refine ⟨fun h => ⟨fun h' => ?_, fun h' => rt ?_⟩, fun h => rt ?_⟩
    · have h0 : H = 0 := by simpa using h
      have h3 : L = 0 := by simpa using h'
      subst h0 h3
      rw [isq_zero]
      exact Fits.ki
    · have h3 : ¬ L = 0 := by simpa using h'
      omega
    · have h3 : ¬ H = 0 := by simpa using h
      omega
def e_root : Ent := ent1 N.fixed_words_root cW2 fun w => lu (nRoot w.1 w.2)
theorem o_root : e_root.ok N.P := ent1_ok c_root
end Go.Flat
end

section
/- Contract: the reference's root, bit by bit. -/
set_option linter.unusedSimpArgs false
set_option linter.unusedVariables false
namespace Go.Flat
open Go

def hRr : Hints := fun _ _ => some ([1, 2, 3, 4], 999)
noncomputable abbrev Crr : Ctx := ctxN N.P [e_Mul64, e_rLess] [] hRr nn
def sRr (w : Wd) (r i : Int) : St := ⟨[(1, .ptr 0 3 0 0), (2, .ptr 1 3 0 0), (3, lu r), (4, li i)], [some ⟨.one w.cellsR, false⟩, some ⟨.one [lb false, lu 0, lu 0], false⟩]⟩
def bitC (r i : Int) : Int := or64 r (u64 (1 * 2 ^ (min (u64 i).toNat 64)))
def sqW (c : Int) : Wd := ⟨false, c * c % 18446744073709551616, c * c / 18446744073709551616⟩
theorem rr_start (w : Wd) (F : Nat) : runF Crr (F + 12) N.ref01_root [w.avR] = loopI Crr N.ref01_root 0 (F + 7) (sRr w 0 63) [] (F + 12) := by kernel_rfl
theorem rr_step (w : Wd) (r i : Int) (F G : Nat) : loopI Crr N.ref01_root 0 (F + 40) (sRr w r i) [] (G + 12) =
    .node (decide (i ≥ 0)) (gd (decide (0 ≤ u64 i)) (.node (!rLess w (sqW (bitC r i)))
      (loopI Crr N.ref01_root 0 (F + 39) (sRr w (bitC r i) (i64 (i - 1))) [] (G + 12))
      (loopI Crr N.ref01_root 0 (F + 39) (sRr w r (i64 (i - 1))) [] (G + 12)))) (.leaf (.agg [.kb false, .ki .u64 0, lu r])) := by kernel_rfl

theorem bitC_eq {m t : Nat} (ht : t < 64) (hr : m * 2 ^ (t + 1) + 2 ^ (t + 1) ≤ 18446744073709551616) : bitC ((m * 2 ^ (t + 1) : Nat) : Int) (t : Int) = ((m * 2 ^ (t + 1) + 2 ^ t : Nat) : Int) := by
  unfold bitC or64
  have hp : (2 : Nat) ^ t < 18446744073709551616 := Nat.pow_lt_pow_right (a := 2) (by decide) ht
  have hpos := Nat.two_pow_pos t
  have hs : (2 : Nat) ^ (t + 1) = 2 * 2 ^ t := by rw [Nat.pow_succ]; omega
  have e1 : u64 (t : Int) = t := u64_nat (by omega)
  rw [e1, Int.toNat_natCast, Nat.min_eq_left (Nat.le_of_lt ht), Int.one_mul, show ((2 : Int) ^ t) = ((2 ^ t : Nat) : Int) by simp, u64_nat hp, bits_or_u64_nat _ _ (by omega) hp]
  have := Nat.two_pow_add_eq_or_of_lt (i := t + 1) (b := 2 ^ t) (by omega) m
  rw [Nat.mul_comm (2 ^ (t + 1)) m] at this
  rw [← this]
theorem less_sq {w : Wd} {H L c : Nat} (hw : w.lo = (L : Int)) (hh : w.hi = (H : Int)) (hL : L < 18446744073709551616) (hH : H < 18446744073709551616) (hc : c < 18446744073709551616) :
    (!rLess w (sqW (c : Int))) = decide (c * c ≤ H * 18446744073709551616 + L) := by
  have hwv : w.valid := by unfold Wd.valid; rw [hw, hh]; omega
  have hcc : c * c < 18446744073709551616 * 18446744073709551616 := by
    rcases Nat.eq_zero_or_pos c with h | h
    · subst h; omega
    · exact Nat.mul_lt_mul'' hc hc
  have e1 : (c : Int) * (c : Int) % 18446744073709551616 = ((c * c % 18446744073709551616 : Nat) : Int) := by
    rw [← Int.natCast_mul]; rfl
  have e2 : (c : Int) * (c : Int) / 18446744073709551616 = ((c * c / 18446744073709551616 : Nat) : Int) := by
    rw [← Int.natCast_mul]; rfl
  have hq : c * c / 18446744073709551616 < 18446744073709551616 := (Nat.div_lt_iff_lt_mul (by decide)).2 hcc
  have hsv : (sqW (c : Int)).valid := by
    unfold Wd.valid sqW
    simp only [e1, e2]
    omega
  have hm : (sqW (c : Int)).m = ((c * c : Nat) : Int) := by
    unfold Wd.m sqW
    simp only [e1, e2]
    omega
  have hwm : w.m = ((H * 18446744073709551616 + L : Nat) : Int) := by unfold Wd.m; rw [hw, hh]; omega
  have key := rLess_iff hwv hsv
  rw [hm, hwm] at key
  by_cases h : c * c ≤ H * 18446744073709551616 + L
  · have : rLess w (sqW (c : Int)) = false := by
      cases hq : rLess w (sqW (c : Int)) with
      | false => rfl
      | true => have := key.1 hq; omega
    rw [this]; simp [h]
  · have : rLess w (sqW (c : Int)) = true := key.2 (by omega)
    rw [this]; simp [h]
def rrI (n : Nat) (s : Nat × Nat) : Prop := s.2 ≤ 64 ∧ ∃ m, s.1 = m * 2 ^ s.2 ∧ s.1 * s.1 ≤ n ∧ n < (s.1 + 2 ^ s.2) * (s.1 + 2 ^ s.2) ∧ s.1 + 2 ^ s.2 ≤ 18446744073709551616
theorem rr_loop {w : Wd} {H L : Nat} (hw : w.lo = (L : Int)) (hh : w.hi = (H : Int)) (hL : L < 18446744073709551616) (hH : H < 18446744073709551616) (G : Nat) :
    ∀ (k : Nat) (s : Nat × Nat) (F : Nat), s.2 < k → rrI (H * 18446744073709551616 + L) s →
      (loopI Crr N.ref01_root 0 (F + 39 + k) (sRr w (s.1 : Nat) ((s.2 : Int) - 1)) [] (G + 12)).holds fun x => Fits x (⟨false, ((isq 64 (H * 18446744073709551616 + L) : Nat) : Int), 0⟩ : Wd).avR := by
  have hlt : H * 18446744073709551616 + L < 4 ^ 64 := by rw [two64]; omega
  obtain ⟨s1, s2⟩ := isq_spec 64 _ hlt
  generalize hN : H * 18446744073709551616 + L = n at *
  generalize isq 64 n = q at *
  refine roundsI (C := Crr) (f := N.ref01_root) (i := 0) (ns := []) (m := G + 12) (fun s : Nat × Nat => sRr w (s.1 : Nat) ((s.2 : Int) - 1)) (rrI n) (fun s => s.2) 39 (fun s F hI ih => ?_)
  obtain ⟨r, j⟩ := s
  obtain ⟨hj, m, hm, h1, h2, h3⟩ := hI
  simp only at hj hm h1 h2 h3 ih ⊢
  show (loopI Crr N.ref01_root 0 (F + 40) (sRr w (r : Nat) ((j : Int) - 1)) [] (G + 12)).holds _
  rw [rr_step]
  cases j with
  | zero =>
    refine ⟨fun h => ?_, fun _ => ?_⟩
    · have := of_decide_eq_true h; omega
    · have : r = q := root_unique h1 (by simpa using h2) s1 s2
      subst this
      exact Fits.agg (.cons Fits.kb rfl rfl (.cons Fits.ki rfl rfl (.cons (Fits.refl _) rfl rfl .nil)))
  | succ t =>
    have hpos := Nat.two_pow_pos t
    have hs : (2 : Nat) ^ (t + 1) = 2 * 2 ^ t := by rw [Nat.pow_succ]; omega
    have et : (((t + 1 : Nat) : Int) - 1) = (t : Int) := by omega
    have ei : i64 ((t : Int) - 1) = (t : Int) - 1 := i64_of (by omega) (by omega)
    have eu : u64 (t : Int) = t := u64_nat (by omega)
    have ec : bitC ((r : Nat) : Int) (t : Int) = ((r + 2 ^ t : Nat) : Int) := by
      rw [hm]
      exact bitC_eq (by omega) (by rw [← hm]; exact h3)
    rw [et, ei, ec, eu]
    have hc : r + 2 ^ t < 18446744073709551616 := by omega
    rw [less_sq hw hh hL hH hc, hN]
    obtain ⟨b1, b2⟩ := bit_step (p := 2 ^ t) h1 (by rw [← hs]; exact h2)
    refine ⟨fun _ => holds_gd (by simp) ⟨fun h => ?_, fun h => ?_⟩, fun h => ?_⟩
    · have h := of_decide_eq_true h
      obtain ⟨b3, b4⟩ := b1 h
      exact ih (r + 2 ^ t, t) ⟨by show t ≤ 64; omega, 2 * m + 1, by show r + 2 ^ t = (2 * m + 1) * 2 ^ t; rw [hm, hs]; grind, b3, b4, by show r + 2 ^ t + 2 ^ t ≤ _; omega⟩ (Nat.lt_succ_self t)
    · have h := of_decide_eq_false h
      obtain ⟨b3, b4⟩ := b2 (by omega)
      exact ih (r, t) ⟨by show t ≤ 64; omega, 2 * m, by show r = 2 * m * 2 ^ t; rw [hm, hs]; grind, b3, b4, by show r + 2 ^ t ≤ _; omega⟩ (Nat.lt_succ_self t)
    · have := of_decide_eq_false h; omega
def nRootW (w : Wd) : Wd := ⟨false, nRoot w.lo w.hi, 0⟩
theorem c_rRoot (w : Wd) : Con N.P N.ref01_root [w.avR] (nRootW w).avR :=
  con_of_runN (t := [e_Mul64, e_rLess]) (m := []) (hints := hRr) (nils := nn) (all_cons o_Mul64 (all_cons o_rLess all_nil)) mall_nil named mixed (by kernel_rfl) rfl fun hs => by
    have h2 := u64_range ((hs _ List.mem_cons_self).cells (lu w.hi) (List.mem_cons_of_mem _ List.mem_cons_self))
    have h1 := u64_range ((hs _ List.mem_cons_self).cells (lu w.lo) (List.mem_cons_of_mem _ (List.mem_cons_of_mem _ List.mem_cons_self)))
    obtain ⟨L, hL⟩ := Int.eq_ofNat_of_zero_le h1.1
    obtain ⟨H, hH⟩ := Int.eq_ofNat_of_zero_le h2.1
    have lL : L < 18446744073709551616 := by omega
    have lH : H < 18446744073709551616 := by omega
    refine ⟨39 + 65 + 5, ?_⟩
    show (runF Crr (97 + 12) N.ref01_root [w.avR]).holds _
    rw [rr_start]
    have key := rr_loop hL hH lL lH 97 65 (0, 64) 0 (by decide) ⟨Nat.le_refl _, 0, by simp, by simp, by
      have hlt : H * 18446744073709551616 + L < 4 ^ 64 := by rw [two64]; omega
      show _ < (0 + 2 ^ 64) * (0 + 2 ^ 64)
      rw [Nat.zero_add, show (2 : Nat) ^ 64 = 18446744073709551616 from rfl, ← two64]; exact hlt, by show 0 + 2 ^ 64 ≤ _; rw [Nat.zero_add]; exact Nat.le_refl _⟩
    have e : nRootW w = ⟨false, ((isq 64 (H * 18446744073709551616 + L) : Nat) : Int), 0⟩ := by
      unfold nRootW nRoot; rw [hL, hH]; rfl
    rw [e]
    exact key
def e_rRoot : Ent := ent1 N.ref01_root cWdR fun w => (nRootW w).avR
theorem o_rRoot : e_rRoot.ok N.P := ent1_ok c_rRoot
end Go.Flat
end

section
/- Contracts: Hypot, both sides. -/
set_option linter.unusedSimpArgs false
set_option linter.unusedVariables false
namespace Go.Flat
open Go

def nHypot (a b : Num) : Num := nFit ((isq 64 (sv a * sv a + sv b * sv b).toNat : Nat) : Int) (sf a || sf b)
theorem sq_nonneg (a : Int) : 0 ≤ a * a := by
  rcases Int.le_total 0 a with h | h
  · exact Int.mul_nonneg h h
  · exact Int.mul_nonneg_of_nonpos_of_nonpos h h
/-- the root of a wide number that is not below 0 -/
theorem root_of {x : Wd} {z : Int} (hx : x.valid) (hv : x.v = z) (hz : 0 ≤ z) (f : Bool) : wFit ⟨false, nRoot x.lo x.hi, 0⟩ f = nFit ((isq 64 z.toNat : Nat) : Int) f := by
  have hm0 := m_nonneg hx
  have hm : x.m = z := by
    unfold Wd.v at hv
    cases hn : x.neg with
    | false => rw [hn] at hv; exact hv
    | true => rw [hn] at hv; simp only [cond_true] at hv; omega
  have hx' := hx
  unfold Wd.valid at hx'
  have e : nRoot x.lo x.hi = ((isq 64 z.toNat : Nat) : Int) := by
    unfold nRoot
    have : x.hi.toNat * 18446744073709551616 + x.lo.toNat = z.toNat := by
      unfold Wd.m at hm
      omega
    rw [this]
  rw [e]
  have hlt : z.toNat < 4 ^ 64 := by
    rw [two64]
    unfold Wd.m at hm
    omega
  obtain ⟨s1, s2⟩ := isq_spec 64 _ hlt
  have hS : isq 64 z.toNat < 18446744073709551616 := by
    refine lt_of_sq (Nat.lt_of_le_of_lt s1 ?_)
    rw [two64] at hlt
    exact hlt
  generalize isq 64 z.toNat = s at hS
  have hv2 : (⟨false, ((s : Nat) : Int), 0⟩ : Wd).valid := by
    unfold Wd.valid
    simp only
    omega
  rw [wFit_eq hv2]
  unfold Wd.v Wd.m
  simp
theorem c_Hypot (a b : Num) : Con N.P N.fixed_Hypot [a.av, b.av] (nHypot a b).av :=
  Con.sat (by kernel_rfl) fun hs => by
    have ha := sv_bound a (sat_num (hs _ List.mem_cons_self))
    have hb := sv_bound b (sat_num (hs _ (by simp)))
    obtain ⟨k1, k2, k3⟩ := wMul_valid (a := sv a) (b := sv a) (by omega) (by omega)
    obtain ⟨l1, l2, l3⟩ := wMul_valid (a := sv b) (b := sv b) (by omega) (by omega)
    obtain ⟨m1, m2, m3⟩ := wPlus_valid k1 l1 (by omega)
    rw [k2, l2] at m2
    have h0 : 0 ≤ sv a * sv a + sv b * sv b := Int.add_nonneg (sq_nonneg _) (sq_nonneg _)
    have e : nHypot a b = wFit ⟨false, nRoot (wPlus (wMul (sv a) (sv a)) (wMul (sv b) (sv b))).lo (wPlus (wMul (sv a) (sv a)) (wMul (sv b) (sv b))).hi, 0⟩ (anyF [nSound a, nSound b]) := by
      rw [root_of m1 m2 h0, sound_F]; rfl
    rw [e]
    exact con_of_one (t := [e_sound, e_product, e_plus, e_root, e_flags, e_fit]) (hints := Flat.h0) (all_cons o_sound (all_cons o_product (all_cons o_plus (all_cons o_root (all_cons o_flags (all_cons o_fit all_nil)))))) (by kernel_rfl) rfl 60 (by kernel_rfl)
def e_Hypot : Ent := ent2 N.fixed_Hypot cNum cNum fun a b => (nHypot a b).av
theorem o_Hypot : e_Hypot.ok N.P := ent2_ok c_Hypot
theorem c_rHypot (a b : Num) : Con N.P N.ref01_Hypot [a.av, b.av] (nHypot a b).av :=
  Con.sat (by kernel_rfl) fun hs => by
    have ha := sv_bound a (sat_num (hs _ List.mem_cons_self))
    have hb := sv_bound b (sat_num (hs _ (by simp)))
    obtain ⟨k1, k2, k3⟩ := rMul_valid (a := sv a) (b := sv a) (by omega) (by omega)
    obtain ⟨l1, l2, l3⟩ := rMul_valid (a := sv b) (b := sv b) (by omega) (by omega)
    obtain ⟨m1, m2, m3⟩ := rPlus_valid k1 l1 (by omega)
    rw [k2, l2] at m2
    have h0 : 0 ≤ sv a * sv a + sv b * sv b := Int.add_nonneg (sq_nonneg _) (sq_nonneg _)
    have e : ∀ f, wFit (nRootW (rPlus (rMul (sv a) (sv a)) (rMul (sv b) (sv b)))) f = nFit ((isq 64 (sv a * sv a + sv b * sv b).toNat : Nat) : Int) f := fun f => root_of m1 m2 h0 f
    exact con_ty (c := cNum) (t := [e_rWhole, e_rTimes, e_rPlus, e_rRoot, e_rFit]) (hints := Flat.h0) (all_cons o_rWhole (all_cons o_rTimes (all_cons o_rPlus (all_cons o_rRoot (all_cons o_rFit all_nil))))) (by kernel_rfl) rfl 60
      (.node (sf a) (.leaf (wFit (nRootW (rPlus (rMul (sv a) (sv a)) (rMul (sv b) (sv b)))) true)) (.leaf (wFit (nRootW (rPlus (rMul (sv a) (sv a)) (rMul (sv b) (sv b)))) (sf b)))) (by kernel_rfl) fun _ => by
        refine ⟨fun h => ?_, fun h => ?_⟩ <;> show _ = _ <;> rw [e] <;> unfold nHypot <;> rw [h] <;> rfl
def e_rHypot : Ent := ent2 N.ref01_Hypot cNum cNum fun a b => (nHypot a b).av
theorem o_rHypot : e_rHypot.ok N.P := ent2_ok c_rHypot
end Go.Flat
end
