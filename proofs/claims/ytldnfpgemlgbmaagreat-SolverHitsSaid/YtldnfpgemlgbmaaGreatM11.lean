/- What is proved in the end: SolverHits returns true whatever the input, and its input reads as it did; no condition.
This text: C47, C48, C49, C51, C52. -/
import Derived.Test.YtldnfpgemlgbmaaGreatM10

section
/- The two sides' depths of a contact come to the same. -/
set_option linter.unusedSimpArgs false
set_option linter.unusedVariables false
namespace Go.Flat
open Go

theorem sv_ne (a : Num) : sv a ≠ -9223372036854775808 := by
  unfold sv nSound
  cases h : decide (a.V = -9223372036854775808) with
  | true => simp
  | false => have := of_decide_eq_false h; simpa using this
theorem sv_of {v : Int} {f : Bool} (h : v ≠ -9223372036854775808) : sv ⟨v, f⟩ = v ∧ sf ⟨v, f⟩ = f := by
  unfold sv sf nSound
  simp [h]
theorem max_two (a b : Num) : nMax [a, b] = ⟨max (sv a) (sv b), sf a || sf b⟩ := by
  unfold nMax; simp
theorem max_ne (a b : Num) : max (sv a) (sv b) ≠ -9223372036854775808 := by
  have h1 := sv_ne a
  have h2 := sv_ne b
  omega
theorem max_same (d : Num) : sv (nMax [d, d]) = sv d ∧ sf (nMax [d, d]) = sf d := by
  rw [max_two]
  obtain ⟨h1, h2⟩ := sv_of (f := sf d || sf d) (max_ne d d)
  rw [h1, h2]
  exact ⟨by omega, by simp⟩
theorem sub_same (d y : Num) : nSub (nMax [d, d]) y = nSub d y := by
  obtain ⟨h1, h2⟩ := max_same d
  unfold nSub nSum
  simp only [List.map_cons, List.any_cons]
  rw [h1, h2]
theorem max_max (d e : Num) : nMax [nMax [d, d], e] = nMax [d, e] := by
  obtain ⟨h1, h2⟩ := max_same d
  rw [max_two (nMax [d, d]) e, max_two d e, h1, h2]
theorem ap_same (a b : Body) (n : Vec) (d : Num) : apA a b n (nMax [d, d]) = apA a b n d ∧ apB a b n (nMax [d, d]) = apB a b n d := by
  unfold apA apB apK
  rw [sub_same]
  exact ⟨rfl, rfl⟩
end Go.Flat
end

section
/- The reference's Part: its runs at indexes that are not there. -/
set_option linter.unusedSimpArgs false
set_option linter.unusedVariables false
namespace Go.Flat
open Go

def Tree.ls {α : Type} : Nat → Tree α → Tree α
  | 0, t => t
  | n + 1, t => Tree.ls n t.l
noncomputable abbrev runRP (n : Nat) (l : Nat → Body) (c : Contact) : Tree AV := runF CrP 60 N.ref05_Part [.vsl true 27 n (fun i => rBody.cells (l i)), c.av]
theorem rno0 (l : Nat → Body) (c : Contact) : runRP 0 l c = .node (!apartB (0 : Nat) c.A c.B) (.leaf .nsl) (runRP 0 l c).r := by kernel_rfl
theorem rno1 (l : Nat → Body) (c : Contact) : runRP 1 l c = rNoT 1 l c.A c.B (Tree.ls 3 (runRP 1 l c)).r := by kernel_rfl
theorem rno2 (l : Nat → Body) (c : Contact) : runRP 2 l c = rNoT 2 l c.A c.B (Tree.ls 7 (runRP 2 l c)).r := by kernel_rfl
theorem rno3 (l : Nat → Body) (c : Contact) : runRP 3 l c = rNoT 3 l c.A c.B (Tree.ls 11 (runRP 3 l c)).r := by kernel_rfl
theorem rno4 (l : Nat → Body) (c : Contact) : runRP 4 l c = rNoT 4 l c.A c.B (Tree.ls 15 (runRP 4 l c)).r := by kernel_rfl
theorem rno5 (l : Nat → Body) (c : Contact) : runRP 5 l c = rNoT 5 l c.A c.B (Tree.ls 19 (runRP 5 l c)).r := by kernel_rfl
end Go.Flat
end

section
/- Contract: the reference's Part, at lists of at most five bodies. -/
set_option linter.unusedSimpArgs false
set_option linter.unusedVariables false
namespace Go.Flat
open Go

theorem conds_r {n : Nat} {l : Nat → Body} (h : ∀ i, i < n → (l i).small = true) : ∀ c ∈ condsR n l, c = true := fun c hc => by
  unfold condsR at hc
  obtain ⟨i, hi, hc⟩ := List.mem_flatMap.1 hc
  have hi := List.mem_range.1 hi
  rcases List.mem_cons.1 hc with rfl | hc
  · exact h i hi
  rcases List.mem_cons.1 hc with rfl | hc
  · exact okS_true _
  cases i with
  | zero => simpa using hc
  | succ i => simpa using hc
theorem leafR_holds (n : Nat) (L : List Body) : (leafR n L).holds fun x => Fits x (rBody.encS (slN n L)) := holds_gd rfl (fits_rowsN n L)
theorem lst_len (n : Nat) (l : Nat → Body) : (lstN n l).length = n := by simp [lstN]
theorem lst_at {n i : Nat} (l : Nat → Body) (h : i < n) : bAt (lstN n l) i = l i := by simp [bAt, lstN, List.getD, h]
theorem rpart_all {n i j : Nat} (hn : n ≤ 5) (hi : i < n) (hj : j < n) (hij : i ≠ j) : RPartP n i j := by
  rcases n with _ | _ | _ | _ | _ | _ | n
  · omega
  · omega
  · exact rpart_2 i hi j hj hij
  · exact rpart_3 i hi j hj hij
  · exact rpart_4 i hi j hj hij
  · exact rpart_5 i hi j hj hij
  · omega
theorem ok_rPart : ∀ e ∈ t_rPart, e.ok N.P := all_cons o_rCopy (all_cons o_rApart (all_cons o_rMax (all_cons o_rAddN (all_cons o_rDiv (all_cons o_rMul (all_cons o_rSub (all_cons o_slop (all_cons o_beta (all_cons o_rMoved (all_cons o_rVSub (all_cons o_rScale (all_cons o_rAdd all_nil))))))))))))
theorem rcon {args : List AV} {s : Sl Body} (tr : Tree AV) (h : runF CrP 60 N.ref05_Part args = tr) (h2 : tr.holds fun x => Fits x (rBody.encS s)) : Con N.P N.ref05_Part args (rBody.encS s) :=
  con_treeLG (P := N.P) (t := t_rPart) (m := []) (l := []) (rs := []) (hints := h0) (nils := nn) ok_rPart mall_nil mall_nil rall_nil named mixed (f := N.ref05_Part) (by kernel_rfl) rfl 60 tr h fun _ => h2
theorem rno_con {n : Nat} {l : Nat → Body} {c : Contact} {rest : Tree AV} (hs : ∀ i, i < n → (l i).small = true) (ha : apartB n c.A c.B = false)
    (h : runF CrP 60 N.ref05_Part [.vsl true 27 n (fun i => rBody.cells (l i)), c.av] = rNoT n l c.A c.B rest) : Con N.P N.ref05_Part [.vsl true 27 n (fun i => rBody.cells (l i)), c.av] (rBody.encS (slN n (lstN n l))) :=
  rcon _ h (holds_guards (conds_r hs) (holds_yes (by rw [ha]; rfl) (leafR_holds _ _)))
theorem rno_all {n : Nat} (hn : n ≤ 5) {l : Nat → Body} {c : Contact} (hs : ∀ i, i < n → (l i).small = true) (ha : apartB n c.A c.B = false) :
    Con N.P N.ref05_Part [.vsl true 27 n (fun i => rBody.cells (l i)), c.av] (rBody.encS (slN n (lstN n l))) := by
  rcases n with _ | _ | _ | _ | _ | _ | n
  · exact rcon _ (rno0 l c) (holds_yes (by rw [ha]; rfl) Fits.nsl)
  · exact rno_con hs ha (rno1 l c)
  · exact rno_con hs ha (rno2 l c)
  · exact rno_con hs ha (rno3 l c)
  · exact rno_con hs ha (rno4 l c)
  · exact rno_con hs ha (rno5 l c)
  · omega
theorem nn_lt {n : Nat} {k : Nat} (h : k < n) : (decide ((0 : Int) ≤ k) && decide ((k : Int) < (n : Int))) = true := by simp; exact h
theorem tail_holds {n i j : Nat} {L : List Body} {c : Contact} {d : Num} {R : List Body}
    (h1 : ((nAdd (bAt L i).Wt.M (bAt L j).Wt.M).V == 0) = true → R = L)
    (h2 : ((nAdd (bAt L i).Wt.M (bAt L j).Wt.M).V == 0) = false → R = (L.set i (apA (bAt L i) (bAt L j) c.M.N d)).set j (apB (bAt L i) (bAt L j) c.M.N d)) :
    (tailR n i j L c d).holds fun x => Fits x (rBody.encS (slN n R)) := by
  refine ⟨fun h => ?_, fun h => holds_gd (okS_true _) (holds_gd rfl (holds_gd (okS_true _) (holds_gd rfl ?_)))⟩
  · rw [h1 h]; exact leafR_holds _ _
  · rw [h2 h]; exact leafR_holds _ _
theorem rtree_holds {n i j : Nat} {l : Nat → Body} {c : Contact} (hs : ∀ k, k < n → (l k).small = true) (hi : i < n) (hj : j < n) (hij : i ≠ j) (hA : c.A = i) (hB : c.B = j) :
    (rPartT n i j l c).holds fun x => Fits x (rBody.encS (slN n (sPart (lstN n l) c))) := by
  have ha : apartB n i j = true := by
    simp only [apartB, Bool.and_eq_true, decide_eq_true_eq, bne_iff_ne]; omega
  have ha' : apartB (lstN n l).length c.A c.B = true := by rw [lst_len, hA, hB]; exact ha
  have eA : c.A.toNat = i := by omega
  have eB : c.B.toNat = j := by omega
  have e0 : sPart (lstN n l) c = (match c.M.L.len with
    | 0 => lstN n l
    | k + 1 => bif (nAdd (bAt (lstN n l) i).Wt.M (bAt (lstN n l) j).Wt.M).V == 0 then lstN n l else
      ((lstN n l).set i (apA (bAt (lstN n l) i) (bAt (lstN n l) j) c.M.N (deepOf c (k + 1)))).set j (apB (bAt (lstN n l) i) (bAt (lstN n l) j) c.M.N (deepOf c (k + 1)))) := by
    unfold sPart; rw [ha', eA, eB]; rfl
  rw [e0]
  refine holds_guards (conds_r hs) (holds_no (by rw [ha]; rfl) ?_)
  generalize lstN n l = L
  generalize hk : c.M.L.len = k
  rcases k with _ | _ | k
  · exact holds_yes (by simp) (leafR_holds _ _)
  · refine holds_no (by simp) (holds_gd (by simp) (holds_no (by simp) (tail_holds (fun h => by simp only [h, cond_true]) (fun h => ?_))))
    simp only [h, cond_false]
    have := ap_same (bAt L i) (bAt L j) c.M.N (c.M.L.at' 0).Depth
    show (L.set i (apA _ _ _ (nMax [_, _]))).set j (apB _ _ _ (nMax [_, _])) = _
    rw [this.1, this.2]
  · refine holds_no (by simp; omega) (holds_gd (by simp; omega) (holds_yes (by simp; omega) (holds_gd (by simp; omega) (tail_holds (fun h => by simp only [h, cond_true]) (fun h => ?_)))))
    simp only [h, cond_false]
    show (L.set i (apA _ _ _ (nMax [nMax [_, _], _]))).set j (apB _ _ _ (nMax [nMax [_, _], _])) = _
    rw [max_max]
theorem fits2 {a b a' b' : AV} (h1 : Fits a a') (h2 : Fits b b') : ∀ (i : Nat) (x x' : AV), [a, b][i]? = some x → [a', b'][i]? = some x' → Fits x x' := fun i x x' hi hi' => by
  rcases i with _ | _ | i
  · cases hi; cases hi'; exact h1
  · cases hi; cases hi'; exact h2
  · cases hi
theorem fits_conAB {c : Contact} {i j : Int} (hA : c.A = i) (hB : c.B = j) : Fits c.av (.agg (conAB c i j)) := by
  subst hA hB
  exact Fits.agg (.cons fits_ki rfl rfl (.cons fits_ki rfl rfl (FitsL.refl_of rfl)))
theorem c_rPart (l : Sl Body) (c : Contact) (h : okPart l c = true) : Con N.P N.ref05_Part [rBody.encS l, c.av] (rBody.encS (slN l.len (sPart (lstN l.len l.at') c))) := by
  simp only [okPart, Bool.and_eq_true, smallAll] at h
  obtain ⟨h1, ⟨_, h2⟩, h3⟩ := h
  have hn := Nat.le_of_ble_eq_true h1
  have hs : ∀ k, k < l.len → (l.at' k).small = true := fun k hk => allN_iff.1 h2 k hk
  cases hv : apartB l.len c.A c.B with
  | false =>
    have e : sPart (lstN l.len l.at') c = lstN l.len l.at' := by unfold sPart; rw [lst_len, hv]; rfl
    rw [e]
    refine Con.args (args' := [.vsl true 27 l.len (fun i => rBody.cells (l.at' i)), c.av]) rfl (fun i a a' hi hi' => ?_) (rno_all hn hs hv)
    rcases i with _ | _ | i <;> simp at hi hi' <;> subst hi <;> subst hi'
    · exact Fits.vslk true
    · exact Fits.refl _
  | true =>
    have hv' := hv
    simp only [apartB, Bool.and_eq_true, decide_eq_true_eq, bne_iff_ne] at hv'
    obtain ⟨v1, v2, v3, v4, v5⟩ := hv'
    have hA : c.A = (c.A.toNat : Nat) := by omega
    have hB : c.B = (c.B.toNat : Nat) := by omega
    have hi : c.A.toNat < l.len := by omega
    have hj : c.B.toNat < l.len := by omega
    have hij : c.A.toNat ≠ c.B.toNat := by omega
    refine Con.args (args' := [.vsl true 27 l.len (fun i => rBody.cells (l.at' i)), .agg (conAB c c.A.toNat c.B.toNat)]) rfl (fits2 (Fits.vslk true) (fits_conAB hA hB)) (rcon _ (rpart_all hn hi hj hij l.at' c) (rtree_holds hs hi hj hij hA hB))
def e_rPart : Ent := entC2 N.ref05_Part rBody.cSl rContact.agg okPart fun l c => rBody.encS (slN l.len (sPart (lstN l.len l.at') c))
theorem o_rPart : e_rPart.ok N.P := entC2_ok c_rPart
end Go.Flat
end

section
/- Contract: equality of contacts. The law SolverParts. -/
set_option linter.unusedSimpArgs false
set_option linter.unusedVariables false
namespace Go.Flat
open Go

def conEq (a b : Contact) : Bool := bif a.A == b.A then (bif a.B == b.B then (bif maniEq a.M b.M then (bif numEq a.P0 b.P0 && (numEq a.P1 b.P1 && true) then numEq a.R0 b.R0 && (numEq a.R1 b.R1 && true) else false) else false) else false) else false
theorem c_SameContact (a b : Contact) : Con N.P N.kit_SameContact [a.av, b.av] (lb (conEq a b)) :=
  con_ty (c := cBool) (t := [e_SameManifold]) (hints := h0) (all_cons o_SameManifold all_nil) (by kernel_rfl) rfl 60
    (.node (a.A == b.A) (.node (a.B == b.B) (gd (okTs a.M.L) (gd (okTs b.M.L) (.node (maniEq a.M b.M)
      (.node (numEq a.P0 b.P0 && (numEq a.P1 b.P1 && true)) (.leaf (numEq a.R0 b.R0 && (numEq a.R1 b.R1 && true))) (.leaf false)) (.leaf false)))) (.leaf false)) (.leaf false)) (by kernel_rfl) fun _ => by
    unfold conEq
    refine ⟨fun h1 => ⟨fun h2 => holds_gd (okTs_true _) (holds_gd (okTs_true _) ⟨fun h3 => ⟨fun h4 => ?_, fun h4 => ?_⟩, fun h3 => ?_⟩), fun h2 => ?_⟩, fun h1 => ?_⟩ <;> show _ = _
    · rw [h1, h2, h3, h4]; rfl
    · rw [h1, h2, h3, h4]; rfl
    · rw [h1, h2, h3]; rfl
    · rw [h1, h2]; rfl
    · rw [h1]; rfl
def e_SameContact : Ent := ent2 N.kit_SameContact rContact.agg rContact.agg fun a b => lb (conEq a b)
theorem o_SameContact : e_SameContact.ok N.P := ent2_ok c_SameContact
def t_parts : List Ent := [e_light, e_awake, e_OwnBodies, e_OwnContact, e_SameBodies, e_Part, e_rPart, e_SameContact]
theorem ok_parts : ∀ e ∈ t_parts, e.ok N.P := all_cons o_light (all_cons o_awake (all_cons o_OwnBodies (all_cons o_OwnContact (all_cons o_SameBodies (all_cons o_Part (all_cons o_rPart (all_cons o_SameContact all_nil)))))))
theorem numEq_refl (a : Num) : numEq a a = true := by simp [numEq]
theorem vecEq_refl (a : Vec) : vecEq a a = true := by simp [vecEq, numEq_refl]
theorem touchEq_refl (a : Touch) : touchEq a a = true := by simp [touchEq, numEq_refl, vecEq_refl]
theorem maniEq_refl (a : Mani) : maniEq a a = true := by
  unfold maniEq touchesEq
  rw [vecEq_refl]
  simp only [bne_self_eq_false, cond_false, Bool.true_and]
  exact allN_iff.2 fun i _ => touchEq_refl _
theorem conEq_refl (a : Contact) : conEq a a = true := by simp [conEq, numEq_refl, maniEq_refl]
theorem smallN_of {n : Nat} (h : n ≤ 12) : smallN n = true := Nat.ble_eq_true_of_le (by omega)
theorem light_all {l : Sl Body} (hn : l.len ≤ 12) (h : lightAll l = true) : smallAll l = true := by
  unfold smallAll
  rw [smallN_of hn]
  exact allN_iff.2 fun i hi => light_small (allN_iff.1 h i hi)
def oT (s : Sl Touch) (t : Tree AV) : Tree AV := gd (okTs s) t
def oB (s : Sl Body) (t : Tree AV) : Tree AV := gd (okB s) t
theorem oT_holds {Q : AV → Prop} {s : Sl Touch} {t : Tree AV} (h : t.holds Q) : (oT s t).holds Q := holds_gd (okTs_true _) h
theorem oB_holds {Q : AV → Prop} {s : Sl Body} {t : Tree AV} (h : t.holds Q) : (oB s t).holds Q := holds_gd (okB_true _) h
def no : Tree AV := .leaf (.kb false)
def yes : Tree AV := .leaf (lb true)
theorem yes_holds : yes.holds fun x => Fits x (lb true) := Fits.refl _
/-- the end of many laws: the arguments are as they were -/
def tailLC (l : Sl Body) (c : Contact) : Tree AV := oB l (oB l (.node (bodiesEq l l) (oT c.M.L (oT c.M.L (.node (conEq c c) yes no))) no))
theorem tailLC_holds (l : Sl Body) (c : Contact) : (tailLC l c).holds fun x => Fits x (lb true) := oB_holds (oB_holds (holds_yes (bodiesEq_refl l) (oT_holds (oT_holds (holds_yes (conEq_refl c) yes_holds)))))
def sP (l : Sl Body) (c : Contact) : Sl Body := slN l.len (sPart (lstN l.len l.at') c)
def partsTree (l : Sl Body) (c : Contact) : Tree AV := .node (decide ((l.len : Int) > 5)) yes (oB l (.node (!lightAll l) yes (.node (decide ((c.M.L.len : Int) > 6)) yes
  (gd (smallAll l) (oB l (gd c.small (oT c.M.L (gd (okPart l c) (oB l (oT c.M.L (gd (okPart l c) (oB l (oT c.M.L (oB (sP l c) (oB (sP l c) (.node (bodiesEq (sP l c) (sP l c)) (tailLC l c) no))))))))))))))))
theorem parts_tree (l : Sl Body) (c : Contact) : runF (ctxN N.P t_parts [] h0 nn) 60 N.law05_SolverParts [rBody.encS l, c.av] = partsTree l c := by kernel_rfl
theorem parts_holds (l : Sl Body) (c : Contact) : (partsTree l c).holds fun x => Fits x (lb true) := by
  refine ⟨fun _ => yes_holds, fun h1 => oB_holds ⟨fun _ => yes_holds, fun h2 => ⟨fun _ => yes_holds, fun h3 => ?_⟩⟩⟩
  have h1 := of_decide_eq_false h1
  have h3 := of_decide_eq_false h3
  have h2 : lightAll l = true := by simpa only [Bool.not_eq_false'] using h2
  have hs := light_all (by omega) h2
  have hc : c.small = true := smallN_of (by omega)
  have hp : okPart l c = true := by
    unfold okPart
    rw [hs, Nat.ble_eq_true_of_le (show l.len ≤ 5 by omega), Nat.ble_eq_true_of_le (show c.M.L.len ≤ 6 by omega)]; rfl
  exact holds_gd hs (oB_holds (holds_gd hc (oT_holds (holds_gd hp (oB_holds (oT_holds (holds_gd hp (oB_holds (oT_holds (oB_holds (oB_holds (holds_yes (bodiesEq_refl _) (tailLC_holds l c)))))))))))))
theorem law_Parts (l : Sl Body) (c : Contact) : Con N.P N.law05_SolverParts [rBody.encS l, c.av] (lb true) :=
  con_treeN (t := t_parts) (m := []) (hints := h0) (nils := nn) ok_parts mall_nil (by kernel_rfl) rfl 60 _ (parts_tree l c) fun _ => parts_holds l c
end Go.Flat
end

section
/- One iteration of a contact over two bodies of a table. -/
set_option linter.unusedSimpArgs false
set_option linter.unusedVariables false
namespace Go.Flat
open Go

def t_apart : List Ent := [e_Neg, e_PScale]
theorem ok_apart : ∀ e ∈ t_apart, e.ok N.P := all_cons o_Neg (all_cons o_PScale all_nil)
noncomputable abbrev Capart : Ctx := ctxL N.P t_apart [] [m_push] [] h0 nn
noncomputable def m_apart : Ment := mentR Capart 30 N.solver_apart
theorem mo_apart : m_apart.ok N.P := mentR_ok (C := Capart) (ctxL_ok ok_apart (mall_cons mo_push mall_nil) rall_nil) (ctxL_muts mall_nil) named mixed 30 N.solver_apart
def t_hit : List Ent := [e_PPerp, e_heft, e_speed, e_Add, e_PSub, e_Neg, e_PDot, e_Div, e_Max, e_Sub, e_Mul, e_Ratio, e_Clamp]
theorem ok_hit : ∀ e ∈ t_hit, e.ok N.P := all_cons o_PPerp (all_cons o_heft (all_cons o_speed (all_cons o_Add (all_cons o_PSub (all_cons o_Neg (all_cons o_PDot (all_cons o_Div (all_cons o_Max (all_cons o_Sub (all_cons o_Mul (all_cons o_Ratio (all_cons o_Clamp all_nil))))))))))))
noncomputable abbrev Cslide : Ctx := ctxL N.P t_hit [] [] [] h0 nn
noncomputable def m_slide : Ment := mentR Cslide 30 N.solver_slide
theorem mo_slide : m_slide.ok N.P := mentR_ok (C := Cslide) (ctxL_ok ok_hit mall_nil rall_nil) (ctxL_muts mall_nil) named mixed 30 N.solver_slide
/-- a table of which two bodies are known, and a contact -/
def memH (rows : List (List AV)) (c : List AV) (a b : Body) : Mem := [some ⟨.many N.t_pworked 1 false rows, false⟩, some ⟨.one c, false⟩, some ⟨.one (rBody.cells a), false⟩, some ⟨.one (rBody.cells b), false⟩, none, none, none, none, none]
noncomputable abbrev Chit : Ctx := ctxL N.P t_hit [] [m_apart, m_slide] [rTwo 2 3] h0 nn

/-! what one touch does -/
def slK (a b : Body) (x n : Vec) : Num := nAdd (bHeft a x n) (bHeft b x n)
def slJ (a b : Body) (x n : Vec) : Num := nDiv (nNeg (vDot (vSub (bSpeed b x) (bSpeed a x)) n)) (slK a b x n)
def pA (a : Body) (x n : Vec) (d : Num) : Body := sPush a x (vScale n (nNeg d))
def pB (b : Body) (x n : Vec) (d : Num) : Body := sPush b x (vScale n d)
def pNext (a b : Body) (x n : Vec) (p : Num) : Num := nMax [zNum, nAdd p (slJ a b x n)]
def rNext (a b : Body) (x n : Vec) (p r : Num) : Num := nClamp (nAdd r (slJ a b x n)) (nNeg (nMul p (nRatio 1 2))) (nMul p (nRatio 1 2))
def gs2 {α : Type} (a b : Body) (t : Tree α) : Tree α := gd (okS a.Shp.Pts) (gd (okS b.Shp.Pts) t)
def gs4 {α : Type} (a b : Body) (t : Tree α) : Tree α := gs2 a b (gs2 b a t)
def hitTree {α : Type} (a b : Body) (x n : Vec) (p r : Num) (K : Body → Body → Num → Num → Tree α) : Tree α :=
  gs4 a b (.node (!((slK a b x n).V != 0)) (K a b p r) (
    gs2 a b (gs4 (pA a x n (nSub (pNext a b x n p) p)) (pB b x n (nSub (pNext a b x n p) p))
      (.node (!((slK (pA a x n (nSub (pNext a b x n p) p)) (pB b x n (nSub (pNext a b x n p) p)) x (vPerp n)).V != 0)) (K (pA a x n (nSub (pNext a b x n p) p)) (pB b x n (nSub (pNext a b x n p) p)) (pNext a b x n p) r)
        (gs2 (pA a x n (nSub (pNext a b x n p) p)) (pB b x n (nSub (pNext a b x n p) p))
          (K (pA (pA a x n (nSub (pNext a b x n p) p)) x (vPerp n) (nSub (rNext (pA a x n (nSub (pNext a b x n p) p)) (pB b x n (nSub (pNext a b x n p) p)) x (vPerp n) (pNext a b x n p) r) r))
            (pB (pB b x n (nSub (pNext a b x n p) p)) x (vPerp n) (nSub (rNext (pA a x n (nSub (pNext a b x n p) p)) (pB b x n (nSub (pNext a b x n p) p)) x (vPerp n) (pNext a b x n p) r) r))
            (pNext a b x n p) (rNext (pA a x n (nSub (pNext a b x n p) p)) (pB b x n (nSub (pNext a b x n p) p)) x (vPerp n) (pNext a b x n p) r)))))))
def okRows9 (rows : List (List AV)) : Bool := rows.all fun r => r.all (locBelow 9)
def leafH (rows : List (List AV)) (c : Contact) (k : Nat) (a b : Body) : Tree (AV × Mem) := .node (okRows9 rows && true) (.leaf (.tup [], memH rows (conL c k) a b)) (.fail 9)
def hitRes (n : Nat) (rows : List (List AV)) (a b : Body) (c : Contact) (k : Nat) : Tree (AV × Mem) := gd (twoOk n rows c.A c.B 2 3) (match k with
  | 0 => leafH rows c 0 a b
  | 1 => hitTree a b (c.M.L.at' 0).At c.M.N c.P0 c.R0 fun a b p r => leafH rows { c with P0 := p, R0 := r } 1 a b
  | k + 2 => hitTree a b (c.M.L.at' 0).At c.M.N c.P0 c.R0 fun a b p r => hitTree a b (c.M.L.at' 1).At c.M.N c.P1 c.R1 fun a b p' r' => leafH rows { c with P0 := p, R0 := r, P1 := p', R1 := r' } (k + 2) a b)
theorem hit_run0 (n : Nat) (rows : List (List AV)) (a b : Body) (c : Contact) : runC Chit 60 N.solver_table_hit [tblA n, .ptr 1 15 0 0] (memH rows (conL c 0) a b) = hitRes n rows a b c 0 := by kernel_rfl
theorem hit_run1 (n : Nat) (rows : List (List AV)) (a b : Body) (c : Contact) : runC Chit 60 N.solver_table_hit [tblA n, .ptr 1 15 0 0] (memH rows (conL c 1) a b) = hitRes n rows a b c 1 := by kernel_rfl
end Go.Flat
end
