/- What is proved in the end: SolverBinds returns true whatever the input, and its input reads as it did; no condition.
This text: T1, C50, C61, C62, C63, C64, C65, C68, C69, C70, C71. -/
import Derived.Lib.ItoaNum
import Derived.Test.YtldnfpgemlgbmaaGreatM7

section
/- What the texts on tables share. -/
set_option linter.unusedSimpArgs false
set_option linter.unusedVariables false
namespace Go.Flat
open Go

theorem setAB_get {l : List Body} {i j : Nat} {a b : Body} (k : Nat) (hi : i < l.length) (hj : j < l.length) (hij : i ≠ j) :
    ((l.set i a).set j b)[k]? = if k = j then some b else if k = i then some a else l[k]? := by
  rw [List.getElem?_set, List.length_set, List.getElem?_set]
  by_cases h1 : k = j
  · subst h1; simp [hj]
  · rw [if_neg (fun e => h1 e.symm), if_neg h1]
    by_cases h2 : k = i
    · subst h2; simp [hi]
    · rw [if_neg (fun e => h2 e.symm), if_neg h2]
theorem set_same {l : List Body} {i j : Nat} (hi : i < l.length) (hj : j < l.length) (hij : i ≠ j) : (l.set i (bAt l i)).set j (bAt l j) = l := by
  apply List.ext_getElem?
  intro k
  rw [setAB_get k hi hj hij]
  by_cases h1 : k = j
  · subst h1; simp [bAt, List.getD, hj]
  · by_cases h2 : k = i
    · subst h2; simp [h1, bAt, List.getD, hi]
    · simp [h1, h2]
def okTs (s : Sl Touch) : Bool := allN s.len fun i => okRow rTouch (rTouch.cells (s.at' i))
def lstN (n : Nat) (l : Nat → Body) : List Body := (List.range n).map l
def rowsOf (n : Nat) (l : List Body) : List (List AV) := (List.range n).map fun i => rBody.cells (bAt l i)
/-- what must hold while a table is laid, worked on and read -/
def condsLay (n : Nat) (l : Nat → Body) : List Bool := true :: true :: (List.range n).flatMap fun i => [(l i).small, okS (l i).Shp.Pts, true]
def condsList (n : Nat) : List Bool := true :: true :: (List.range n).map (fun _ => true) ++ [true]
def okSs (n : Nat) (l : Nat → Body) : List Bool := (List.range n).map fun i => okS (l i).Shp.Pts
def slN (n : Nat) (L : List Body) : Sl Body := ⟨n, fun i => bAt L i⟩
theorem fits_rowsN (n : Nat) (L : List Body) {b : Bool} : Fits (.vsl b 27 n (fun r => (rowsOf n L).getD r [])) (rBody.encS (slN n L)) := fits_sl rBody (fun _ => rfl) (slN n L) rfl
theorem okTs_true (s : Sl Touch) : okTs s = true := law_touch.all _ _
theorem lay_true {n : Nat} {l : Nat → Body} (h : ∀ i, i < n → (l i).small = true) : ∀ c ∈ condsLay n l, c = true := fun c hc => by
  unfold condsLay at hc
  rcases List.mem_cons.1 hc with rfl | hc
  · rfl
  rcases List.mem_cons.1 hc with rfl | hc
  · rfl
  obtain ⟨i, hi, hc⟩ := List.mem_flatMap.1 hc
  have hi := List.mem_range.1 hi
  rcases List.mem_cons.1 hc with rfl | hc
  · exact h i hi
  rcases List.mem_cons.1 hc with rfl | hc
  · exact okS_true _
  rcases List.mem_cons.1 hc with rfl | hc
  · rfl
  · cases hc
theorem list_true {n : Nat} : ∀ c ∈ condsList n, c = true := fun c hc => by
  unfold condsList at hc
  simp only [List.cons_append, List.mem_cons, List.mem_append, List.mem_map, List.not_mem_nil, or_false] at hc
  rcases hc with rfl | rfl | ⟨_, _, rfl⟩ | rfl <;> rfl
theorem okSs_true {n : Nat} {l : Nat → Body} : ∀ c ∈ okSs n l, c = true := fun c hc => by
  obtain ⟨i, _, rfl⟩ := List.mem_map.1 hc
  exact okS_true _
def condsR (n : Nat) (l : Nat → Body) : List Bool := (List.range n).flatMap fun i => (l i).small :: okS (l i).Shp.Pts :: (match i with | 0 => [true] | _ => [true, true])
def leafR (n : Nat) (L : List Body) : Tree AV := gd true (.leaf (.vsl true 27 n (fun r => (rowsOf n L).getD r [])))
def Tree.ls {α : Type} : Nat → Tree α → Tree α
  | 0, t => t
  | n + 1, t => Tree.ls n t.l
theorem conds_r {n : Nat} {l : Nat → Body} (h : ∀ i, i < n → (l i).small = true) : ∀ c ∈ condsR n l, c = true := fun c hc => by
  unfold condsR at hc
  obtain ⟨i, hi, hc⟩ := List.mem_flatMap.1 hc
  have hi := List.mem_range.1 hi
  rcases List.mem_cons.1 hc with rfl | hc
  · exact h i hi
  rcases List.mem_cons.1 hc with rfl | hc
  · exact okS_true _
  cases i with
  | zero => simpa using hc
  | succ i => simpa using hc
theorem leafR_holds (n : Nat) (L : List Body) : (leafR n L).holds fun x => Fits x (rBody.encS (slN n L)) := holds_gd rfl (fits_rowsN n L)
theorem lst_len (n : Nat) (l : Nat → Body) : (lstN n l).length = n := by simp [lstN]
theorem lst_at {n i : Nat} (l : Nat → Body) (h : i < n) : bAt (lstN n l) i = l i := by simp [bAt, lstN, List.getD, h]
theorem smallN_of {n : Nat} (h : n ≤ 12) : smallN n = true := Nat.ble_eq_true_of_le (by omega)
theorem light_all {l : Sl Body} (hn : l.len ≤ 12) (h : lightAll l = true) : smallAll l = true := by
  unfold smallAll
  rw [smallN_of hn]
  exact allN_iff.2 fun i hi => light_small (allN_iff.1 h i hi)
def oB (s : Sl Body) (t : Tree AV) : Tree AV := gd (okB s) t
theorem oB_holds {Q : AV → Prop} {s : Sl Body} {t : Tree AV} (h : t.holds Q) : (oB s t).holds Q := holds_gd (okB_true _) h
def no : Tree AV := .leaf (.kb false)
def yes : Tree AV := .leaf (lb true)
theorem yes_holds : yes.holds fun x => Fits x (lb true) := Fits.refl _
def t_apart : List Ent := [e_Neg, e_PScale]
theorem ok_apart : ∀ e ∈ t_apart, e.ok N.P := all_cons o_Neg (all_cons o_PScale all_nil)
noncomputable abbrev Capart : Ctx := ctxL N.P t_apart [] [m_push] [] h0 nn
noncomputable def m_apart : Ment := mentR Capart 30 N.solver_apart
theorem mo_apart : m_apart.ok N.P := mentR_ok (C := Capart) (ctxL_ok ok_apart (mall_cons mo_push mall_nil) rall_nil) (ctxL_muts mall_nil) named mixed 30 N.solver_apart
def pA (a : Body) (x n : Vec) (d : Num) : Body := sPush a x (vScale n (nNeg d))
def pB (b : Body) (x n : Vec) (d : Num) : Body := sPush b x (vScale n d)
def gT (t : Tree AV) : Tree AV := gd true t
def oS (b : Body) (t : Tree AV) : Tree AV := gd (okS b.Shp.Pts) t
def smS (b : Body) (t : Tree AV) : Tree AV := gd b.small (oS b t)
def okBind (l : Sl Body) : Bool := Nat.ble l.len 5 && smallAll l
end Go.Flat
end

section
/- Roots of integers, rounded down: by bits, and by Newton's way from above. -/
set_option linter.unusedSimpArgs false
set_option linter.unusedVariables false
namespace Go.Flat
open Go

/-- the root of a number below 4 ^ k -/
def isq : Nat → Nat → Nat
  | 0, _ => 0
  | k + 1, n => if (2 * isq k (n / 4) + 1) * (2 * isq k (n / 4) + 1) ≤ n then 2 * isq k (n / 4) + 1 else 2 * isq k (n / 4)
theorem isq_spec : ∀ (k n : Nat), n < 4 ^ k → isq k n * isq k n ≤ n ∧ n < (isq k n + 1) * (isq k n + 1)
  | 0, n, h => by simp [isq] at h ⊢; omega
  | k + 1, n, h => by
    have h4 : n / 4 < 4 ^ k := by rw [Nat.pow_succ] at h; omega
    obtain ⟨h1, h2⟩ := isq_spec k (n / 4) h4
    unfold isq
    generalize isq k (n / 4) = r at h1 h2
    have e1 : (2 * r) * (2 * r) = 4 * (r * r) := by grind
    have e2 : (2 * r + 1 + 1) * (2 * r + 1 + 1) = 4 * ((r + 1) * (r + 1)) := by grind
    split
    · rename_i h3
      exact ⟨h3, by rw [e2]; omega⟩
    · rename_i h3
      refine ⟨by rw [e1]; omega, by omega⟩
theorem sq_mono {a b : Nat} (h : a ≤ b) : a * a ≤ b * b := Nat.mul_le_mul h h
theorem root_unique {n r s : Nat} (h1 : r * r ≤ n) (h2 : n < (r + 1) * (r + 1)) (h3 : s * s ≤ n) (h4 : n < (s + 1) * (s + 1)) : r = s := by
  rcases Nat.lt_trichotomy r s with h | h | h
  · have := sq_mono (show r + 1 ≤ s from h); omega
  · exact h
  · have := sq_mono (show s + 1 ≤ r from h); omega
/-- one step of Newton's way stays above the root -/
theorem newton_ge {n r s : Nat} (h0 : 0 < r) (h : s * s ≤ n) : 2 * s ≤ r + n / r := by
  apply Nat.le_of_not_lt
  intro hlt
  have h1 : n < (n / r + 1) * r := by
    have h2 := Nat.div_add_mod n r
    have h3 := Nat.mod_lt n h0
    have e : (n / r + 1) * r = r * (n / r) + r := by grind
    omega
  have h5 : (n / r + 1) * r + r * r ≤ 2 * s * r := by
    have : (n / r + 1 + r) * r ≤ 2 * s * r := Nat.mul_le_mul_right r (by omega)
    have e : (n / r + 1 + r) * r = (n / r + 1) * r + r * r := by grind
    omega
  have h6 : 2 * s * r ≤ s * s + r * r := by
    rcases Nat.le_total r s with hle | hle
    · obtain ⟨d, rfl⟩ := Nat.exists_eq_add_of_le hle
      have e : (r + d) * (r + d) + r * r = 2 * (r + d) * r + d * d := by grind
      omega
    · obtain ⟨d, rfl⟩ := Nat.exists_eq_add_of_le hle
      have e : s * s + (s + d) * (s + d) = 2 * s * (s + d) + d * d := by grind
      omega
  omega
/-- where it stops -/
theorem newton_end {n r s : Nat} (h0 : 0 < r) (h : s * s ≤ n) (h2 : n < (s + 1) * (s + 1)) (hr : s ≤ r) (hq : r ≤ n / r) : r = s := by
  have h3 : r * r ≤ n := Nat.le_trans (Nat.mul_le_mul_left r hq) (Nat.mul_div_le n r)
  apply Nat.le_antisymm _ hr
  apply Nat.le_of_not_lt
  intro hlt
  have := sq_mono (show s + 1 ≤ r from hlt)
  omega
theorem root_pos {n s : Nat} (h0 : 0 < n) (h2 : n < (s + 1) * (s + 1)) : 0 < s := by
  rcases s with _ | s
  · simp at h2; omega
  · omega
/-- one bit of the root -/
theorem bit_step {n r p : Nat} (h1 : r * r ≤ n) (h2 : n < (r + 2 * p) * (r + 2 * p)) :
    ((r + p) * (r + p) ≤ n → (r + p) * (r + p) ≤ n ∧ n < (r + p + p) * (r + p + p)) ∧ (n < (r + p) * (r + p) → r * r ≤ n ∧ n < (r + p) * (r + p)) :=
  ⟨fun h => ⟨h, by rw [Nat.add_assoc, ← Nat.two_mul]; exact h2⟩, fun h => ⟨h1, h⟩⟩
end Go.Flat
end

section
/- Contract: the root of two words, by Newton's way. -/
set_option linter.unusedSimpArgs false
set_option linter.unusedVariables false
namespace Go.Flat
open Go

theorem c_Len (x : Int) : Con N.P N.bits_Len64 [lu x] (li (Lib.bitLen x.toNat : Int)) := by
  by_cases hx : 0 ≤ x ∧ x ≤ 18446744073709551615
  · have hle := Go.Proofs.Any.bitLen_le64 x hx.1 hx.2
    refine con_of_calls (by kernel_rfl) ?_ fun hs w => Go.Proofs.Any.bits_Len64 { Go.Proofs.Tryz.lays134 with } x w hx.1 hx.2
    show inK .i64 (Lib.bitLen x.toNat : Int) = true
    rw [inK_iff]
    simp only [IntKind.min, IntKind.max, IntKind.signed, IntKind.bits, if_true]
    omega
  · exact Con.sat (by kernel_rfl) fun hs => absurd (u64_range (hs _ List.mem_cons_self)) (by omega)
def e_Len : Ent := ent1 N.bits_Len64 (cInt .u64) fun x => li (Lib.bitLen x.toNat : Int)
theorem o_Len : e_Len.ok N.P := ent1_ok c_Len
theorem len_lt {x : Nat} (h : x < 18446744073709551616) : x < 2 ^ Lib.bitLen x := by
  by_cases h0 : x = 0
  · subst h0; exact Nat.two_pow_pos _
  · exact (Lib.bitLenAux_bounds 64 x (by simpa using h) h0).2.2

def hRoot : Hints := fun _ _ => some ([1, 4], 999)
def t_root : List Ent := [e_Len, e_Div64, e_Add64]
theorem ok_root : ∀ e ∈ t_root, e.ok N.P := all_cons o_Len (all_cons o_Div64 (all_cons o_Add64 all_nil))
noncomputable abbrev Croot : Ctx := ctxN N.P t_root [] hRoot nn
def sRoot (lo hi r : Int) : St := ⟨[(1, .ptr 0 2 0 0), (4, lu r)], [some ⟨.one [lu lo, lu hi], false⟩]⟩
/-- half of a number of bits, rounded up -/
def halfOf (b : Int) : Int := i64 ((i64 (b + 1)).tdiv 2)
def rGuess (h : Int) : Int := u64 (1 * 2 ^ (min h.toNat 64))
noncomputable def rootEnter (lo hi h : Int) (F : Nat) : Tree AV := .node (decide (h < 64)) (gd (decide (0 ≤ h)) (loopI Croot N.fixed_words_root 0 (F + 5) (sRoot lo hi (rGuess h)) [] (F + 12))) (loopI Croot N.fixed_words_root 0 (F + 5) (sRoot lo hi 18446744073709551615) [] (F + 12))
noncomputable def rootT (lo hi : Int) (F : Nat) : Tree AV := .node (hi != 0) (rootEnter lo hi (halfOf (i64 (64 + (Lib.bitLen hi.toNat : Int)))) F) (rootEnter lo hi (halfOf (Lib.bitLen lo.toNat : Int)) F)
theorem root_start (lo hi : Int) (F : Nat) : runF Croot (F + 12) N.fixed_words_root [.agg [lu lo, lu hi]] = .node (hi == 0) (.node (lo == 0) (.leaf (.ki .u64 0)) (rootT lo hi F)) (rootT lo hi F) := by kernel_rfl
def rHalf (s : Int) : Int := or64 ((s % 18446744073709551616).fdiv (2 ^ 1)) (u64 (s / 18446744073709551616 * 2 ^ 63))
theorem root_step (lo hi r : Int) (F G : Nat) : loopI Croot N.fixed_words_root 0 (F + 40) (sRoot lo hi r) [] (G + 12) =
    .node (decide (hi ≥ r)) (.leaf (lu r)) (gd (decide (0 ≤ hi ∧ hi < r)) (.node (decide ((hi * 18446744073709551616 + lo) / r ≥ r)) (.leaf (lu r))
      (loopI Croot N.fixed_words_root 0 (F + 39) (sRoot lo hi (rHalf (r + (hi * 18446744073709551616 + lo) / r + 0))) [] (G + 12)))) := by kernel_rfl
end Go.Flat
end

section
/- Contract: the root of two words, by Newton's way: what it comes to. -/
set_option linter.unusedSimpArgs false
set_option linter.unusedVariables false
namespace Go.Flat
open Go

theorem two64 : (4 : Nat) ^ 64 = 18446744073709551616 * 18446744073709551616 := by decide
theorem rHalf_eq {s : Nat} (h : s < 36893488147419103232) : rHalf (s : Int) = ((s / 2 : Nat) : Int) := by
  unfold rHalf or64
  have e1 : ((s : Int) % 18446744073709551616).fdiv (2 ^ 1) = ((s % 18446744073709551616 / 2 : Nat) : Int) := by
    rw [Int.fdiv_eq_ediv_of_nonneg _ (by decide)]
    show _ / (2 : Int) = _
    omega
  have e2 : u64 ((s : Int) / 18446744073709551616 * 2 ^ 63) = ((s / 18446744073709551616 * 9223372036854775808 : Nat) : Int) := by
    rw [show ((2 : Int) ^ 63) = 9223372036854775808 from rfl, show (s : Int) / 18446744073709551616 * 9223372036854775808 = ((s / 18446744073709551616 * 9223372036854775808 : Nat) : Int) by omega]
    exact u64_nat (by omega)
  rw [e1, e2, bits_or_u64_nat _ _ (by omega) (by omega)]
  have hc : s / 18446744073709551616 = 0 ∨ s / 18446744073709551616 = 1 := by omega
  rcases hc with hc | hc
  · rw [hc, Nat.zero_mul, Nat.or_zero]
    have : s % 18446744073709551616 = s := by omega
    rw [this]
  · rw [hc, Nat.one_mul]
    have hb : s % 18446744073709551616 / 2 < 2 ^ 63 := by
      show _ < 9223372036854775808
      omega
    have := Nat.two_pow_add_eq_or_of_lt (i := 63) hb 1
    rw [Nat.mul_one, show (2 : Nat) ^ 63 = 9223372036854775808 from rfl] at this
    rw [Nat.or_comm, ← this]
    congr 1
    omega
theorem lt_of_sq {a b : Nat} (h : a * a < b * b) : a < b := by
  apply Nat.lt_of_not_le
  intro hle
  have := sq_mono hle
  omega
theorem root_loop {L H : Nat} (hL : L < 18446744073709551616) (hH : H < 18446744073709551616) (hn : 0 < H * 18446744073709551616 + L) (k r G : Nat) (hk : r < k) (h0 : 0 < r) (h1 : r < 18446744073709551616) (hs : isq 64 (H * 18446744073709551616 + L) ≤ r) :
    (loopI Croot N.fixed_words_root 0 (39 + k) (sRoot L H r) [] (G + 12)).holds fun x => Fits x (lu (isq 64 (H * 18446744073709551616 + L) : Nat)) := by
  have hlt : H * 18446744073709551616 + L < 4 ^ 64 := by rw [two64]; omega
  obtain ⟨s1, s2⟩ := isq_spec 64 _ hlt
  generalize hN : H * 18446744073709551616 + L = n at *
  generalize isq 64 n = s at *
  have hspos := root_pos hn s2
  have key := roundsI (C := Croot) (f := N.fixed_words_root) (i := 0) (ns := []) (m := G + 12) (Q := fun x => Fits x (lu (s : Nat))) (fun r : Nat => sRoot L H r) (fun r => 0 < r ∧ r < 18446744073709551616 ∧ s ≤ r) (fun r : Nat => r) 39 (fun r F ⟨r0, r1, r2⟩ ih => by
    show (loopI Croot N.fixed_words_root 0 (F + 40) (sRoot L H r) [] (G + 12)).holds _
    rw [root_step]
    have eN : (H : Int) * 18446744073709551616 + (L : Int) = (n : Int) := by omega
    rw [eN]
    have eq : (n : Int) / (r : Int) = ((n / r : Nat) : Int) := (Int.natCast_ediv n r).symm
    rw [eq]
    refine ⟨fun h => ?_, fun h => holds_gd ?_ ⟨fun h' => ?_, fun h' => ?_⟩⟩
    · have h := of_decide_eq_true h
      have hle : r ≤ H := by omega
      have h3 : r * r ≤ n := by
        have := Nat.mul_le_mul hle (Nat.le_of_lt r1)
        omega
      have : r < s + 1 := lt_of_sq (by omega)
      have : r = s := by omega
      subst this
      exact Fits.refl _
    · have h := of_decide_eq_false h
      simp only [decide_eq_true_eq]
      omega
    · have h' := of_decide_eq_true h'
      have : r = s := newton_end r0 s1 s2 r2 (by omega)
      subst this
      exact Fits.refl _
    · have h' := of_decide_eq_false h'
      have hq : n / r < r := by omega
      have e : (r : Int) + ((n / r : Nat) : Int) + 0 = ((r + n / r : Nat) : Int) := by omega
      rw [e, rHalf_eq (by omega)]
      have hge := newton_ge r0 s1
      exact ih ((r + n / r) / 2) ⟨by omega, by omega, by omega⟩ (by show (r + n / r) / 2 < r; omega)) k r 0 hk ⟨h0, h1, hs⟩
  rw [Nat.zero_add] at key
  exact key
theorem i64_of {n : Int} (h1 : -9223372036854775808 ≤ n) (h2 : n ≤ 9223372036854775807) : i64 n = n := i64_small h1 h2
theorem half_eq {b : Nat} (hb : b ≤ 128) : halfOf (b : Int) = (((b + 1) / 2 : Nat) : Int) := by
  unfold halfOf
  rw [i64_of (n := (b : Int) + 1) (by omega) (by omega), Int.tdiv_eq_ediv_of_nonneg (by omega)]
  rw [show (((b : Int) + 1) / 2) = (((b + 1) / 2 : Nat) : Int) by omega]
  exact i64_of (by omega) (by omega)
theorem guess_eq {h : Nat} (hh : h < 64) : rGuess (h : Int) = ((2 ^ h : Nat) : Int) := by
  unfold rGuess
  rw [Int.toNat_natCast, Nat.min_eq_left (Nat.le_of_lt hh), Int.one_mul]
  have h1 : (2 : Nat) ^ h < 18446744073709551616 := by
    have := Nat.pow_lt_pow_right (a := 2) (by decide) hh
    exact this
  rw [show ((2 : Int) ^ h) = ((2 ^ h : Nat) : Int) by simp]
  exact u64_nat h1
/-- the first guess is above the root -/
theorem enter_holds {L H b : Nat} (hL : L < 18446744073709551616) (hH : H < 18446744073709551616) (hn : 0 < H * 18446744073709551616 + L) (hb : b ≤ 128) (hnb : H * 18446744073709551616 + L < 2 ^ b) (k : Nat) (hk : ∀ r : Nat, r < 18446744073709551616 → r < k) :
    (rootEnter L H (halfOf (b : Int)) (k + 34)).holds fun x => Fits x (lu (isq 64 (H * 18446744073709551616 + L) : Nat)) := by
  have hlt : H * 18446744073709551616 + L < 4 ^ 64 := by rw [two64]; omega
  obtain ⟨s1, s2⟩ := isq_spec 64 _ hlt
  rw [half_eq hb]
  unfold rootEnter
  have hsq : isq 64 (H * 18446744073709551616 + L) < 2 ^ ((b + 1) / 2) := by
    refine lt_of_sq (Nat.lt_of_le_of_lt s1 (Nat.lt_of_lt_of_le hnb ?_))
    rw [← Nat.pow_add]
    exact Nat.pow_le_pow_right (by decide) (by omega)
  refine ⟨fun h => holds_gd (by simp; omega) ?_, fun h => ?_⟩
  · have h := of_decide_eq_true h
    have hh : (b + 1) / 2 < 64 := by omega
    rw [guess_eq hh]
    have h1 : (2 : Nat) ^ ((b + 1) / 2) < 18446744073709551616 := Nat.pow_lt_pow_right (a := 2) (by decide) hh
    have := root_loop hL hH hn k (2 ^ ((b + 1) / 2)) (k + 34) (hk _ h1) (Nat.two_pow_pos _) h1 (Nat.le_of_lt hsq)
    rw [Nat.add_comm 39 k] at this
    exact this
  · have hS : isq 64 (H * 18446744073709551616 + L) < 18446744073709551616 := by
      refine lt_of_sq (Nat.lt_of_le_of_lt s1 ?_)
      rw [two64] at hlt
      exact hlt
    have := root_loop hL hH hn k 18446744073709551615 (k + 34) (hk _ (by omega)) (by omega) (by omega) (by omega)
    rw [Nat.add_comm 39 k] at this
    exact this
theorem isq_zero : isq 64 (0 * 18446744073709551616 + 0) = 0 := by
  rw [Nat.zero_mul]
  have h := (isq_spec 64 0 (Nat.pow_pos (by decide))).1
  generalize isq 64 0 = s at h
  rcases s with _ | s
  · rfl
  · have := Nat.mul_le_mul (show 1 ≤ s + 1 by omega) (show 1 ≤ s + 1 by omega)
    omega
def nRoot (lo hi : Int) : Int := ((isq 64 (hi.toNat * 18446744073709551616 + lo.toNat) : Nat) : Int)
theorem c_root (w : Int × Int) : Con N.P N.fixed_words_root [cW2.enc w] (lu (nRoot w.1 w.2)) :=
  con_of_runN (t := t_root) (m := []) (hints := hRoot) (nils := nn) ok_root mall_nil named mixed (by kernel_rfl) rfl fun hs => by
    obtain ⟨lo, hi⟩ := w
    have h1 := u64_range ((hs _ List.mem_cons_self).cells (lu lo) List.mem_cons_self)
    have h2 := u64_range ((hs _ List.mem_cons_self).cells (lu hi) (List.mem_cons_of_mem _ List.mem_cons_self))
    obtain ⟨L, rfl⟩ := Int.eq_ofNat_of_zero_le h1.1
    obtain ⟨H, rfl⟩ := Int.eq_ofNat_of_zero_le h2.1
    obtain ⟨k, hk⟩ : ∃ k : Nat, ∀ r : Nat, r < 18446744073709551616 → r < k := ⟨_, fun _ h => h⟩
    refine ⟨k + 34 + 12, ?_⟩
    show (runF Croot _ N.fixed_words_root [.agg [lu (L : Int), lu (H : Int)]]).holds _
    rw [root_start]
    have eR : nRoot (L : Int) (H : Int) = ((isq 64 (H * 18446744073709551616 + L) : Nat) : Int) := by unfold nRoot; rw [Int.toNat_natCast, Int.toNat_natCast]
    show Tree.holds (fun x => Fits x (lu (nRoot (L : Int) (H : Int)))) _
    rw [eR]
    have hL : L < 18446744073709551616 := by omega
    have hH : H < 18446744073709551616 := by omega
    have hbL := Go.Proofs.Any.bitLen_le64 (L : Int) h1.1 h1.2
    have hbH := Go.Proofs.Any.bitLen_le64 (H : Int) h2.1 h2.2
    rw [Int.toNat_natCast] at hbL hbH
    have rt : 0 < H * 18446744073709551616 + L → (rootT (L : Int) (H : Int) (k + 34)).holds fun x => Fits x (lu (isq 64 (H * 18446744073709551616 + L) : Nat)) := fun hn => by
      unfold rootT
      rw [Int.toNat_natCast, Int.toNat_natCast]
      refine ⟨fun h => ?_, fun h => ?_⟩
      · have e : i64 (64 + (Lib.bitLen H : Int)) = ((64 + Lib.bitLen H : Nat) : Int) := by rw [i64_of (by omega) (by omega)]; omega
        rw [e]
        refine enter_holds hL hH hn (by omega) ?_ k hk
        have := len_lt hH
        rw [Nat.pow_add, show (2 : Nat) ^ 64 = 18446744073709551616 from rfl, Nat.mul_comm 18446744073709551616]
        have h3 := Nat.mul_le_mul_right 18446744073709551616 (show H + 1 ≤ 2 ^ Lib.bitLen H from this)
        omega
      · have h0 : H = 0 := by
          have h : ((H : Int) != 0) = false := h
          simpa using h
        subst h0
        refine enter_holds hL hH hn (by omega) ?_ k hk
        have := len_lt hL
        omega
    refine ⟨fun h => ⟨fun h' => ?_, fun h' => rt ?_⟩, fun h => rt ?_⟩
    · have h0 : H = 0 := by simpa using h
      have h3 : L = 0 := by simpa using h'
      subst h0 h3
      rw [isq_zero]
      exact Fits.ki
    · have h3 : ¬ L = 0 := by simpa using h'
      omega
    · have h3 : ¬ H = 0 := by simpa using h
      omega
def e_root : Ent := ent1 N.fixed_words_root cW2 fun w => lu (nRoot w.1 w.2)
theorem o_root : e_root.ok N.P := ent1_ok c_root
end Go.Flat
end

section
/- Contract: the reference's root, bit by bit. -/
set_option linter.unusedSimpArgs false
set_option linter.unusedVariables false
namespace Go.Flat
open Go

def hRr : Hints := fun _ _ => some ([1, 2, 3, 4], 999)
noncomputable abbrev Crr : Ctx := ctxN N.P [e_Mul64, e_rLess] [] hRr nn
def sRr (w : Wd) (r i : Int) : St := ⟨[(1, .ptr 0 3 0 0), (2, .ptr 1 3 0 0), (3, lu r), (4, li i)], [some ⟨.one w.cellsR, false⟩, some ⟨.one [lb false, lu 0, lu 0], false⟩]⟩
def bitC (r i : Int) : Int := or64 r (u64 (1 * 2 ^ (min (u64 i).toNat 64)))
def sqW (c : Int) : Wd := ⟨false, c * c % 18446744073709551616, c * c / 18446744073709551616⟩
theorem rr_start (w : Wd) (F : Nat) : runF Crr (F + 12) N.ref01_root [w.avR] = loopI Crr N.ref01_root 0 (F + 7) (sRr w 0 63) [] (F + 12) := by kernel_rfl
theorem rr_step (w : Wd) (r i : Int) (F G : Nat) : loopI Crr N.ref01_root 0 (F + 40) (sRr w r i) [] (G + 12) =
    .node (decide (i ≥ 0)) (gd (decide (0 ≤ u64 i)) (.node (!rLess w (sqW (bitC r i)))
      (loopI Crr N.ref01_root 0 (F + 39) (sRr w (bitC r i) (i64 (i - 1))) [] (G + 12))
      (loopI Crr N.ref01_root 0 (F + 39) (sRr w r (i64 (i - 1))) [] (G + 12)))) (.leaf (.agg [.kb false, .ki .u64 0, lu r])) := by kernel_rfl

theorem bitC_eq {m t : Nat} (ht : t < 64) (hr : m * 2 ^ (t + 1) + 2 ^ (t + 1) ≤ 18446744073709551616) : bitC ((m * 2 ^ (t + 1) : Nat) : Int) (t : Int) = ((m * 2 ^ (t + 1) + 2 ^ t : Nat) : Int) := by
  unfold bitC or64
  have hp : (2 : Nat) ^ t < 18446744073709551616 := Nat.pow_lt_pow_right (a := 2) (by decide) ht
  have hpos := Nat.two_pow_pos t
  have hs : (2 : Nat) ^ (t + 1) = 2 * 2 ^ t := by rw [Nat.pow_succ]; omega
  have e1 : u64 (t : Int) = t := u64_nat (by omega)
  rw [e1, Int.toNat_natCast, Nat.min_eq_left (Nat.le_of_lt ht), Int.one_mul, show ((2 : Int) ^ t) = ((2 ^ t : Nat) : Int) by simp, u64_nat hp, bits_or_u64_nat _ _ (by omega) hp]
  have := Nat.two_pow_add_eq_or_of_lt (i := t + 1) (b := 2 ^ t) (by omega) m
  rw [Nat.mul_comm (2 ^ (t + 1)) m] at this
  rw [← this]
theorem less_sq {w : Wd} {H L c : Nat} (hw : w.lo = (L : Int)) (hh : w.hi = (H : Int)) (hL : L < 18446744073709551616) (hH : H < 18446744073709551616) (hc : c < 18446744073709551616) :
    (!rLess w (sqW (c : Int))) = decide (c * c ≤ H * 18446744073709551616 + L) := by
  have hwv : w.valid := by unfold Wd.valid; rw [hw, hh]; omega
  have hcc : c * c < 18446744073709551616 * 18446744073709551616 := by
    rcases Nat.eq_zero_or_pos c with h | h
    · subst h; omega
    · exact Nat.mul_lt_mul'' hc hc
  have e1 : (c : Int) * (c : Int) % 18446744073709551616 = ((c * c % 18446744073709551616 : Nat) : Int) := by
    rw [← Int.natCast_mul]; rfl
  have e2 : (c : Int) * (c : Int) / 18446744073709551616 = ((c * c / 18446744073709551616 : Nat) : Int) := by
    rw [← Int.natCast_mul]; rfl
  have hq : c * c / 18446744073709551616 < 18446744073709551616 := (Nat.div_lt_iff_lt_mul (by decide)).2 hcc
  have hsv : (sqW (c : Int)).valid := by
    unfold Wd.valid sqW
    simp only [e1, e2]
    omega
  have hm : (sqW (c : Int)).m = ((c * c : Nat) : Int) := by
    unfold Wd.m sqW
    simp only [e1, e2]
    omega
  have hwm : w.m = ((H * 18446744073709551616 + L : Nat) : Int) := by unfold Wd.m; rw [hw, hh]; omega
  have key := rLess_iff hwv hsv
  rw [hm, hwm] at key
  by_cases h : c * c ≤ H * 18446744073709551616 + L
  · have : rLess w (sqW (c : Int)) = false := by
      cases hq : rLess w (sqW (c : Int)) with
      | false => rfl
      | true => have := key.1 hq; omega
    rw [this]; simp [h]
  · have : rLess w (sqW (c : Int)) = true := key.2 (by omega)
    rw [this]; simp [h]
def rrI (n : Nat) (s : Nat × Nat) : Prop := s.2 ≤ 64 ∧ ∃ m, s.1 = m * 2 ^ s.2 ∧ s.1 * s.1 ≤ n ∧ n < (s.1 + 2 ^ s.2) * (s.1 + 2 ^ s.2) ∧ s.1 + 2 ^ s.2 ≤ 18446744073709551616
theorem rr_loop {w : Wd} {H L : Nat} (hw : w.lo = (L : Int)) (hh : w.hi = (H : Int)) (hL : L < 18446744073709551616) (hH : H < 18446744073709551616) (G : Nat) :
    ∀ (k : Nat) (s : Nat × Nat) (F : Nat), s.2 < k → rrI (H * 18446744073709551616 + L) s →
      (loopI Crr N.ref01_root 0 (F + 39 + k) (sRr w (s.1 : Nat) ((s.2 : Int) - 1)) [] (G + 12)).holds fun x => Fits x (⟨false, ((isq 64 (H * 18446744073709551616 + L) : Nat) : Int), 0⟩ : Wd).avR := by
  have hlt : H * 18446744073709551616 + L < 4 ^ 64 := by rw [two64]; omega
  obtain ⟨s1, s2⟩ := isq_spec 64 _ hlt
  generalize hN : H * 18446744073709551616 + L = n at *
  generalize isq 64 n = q at *
  refine roundsI (C := Crr) (f := N.ref01_root) (i := 0) (ns := []) (m := G + 12) (fun s : Nat × Nat => sRr w (s.1 : Nat) ((s.2 : Int) - 1)) (rrI n) (fun s => s.2) 39 (fun s F hI ih => ?_)
  obtain ⟨r, j⟩ := s
  obtain ⟨hj, m, hm, h1, h2, h3⟩ := hI
  simp only at hj hm h1 h2 h3 ih ⊢
  show (loopI Crr N.ref01_root 0 (F + 40) (sRr w (r : Nat) ((j : Int) - 1)) [] (G + 12)).holds _
  rw [rr_step]
  cases j with
  | zero =>
    refine ⟨fun h => ?_, fun _ => ?_⟩
    · have := of_decide_eq_true h; omega
    · have : r = q := root_unique h1 (by simpa using h2) s1 s2
      subst this
      exact Fits.agg (.cons Fits.kb rfl rfl (.cons Fits.ki rfl rfl (.cons (Fits.refl _) rfl rfl .nil)))
  | succ t =>
    have hpos := Nat.two_pow_pos t
    have hs : (2 : Nat) ^ (t + 1) = 2 * 2 ^ t := by rw [Nat.pow_succ]; omega
    have et : (((t + 1 : Nat) : Int) - 1) = (t : Int) := by omega
    have ei : i64 ((t : Int) - 1) = (t : Int) - 1 := i64_of (by omega) (by omega)
    have eu : u64 (t : Int) = t := u64_nat (by omega)
    have ec : bitC ((r : Nat) : Int) (t : Int) = ((r + 2 ^ t : Nat) : Int) := by
      rw [hm]
      exact bitC_eq (by omega) (by rw [← hm]; exact h3)
    rw [et, ei, ec, eu]
    have hc : r + 2 ^ t < 18446744073709551616 := by omega
    rw [less_sq hw hh hL hH hc, hN]
    obtain ⟨b1, b2⟩ := bit_step (p := 2 ^ t) h1 (by rw [← hs]; exact h2)
    refine ⟨fun _ => holds_gd (by simp) ⟨fun h => ?_, fun h => ?_⟩, fun h => ?_⟩
    · have h := of_decide_eq_true h
      obtain ⟨b3, b4⟩ := b1 h
      exact ih (r + 2 ^ t, t) ⟨by show t ≤ 64; omega, 2 * m + 1, by show r + 2 ^ t = (2 * m + 1) * 2 ^ t; rw [hm, hs]; grind, b3, b4, by show r + 2 ^ t + 2 ^ t ≤ _; omega⟩ (Nat.lt_succ_self t)
    · have h := of_decide_eq_false h
      obtain ⟨b3, b4⟩ := b2 (by omega)
      exact ih (r, t) ⟨by show t ≤ 64; omega, 2 * m, by show r = 2 * m * 2 ^ t; rw [hm, hs]; grind, b3, b4, by show r + 2 ^ t ≤ _; omega⟩ (Nat.lt_succ_self t)
    · have := of_decide_eq_false h; omega
def nRootW (w : Wd) : Wd := ⟨false, nRoot w.lo w.hi, 0⟩
theorem c_rRoot (w : Wd) : Con N.P N.ref01_root [w.avR] (nRootW w).avR :=
  con_of_runN (t := [e_Mul64, e_rLess]) (m := []) (hints := hRr) (nils := nn) (all_cons o_Mul64 (all_cons o_rLess all_nil)) mall_nil named mixed (by kernel_rfl) rfl fun hs => by
    have h2 := u64_range ((hs _ List.mem_cons_self).cells (lu w.hi) (List.mem_cons_of_mem _ List.mem_cons_self))
    have h1 := u64_range ((hs _ List.mem_cons_self).cells (lu w.lo) (List.mem_cons_of_mem _ (List.mem_cons_of_mem _ List.mem_cons_self)))
    obtain ⟨L, hL⟩ := Int.eq_ofNat_of_zero_le h1.1
    obtain ⟨H, hH⟩ := Int.eq_ofNat_of_zero_le h2.1
    have lL : L < 18446744073709551616 := by omega
    have lH : H < 18446744073709551616 := by omega
    refine ⟨39 + 65 + 5, ?_⟩
    show (runF Crr (97 + 12) N.ref01_root [w.avR]).holds _
    rw [rr_start]
    have key := rr_loop hL hH lL lH 97 65 (0, 64) 0 (by decide) ⟨Nat.le_refl _, 0, by simp, by simp, by
      have hlt : H * 18446744073709551616 + L < 4 ^ 64 := by rw [two64]; omega
      show _ < (0 + 2 ^ 64) * (0 + 2 ^ 64)
      rw [Nat.zero_add, show (2 : Nat) ^ 64 = 18446744073709551616 from rfl, ← two64]; exact hlt, by show 0 + 2 ^ 64 ≤ _; rw [Nat.zero_add]; exact Nat.le_refl _⟩
    have e : nRootW w = ⟨false, ((isq 64 (H * 18446744073709551616 + L) : Nat) : Int), 0⟩ := by
      unfold nRootW nRoot; rw [hL, hH]; rfl
    rw [e]
    exact key
def e_rRoot : Ent := ent1 N.ref01_root cWdR fun w => (nRootW w).avR
theorem o_rRoot : e_rRoot.ok N.P := ent1_ok c_rRoot
end Go.Flat
end

section
/- Contracts: Hypot, both sides. -/
set_option linter.unusedSimpArgs false
set_option linter.unusedVariables false
namespace Go.Flat
open Go

def nHypot (a b : Num) : Num := nFit ((isq 64 (sv a * sv a + sv b * sv b).toNat : Nat) : Int) (sf a || sf b)
theorem sq_nonneg (a : Int) : 0 ≤ a * a := by
  rcases Int.le_total 0 a with h | h
  · exact Int.mul_nonneg h h
  · exact Int.mul_nonneg_of_nonpos_of_nonpos h h
/-- the root of a wide number that is not below 0 -/
theorem root_of {x : Wd} {z : Int} (hx : x.valid) (hv : x.v = z) (hz : 0 ≤ z) (f : Bool) : wFit ⟨false, nRoot x.lo x.hi, 0⟩ f = nFit ((isq 64 z.toNat : Nat) : Int) f := by
  have hm0 := m_nonneg hx
  have hm : x.m = z := by
    unfold Wd.v at hv
    cases hn : x.neg with
    | false => rw [hn] at hv; exact hv
    | true => rw [hn] at hv; simp only [cond_true] at hv; omega
  have hx' := hx
  unfold Wd.valid at hx'
  have e : nRoot x.lo x.hi = ((isq 64 z.toNat : Nat) : Int) := by
    unfold nRoot
    have : x.hi.toNat * 18446744073709551616 + x.lo.toNat = z.toNat := by
      unfold Wd.m at hm
      omega
    rw [this]
  rw [e]
  have hlt : z.toNat < 4 ^ 64 := by
    rw [two64]
    unfold Wd.m at hm
    omega
  obtain ⟨s1, s2⟩ := isq_spec 64 _ hlt
  have hS : isq 64 z.toNat < 18446744073709551616 := by
    refine lt_of_sq (Nat.lt_of_le_of_lt s1 ?_)
    rw [two64] at hlt
    exact hlt
  generalize isq 64 z.toNat = s at hS
  have hv2 : (⟨false, ((s : Nat) : Int), 0⟩ : Wd).valid := by
    unfold Wd.valid
    simp only
    omega
  rw [wFit_eq hv2]
  unfold Wd.v Wd.m
  simp
theorem c_Hypot (a b : Num) : Con N.P N.fixed_Hypot [a.av, b.av] (nHypot a b).av :=
  Con.sat (by kernel_rfl) fun hs => by
    have ha := sv_bound a (sat_num (hs _ List.mem_cons_self))
    have hb := sv_bound b (sat_num (hs _ (by simp)))
    obtain ⟨k1, k2, k3⟩ := wMul_valid (a := sv a) (b := sv a) (by omega) (by omega)
    obtain ⟨l1, l2, l3⟩ := wMul_valid (a := sv b) (b := sv b) (by omega) (by omega)
    obtain ⟨m1, m2, m3⟩ := wPlus_valid k1 l1 (by omega)
    rw [k2, l2] at m2
    have h0 : 0 ≤ sv a * sv a + sv b * sv b := Int.add_nonneg (sq_nonneg _) (sq_nonneg _)
    have e : nHypot a b = wFit ⟨false, nRoot (wPlus (wMul (sv a) (sv a)) (wMul (sv b) (sv b))).lo (wPlus (wMul (sv a) (sv a)) (wMul (sv b) (sv b))).hi, 0⟩ (anyF [nSound a, nSound b]) := by
      rw [root_of m1 m2 h0, sound_F]; rfl
    rw [e]
    exact con_of_one (t := [e_sound, e_product, e_plus, e_root, e_flags, e_fit]) (hints := Flat.h0) (all_cons o_sound (all_cons o_product (all_cons o_plus (all_cons o_root (all_cons o_flags (all_cons o_fit all_nil)))))) (by kernel_rfl) rfl 60 (by kernel_rfl)
def e_Hypot : Ent := ent2 N.fixed_Hypot cNum cNum fun a b => (nHypot a b).av
theorem o_Hypot : e_Hypot.ok N.P := ent2_ok c_Hypot
theorem c_rHypot (a b : Num) : Con N.P N.ref01_Hypot [a.av, b.av] (nHypot a b).av :=
  Con.sat (by kernel_rfl) fun hs => by
    have ha := sv_bound a (sat_num (hs _ List.mem_cons_self))
    have hb := sv_bound b (sat_num (hs _ (by simp)))
    obtain ⟨k1, k2, k3⟩ := rMul_valid (a := sv a) (b := sv a) (by omega) (by omega)
    obtain ⟨l1, l2, l3⟩ := rMul_valid (a := sv b) (b := sv b) (by omega) (by omega)
    obtain ⟨m1, m2, m3⟩ := rPlus_valid k1 l1 (by omega)
    rw [k2, l2] at m2
    have h0 : 0 ≤ sv a * sv a + sv b * sv b := Int.add_nonneg (sq_nonneg _) (sq_nonneg _)
    have e : ∀ f, wFit (nRootW (rPlus (rMul (sv a) (sv a)) (rMul (sv b) (sv b)))) f = nFit ((isq 64 (sv a * sv a + sv b * sv b).toNat : Nat) : Int) f := fun f => root_of m1 m2 h0 f
    exact con_ty (c := cNum) (t := [e_rWhole, e_rTimes, e_rPlus, e_rRoot, e_rFit]) (hints := Flat.h0) (all_cons o_rWhole (all_cons o_rTimes (all_cons o_rPlus (all_cons o_rRoot (all_cons o_rFit all_nil))))) (by kernel_rfl) rfl 60
      (.node (sf a) (.leaf (wFit (nRootW (rPlus (rMul (sv a) (sv a)) (rMul (sv b) (sv b)))) true)) (.leaf (wFit (nRootW (rPlus (rMul (sv a) (sv a)) (rMul (sv b) (sv b)))) (sf b)))) (by kernel_rfl) fun _ => by
        refine ⟨fun h => ?_, fun h => ?_⟩ <;> show _ = _ <;> rw [e] <;> unfold nHypot <;> rw [h] <;> rfl
def e_rHypot : Ent := ent2 N.ref01_Hypot cNum cNum fun a b => (nHypot a b).av
theorem o_rHypot : e_rHypot.ok N.P := ent2_ok c_rHypot
end Go.Flat
end

section
/- Contracts: angles: Wrap, Sin, Cos; rotations: Angle, Compose, Spin; both sides. -/
set_option linter.unusedSimpArgs false
set_option linter.unusedVariables false
namespace Go.Flat
open Go

def wrapV (r : Int) : Int := bif decide (r > 13493037704) then r - 26986075409 else bif decide (r < -13493037704) then r + 26986075409 else r
def nWrap (a : Num) : Num := ⟨wrapV ((sv a).tmod 26986075409), sf a⟩
theorem tmod_bound (x : Int) : -26986075409 < x.tmod 26986075409 ∧ x.tmod 26986075409 < 26986075409 := by
  rcases Int.le_total 0 x with h | h
  · rw [Int.tmod_eq_emod_of_nonneg h]; omega
  · have e : x.tmod 26986075409 = -((-x).tmod 26986075409) := by rw [Int.neg_tmod, Int.neg_neg]
    rw [e, Int.tmod_eq_emod_of_nonneg (by omega)]; omega
theorem wrap_bound (a : Num) : -13493037704 ≤ (nWrap a).V ∧ (nWrap a).V ≤ 13493037704 := by
  have h := tmod_bound (sv a)
  unfold nWrap wrapV
  generalize (sv a).tmod 26986075409 = r at *
  by_cases h1 : r > 13493037704
  · simp only [h1, decide_true, cond_true]; omega
  · by_cases h2 : r < -13493037704
    · simp only [h1, h2, decide_true, decide_false, cond_true, cond_false]; omega
    · simp only [h1, h2, decide_false, cond_false]; omega
theorem c_Wrap (a : Num) : Con N.P N.fixed_Wrap [a.av] (nWrap a).av :=
  con_ty (c := cNum) (t := [e_sound]) (hints := h0) (all_cons o_sound all_nil) (by kernel_rfl) rfl 60
    (.node (decide ((sv a).tmod 26986075409 > 13493037704)) (.leaf ⟨i64 ((sv a).tmod 26986075409 - 26986075409), sf a⟩)
      (.node (decide ((sv a).tmod 26986075409 < -13493037704)) (.leaf ⟨i64 ((sv a).tmod 26986075409 + 26986075409), sf a⟩) (.leaf ⟨(sv a).tmod 26986075409, sf a⟩))) (by kernel_rfl) fun _ => by
    have hb := tmod_bound (sv a)
    unfold nWrap wrapV
    generalize (sv a).tmod 26986075409 = r at *
    refine ⟨fun h => ?_, fun h => ⟨fun h2 => ?_, fun h2 => ?_⟩⟩ <;> show _ = _
    · rw [h, i64_of (by omega) (by omega)]; rfl
    · rw [h, h2, i64_of (by omega) (by omega)]; rfl
    · rw [h, h2]; rfl
def e_Wrap : Ent := ent1 N.fixed_Wrap cNum fun a => (nWrap a).av
theorem o_Wrap : e_Wrap.ok N.P := ent1_ok c_Wrap
theorem c_rWrap (a : Num) : Con N.P N.ref01_Wrap [a.av] (nWrap a).av :=
  con_ty (c := cNum) (t := [e_rWhole]) (hints := h0) (all_cons o_rWhole all_nil) (by kernel_rfl) rfl 60
    (.node (decide ((sv a).tmod 26986075409 > 13493037704)) (.node (decide (i64 ((sv a).tmod 26986075409 - 26986075409) < -13493037704)) (.leaf ⟨i64 (i64 ((sv a).tmod 26986075409 - 26986075409) + 26986075409), sf a⟩) (.leaf ⟨i64 ((sv a).tmod 26986075409 - 26986075409), sf a⟩))
      (.node (decide ((sv a).tmod 26986075409 < -13493037704)) (.leaf ⟨i64 ((sv a).tmod 26986075409 + 26986075409), sf a⟩) (.leaf ⟨(sv a).tmod 26986075409, sf a⟩))) (by kernel_rfl) fun _ => by
    have hb := tmod_bound (sv a)
    unfold nWrap wrapV
    generalize (sv a).tmod 26986075409 = r at *
    refine ⟨fun h => ⟨fun h2 => ?_, fun h2 => ?_⟩, fun h => ⟨fun h2 => ?_, fun h2 => ?_⟩⟩
    · have h' := of_decide_eq_true h
      have h2' := of_decide_eq_true h2
      rw [i64_of (by omega) (by omega)] at h2'
      omega
    · have h' := of_decide_eq_true h
      show _ = _
      rw [h, i64_of (by omega) (by omega)]; rfl
    · have h' := of_decide_eq_true h2
      show _ = _
      rw [h, h2, i64_of (by omega) (by omega)]; rfl
    · show _ = _
      rw [h, h2]; rfl
def e_rWrap : Ent := ent1 N.ref01_Wrap cNum fun a => (nWrap a).av
theorem o_rWrap : e_rWrap.ok N.P := ent1_ok c_rWrap

/-! the sine by its series -/
def sTerm (y t : Num) (k : Int) : Num := nNeg (nDiv (nMul (nMul t y) y) (nInt k))
structure TS where
  t : Num
  s : Num
def sStep (y : Num) (k : Int) (p : TS) : TS := ⟨sTerm y p.t k, nAdd p.s (sTerm y p.t k)⟩
def sSeries (y : Num) : Num := (sStep y 272 (sStep y 210 (sStep y 156 (sStep y 110 (sStep y 72 (sStep y 42 (sStep y 20 (sStep y 6 ⟨y, y⟩)))))))).s
def sFold (y : Num) : Num := bif decide (y.V > 6746518852) then ⟨i64 (13493037704 - y.V), y.F⟩ else bif decide (y.V < -6746518852) then ⟨i64 (-13493037704 - y.V), y.F⟩ else y
def sClamp (y : Num) : Num := nClamp (sSeries y) (nInt (-1)) (nInt 1)
def nSin (a : Num) : Num := sClamp (sFold (nWrap a))
def t_sin : List Ent := [e_Wrap, e_Add, e_Neg, e_Div, e_Mul, e_Int, e_Clamp]
theorem c_Sin (a : Num) : Con N.P N.fixed_Sin [a.av] (nSin a).av :=
  con_ty (c := cNum) (t := t_sin) (hints := h0) (all_cons o_Wrap (all_cons o_Add (all_cons o_Neg (all_cons o_Div (all_cons o_Mul (all_cons o_Int (all_cons o_Clamp all_nil))))))) (by kernel_rfl) rfl 60
    (.node (decide ((nWrap a).V > 6746518852)) (.leaf (sClamp ⟨i64 (13493037704 - (nWrap a).V), (nWrap a).F⟩)) (.node (decide ((nWrap a).V < -6746518852)) (.leaf (sClamp ⟨i64 (-13493037704 - (nWrap a).V), (nWrap a).F⟩)) (.leaf (sClamp (nWrap a))))) (by kernel_rfl) fun _ => by
    unfold nSin sFold
    refine ⟨fun h => ?_, fun h => ⟨fun h2 => ?_, fun h2 => ?_⟩⟩ <;> show _ = _
    · rw [h]; rfl
    · rw [h, h2]; rfl
    · rw [h, h2]; rfl
def e_Sin : Ent := ent1 N.fixed_Sin cNum fun a => (nSin a).av
theorem o_Sin : e_Sin.ok N.P := ent1_ok c_Sin
def t_rsin : List Ent := [e_rWrap, e_rAddN, e_rNeg, e_rDiv, e_rMul, e_rInt, e_rClamp]
theorem c_rSin (a : Num) : Con N.P N.ref01_Sin [a.av] (nSin a).av :=
  con_ty (c := cNum) (t := t_rsin) (hints := h0) (all_cons o_rWrap (all_cons o_rAddN (all_cons o_rNeg (all_cons o_rDiv (all_cons o_rMul (all_cons o_rInt (all_cons o_rClamp all_nil))))))) (by kernel_rfl) rfl 60
    (.node (decide ((nWrap a).V > 6746518852)) (.node (decide (i64 (13493037704 - (nWrap a).V) < -6746518852)) (.leaf (sClamp ⟨i64 (-13493037704 - i64 (13493037704 - (nWrap a).V)), (nWrap a).F⟩)) (.leaf (sClamp ⟨i64 (13493037704 - (nWrap a).V), (nWrap a).F⟩)))
      (.node (decide ((nWrap a).V < -6746518852)) (.leaf (sClamp ⟨i64 (-13493037704 - (nWrap a).V), (nWrap a).F⟩)) (.leaf (sClamp (nWrap a))))) (by kernel_rfl) fun _ => by
    have hb := wrap_bound a
    unfold nSin sFold
    refine ⟨fun h => ⟨fun h2 => ?_, fun h2 => ?_⟩, fun h => ⟨fun h2 => ?_, fun h2 => ?_⟩⟩
    · have h2' := of_decide_eq_true h2
      rw [i64_of (by omega) (by omega)] at h2'
      omega
    · show _ = _
      rw [h]; rfl
    · show _ = _
      rw [h, h2]; rfl
    · show _ = _
      rw [h, h2]; rfl
def e_rSin : Ent := ent1 N.ref01_Sin cNum fun a => (nSin a).av
theorem o_rSin : e_rSin.ok N.P := ent1_ok c_rSin
def nCos (a : Num) : Num := nSin (nAdd (nWrap a) ⟨6746518852, false⟩)
def e_Of : Ent := ent1 N.fixed_Of (cInt .i64) fun v => (nSound ⟨v, false⟩).av
theorem c_Of (v : Int) : Con N.P N.fixed_Of [li v] (nSound ⟨v, false⟩).av :=
  con_ty (c := cNum) (t := [e_sound]) (hints := h0) (all_cons o_sound all_nil) (by kernel_rfl) rfl 30 (.leaf (nSound ⟨v, false⟩)) (by kernel_rfl) fun _ => rfl
theorem o_Of : e_Of.ok N.P := ent1_ok c_Of
theorem c_Cos (a : Num) : Con N.P N.fixed_Cos [a.av] (nCos a).av :=
  con_ty (c := cNum) (t := [e_Sin, e_Add, e_Wrap, e_Of]) (hints := h0) (all_cons o_Sin (all_cons o_Add (all_cons o_Wrap (all_cons o_Of all_nil)))) (by kernel_rfl) rfl 30 (.leaf (nCos a)) (by kernel_rfl) fun _ => rfl
def e_Cos : Ent := ent1 N.fixed_Cos cNum fun a => (nCos a).av
theorem o_Cos : e_Cos.ok N.P := ent1_ok c_Cos
theorem c_rCos (a : Num) : Con N.P N.ref01_Cos [a.av] (nCos a).av :=
  con_ty (c := cNum) (t := [e_rSin, e_rAddN, e_rWrap]) (hints := h0) (all_cons o_rSin (all_cons o_rAddN (all_cons o_rWrap all_nil))) (by kernel_rfl) rfl 30 (.leaf (nCos a)) (by kernel_rfl) fun _ => rfl
def e_rCos : Ent := ent1 N.ref01_Cos cNum fun a => (nCos a).av
theorem o_rCos : e_rCos.ok N.P := ent1_ok c_rCos

/-! rotations -/
def rAngle (a : Num) : Rot := ⟨nCos a, nSin a⟩
theorem c_Angle (a : Num) : Con N.P N.plane_Angle [a.av] (rAngle a).av :=
  con_ty (c := rRot.agg) (t := [e_Sin, e_Cos]) (hints := h0) (all_cons o_Sin (all_cons o_Cos all_nil)) (by kernel_rfl) rfl 30 (.leaf (rAngle a)) (by kernel_rfl) fun _ => rfl
def e_Angle : Ent := ent1 N.plane_Angle cNum fun a => (rAngle a).av
theorem o_Angle : e_Angle.ok N.P := ent1_ok c_Angle
theorem c_rAngle (a : Num) : Con N.P N.ref02_Angle [a.av] (rAngle a).av :=
  con_ty (c := rRot.agg) (t := [e_rSin, e_rCos]) (hints := h0) (all_cons o_rSin (all_cons o_rCos all_nil)) (by kernel_rfl) rfl 30 (.leaf (rAngle a)) (by kernel_rfl) fun _ => rfl
def e_rAngle : Ent := ent1 N.ref02_Angle cNum fun a => (rAngle a).av
theorem o_rAngle : e_rAngle.ok N.P := ent1_ok c_rAngle
def cmC (r s : Rot) : Num := nDot r.C s.C (nNeg r.S) s.S
def cmS (r s : Rot) : Num := nDot r.S s.C r.C s.S
def cmN (r s : Rot) : Num := nHypot (cmC r s) (cmS r s)
def rCompose (r s : Rot) : Rot := bif (cmN r s).V != 0 then ⟨nDiv (cmC r s) (cmN r s), nDiv (cmS r s) (cmN r s)⟩ else ⟨cmC r s, cmS r s⟩
theorem c_Compose (r s : Rot) : Con N.P N.plane_Compose [r.av, s.av] (rCompose r s).av :=
  con_ty (c := rRot.agg) (t := [e_Dot, e_Neg, e_Hypot, e_Div]) (hints := h0) (all_cons o_Dot (all_cons o_Neg (all_cons o_Hypot (all_cons o_Div all_nil)))) (by kernel_rfl) rfl 60
    (.node ((cmN r s).V != 0) (.leaf ⟨nDiv (cmC r s) (cmN r s), nDiv (cmS r s) (cmN r s)⟩) (.leaf ⟨cmC r s, cmS r s⟩)) (by kernel_rfl) fun _ => by
    unfold rCompose
    refine ⟨fun h => ?_, fun h => ?_⟩ <;> show _ = _ <;> rw [h] <;> rfl
def e_Compose : Ent := ent2 N.plane_Compose rRot.agg rRot.agg fun r s => (rCompose r s).av
theorem o_Compose : e_Compose.ok N.P := ent2_ok c_Compose
theorem c_rCompose (r s : Rot) : Con N.P N.ref02_Compose [r.av, s.av] (rCompose r s).av :=
  con_ty (c := rRot.agg) (t := [e_rDot, e_rNeg, e_rHypot, e_rDiv]) (hints := h0) (all_cons o_rDot (all_cons o_rNeg (all_cons o_rHypot (all_cons o_rDiv all_nil)))) (by kernel_rfl) rfl 60
    (.node ((cmN r s).V == 0) (.leaf ⟨cmC r s, cmS r s⟩) (.leaf ⟨nDiv (cmC r s) (cmN r s), nDiv (cmS r s) (cmN r s)⟩)) (by kernel_rfl) fun _ => by
    unfold rCompose
    have e : ((cmN r s).V != 0) = !((cmN r s).V == 0) := rfl
    rw [e]
    refine ⟨fun h => ?_, fun h => ?_⟩ <;> show _ = _ <;> rw [h] <;> rfl
def e_rCompose : Ent := ent2 N.ref02_Compose rRot.agg rRot.agg fun r s => (rCompose r s).av
theorem o_rCompose : e_rCompose.ok N.P := ent2_ok c_rCompose
def rSpin (r : Rot) (w : Num) : Rot := rCompose (rAngle w) r
theorem c_Spin (r : Rot) (w : Num) : Con N.P N.plane_Spin [r.av, w.av] (rSpin r w).av :=
  con_ty (c := rRot.agg) (t := [e_Angle, e_Compose]) (hints := h0) (all_cons o_Angle (all_cons o_Compose all_nil)) (by kernel_rfl) rfl 30 (.leaf (rSpin r w)) (by kernel_rfl) fun _ => rfl
def e_Spin : Ent := ent2 N.plane_Spin rRot.agg cNum fun r w => (rSpin r w).av
theorem o_Spin : e_Spin.ok N.P := ent2_ok c_Spin
theorem c_rSpin (r : Rot) (w : Num) : Con N.P N.ref02_Spin [r.av, w.av] (rSpin r w).av :=
  con_ty (c := rRot.agg) (t := [e_rAngle, e_rCompose]) (hints := h0) (all_cons o_rAngle (all_cons o_rCompose all_nil)) (by kernel_rfl) rfl 30 (.leaf (rSpin r w)) (by kernel_rfl) fun _ => rfl
def e_rSpin : Ent := ent2 N.ref02_Spin rRot.agg cNum fun r w => (rSpin r w).av
theorem o_rSpin : e_rSpin.ok N.P := ent2_ok c_rSpin
end Go.Flat
end

section
/- Contracts: Len, Unit, Solve, Apply, To, both sides. -/
set_option linter.unusedSimpArgs false
set_option linter.unusedVariables false
namespace Go.Flat
open Go

def vLen (v : Vec) : Num := nHypot v.X v.Y
theorem c_VLen (v : Vec) : Con N.P N.plane_Len [v.av] (vLen v).av :=
  con_of_one (t := [e_Hypot]) (hints := h0) (all_cons o_Hypot all_nil) (by kernel_rfl) rfl 30 (by kernel_rfl)
def e_VLen : Ent := ent1 N.plane_Len cVec fun v => (vLen v).av
theorem o_VLen : e_VLen.ok N.P := ent1_ok c_VLen
theorem c_rVLen (v : Vec) : Con N.P N.ref02_Len [v.av] (vLen v).av :=
  con_of_one (t := [e_rHypot]) (hints := h0) (all_cons o_rHypot all_nil) (by kernel_rfl) rfl 30 (by kernel_rfl)
def e_rVLen : Ent := ent1 N.ref02_Len cVec fun v => (vLen v).av
theorem o_rVLen : e_rVLen.ok N.P := ent1_ok c_rVLen

/-! what a number is like that is not flagged -/
theorem sf_false {a : Num} (h : sf a = false) : a.F = false ∧ a.V ≠ -9223372036854775808 ∧ sv a = a.V := by
  unfold sf sv nSound at *
  cases hq : decide (a.V = -9223372036854775808) with
  | true => rw [hq] at h; cases h
  | false =>
    rw [hq] at h
    exact ⟨h, of_decide_eq_false hq, rfl⟩
theorem fit_bound (z : Int) (f : Bool) : -9223372036854775807 ≤ (nFit z f).V ∧ (nFit z f).V ≤ 9223372036854775807 := by
  unfold nFit Top
  split
  · simp
  · split
    · simp
    · simp only; omega
theorem sum1 {a : Num} (h : -9223372036854775807 ≤ sv a ∧ sv a ≤ 9223372036854775807) : (nSum [a]).F = sf a := by
  unfold nSum nFit Top
  simp only [List.map_cons, List.map_nil, List.sum_cons, List.sum_nil, Int.add_zero, List.any_cons, List.any_nil, Bool.or_false]
  rw [if_neg (by omega), if_neg (by omega)]
theorem ratio_bound (a b : Int) : -9223372036854775807 ≤ (nRatio a b).V ∧ (nRatio a b).V ≤ 9223372036854775807 := by
  unfold nRatio
  split
  · show _ ≤ a.sign * Top ∧ a.sign * Top ≤ _
    unfold Top
    rcases Int.lt_trichotomy a 0 with h | h | h
    · rw [Int.sign_eq_neg_one_of_neg h]; omega
    · subst h; simp
    · rw [Int.sign_eq_one_of_pos h]; omega
  · exact fit_bound _ _
theorem sv_div (a b : Num) : -9223372036854775807 ≤ sv (nDiv a b) ∧ sv (nDiv a b) ≤ 9223372036854775807 := by
  have h := ratio_bound (sv a) (sv b)
  have e : sv (nDiv a b) = (nRatio (sv a) (sv b)).V := by
    unfold sv nSound
    have : decide ((nDiv a b).V = -9223372036854775808) = false := by
      refine decide_eq_false ?_
      show ¬ (nRatio (sv a) (sv b)).V = _
      omega
    rw [this]
    rfl
  rw [e]; exact h

/-! Unit -/
abbrev cVB : Cdc (Vec × Bool) := cPair cVec cBool
def vb0 : Vec × Bool := (zV, false)
def uDone (u : Vec) : Vec × Bool := (⟨nDiv u.X (vLen u), nDiv u.Y (vLen u)⟩, true)
def uTail (u : Vec) : Vec × Bool := bif (vLen u).F then vb0 else bif (vLen u).V == 0 then vb0 else uDone u
def uTailT (u : Vec) : Tree (Vec × Bool) := .node (vLen u).F (.leaf vb0) (.node ((vLen u).V == 0) (.leaf vb0) (.leaf (uDone u)))
theorem uTail_h (u : Vec) : (uTailT u).holds (· = uTail u) := by
  unfold uTail
  refine ⟨fun h => ?_, fun h => ⟨fun h2 => ?_, fun h2 => ?_⟩⟩ <;> show _ = _
  · rw [h]; rfl
  · rw [h, h2]; rfl
  · rw [h, h2]; rfl
def uSmall (v : Vec) : Bool := bif decide ((nAbs v.X).V < 16777216) then decide ((nAbs v.Y).V < 16777216) else false
def uScaled (v : Vec) : Vec := ⟨⟨i64 (v.X.V * 16777216), v.X.F⟩, ⟨i64 (v.Y.V * 16777216), v.Y.F⟩⟩
def uScaledR (v : Vec) : Vec := ⟨nSound ⟨i64 (v.X.V * 16777216), false⟩, nSound ⟨i64 (v.Y.V * 16777216), false⟩⟩
def uV (v : Vec) : Vec := bif uSmall v then uScaled v else v
def sUnit (v : Vec) : Vec × Bool := bif sf v.X then vb0 else bif sf v.Y then vb0 else uTail (uV v)
def mx1 (v : Vec) : Int := if i64 (0 - v.X.V) > v.X.V then i64 (0 - v.X.V) else v.X.V
def mx2 (v : Vec) : Int := if v.Y.V > mx1 v then v.Y.V else mx1 v
def mx3 (v : Vec) : Int := if i64 (0 - v.Y.V) > mx2 v then i64 (0 - v.Y.V) else mx2 v
theorem mx_small {v : Vec} (hx : sf v.X = false) (hy : sf v.Y = false) (bx : -9223372036854775808 ≤ v.X.V ∧ v.X.V ≤ 9223372036854775807) (by' : -9223372036854775808 ≤ v.Y.V ∧ v.Y.V ≤ 9223372036854775807) : decide (mx3 v < 16777216) = uSmall v := by
  obtain ⟨_, x1, x2⟩ := sf_false hx
  obtain ⟨_, y1, y2⟩ := sf_false hy
  have eX : (nAbs v.X).V = ((sv v.X).natAbs : Int) := by unfold nAbs; first | rfl | (simp only; split <;> omega) | omega
  have eY : (nAbs v.Y).V = ((sv v.Y).natAbs : Int) := by unfold nAbs; first | rfl | (simp only; split <;> omega) | omega
  unfold uSmall
  rw [eX, eY, x2, y2]
  unfold mx3 mx2 mx1
  rw [i64_of (n := 0 - v.X.V) (by omega) (by omega), i64_of (n := 0 - v.Y.V) (by omega) (by omega)]
  by_cases h1 : ((v.X.V).natAbs : Int) < 16777216
  · by_cases h2 : ((v.Y.V).natAbs : Int) < 16777216
    · simp only [h1, h2, decide_true, cond_true]
      refine decide_eq_true ?_
      repeat' split
      all_goals omega
    · simp only [h1, h2, decide_true, decide_false, cond_true]
      refine decide_eq_false ?_
      repeat' split
      all_goals omega
  · simp only [h1, decide_false, cond_false]
    refine decide_eq_false ?_
    repeat' split
    all_goals omega
theorem sat_vec {v : Vec} (h : Sat v.av) : (-9223372036854775808 ≤ v.X.V ∧ v.X.V ≤ 9223372036854775807) ∧ (-9223372036854775808 ≤ v.Y.V ∧ v.Y.V ≤ 9223372036854775807) :=
  ⟨i64_range (h.cells (li v.X.V) (List.mem_of_getElem? (i := 0) rfl)), i64_range (h.cells (li v.Y.V) (List.mem_of_getElem? (i := 2) rfl))⟩
theorem c_Unit (v : Vec) : Con N.P N.plane_Unit [v.av] (cVB.enc (sUnit v)) :=
  con_ty (c := cVB) (t := [e_Neg, e_VLen, e_Div]) (hints := h0) (all_cons o_Neg (all_cons o_VLen (all_cons o_Div all_nil))) (by kernel_rfl) rfl 60
    (.node (sf v.X) (.leaf vb0) (.node (sf v.Y) (.leaf vb0) (.node (decide (mx3 v < 16777216)) (uTailT (uScaled v)) (uTailT v)))) (by kernel_rfl) fun hs => by
    obtain ⟨bx, by'⟩ := sat_vec (hs _ List.mem_cons_self)
    unfold sUnit
    refine ⟨fun h => ?_, fun h => ⟨fun h2 => ?_, fun h2 => ?_⟩⟩
    · show _ = _
      rw [h]; rfl
    · show _ = _
      rw [h, h2]; rfl
    · rw [mx_small h h2 bx by', h, h2]
      simp only [cond_false]
      unfold uV
      refine ⟨fun h3 => ?_, fun h3 => ?_⟩
      · rw [h3]; exact uTail_h _
      · rw [h3]; exact uTail_h _
def e_Unit : Ent := ent1 N.plane_Unit cVec fun v => cVB.enc (sUnit v)
theorem o_Unit : e_Unit.ok N.P := ent1_ok c_Unit
theorem scaled_eq {v : Vec} (hx : sf v.X = false) (hy : sf v.Y = false) (h1 : (nAbs v.X).V < 16777216) (h2 : (nAbs v.Y).V < 16777216) : uScaledR v = uScaled v := by
  obtain ⟨fx, x1, x2⟩ := sf_false hx
  obtain ⟨fy, y1, y2⟩ := sf_false hy
  have eX : (nAbs v.X).V = ((sv v.X).natAbs : Int) := by unfold nAbs; first | rfl | (simp only; split <;> omega) | omega
  have eY : (nAbs v.Y).V = ((sv v.Y).natAbs : Int) := by unfold nAbs; first | rfl | (simp only; split <;> omega) | omega
  rw [eX, x2] at h1
  rw [eY, y2] at h2
  unfold uScaledR uScaled
  rw [i64_of (n := v.X.V * 16777216) (by omega) (by omega), i64_of (n := v.Y.V * 16777216) (by omega) (by omega), fx, fy]
  have d1 : decide (v.X.V * 16777216 = -9223372036854775808) = false := decide_eq_false (by omega)
  have d2 : decide (v.Y.V * 16777216 = -9223372036854775808) = false := decide_eq_false (by omega)
  unfold nSound
  simp only [d1, d2, cond_false]
theorem c_rUnit (v : Vec) : Con N.P N.ref02_Unit [v.av] (cVB.enc (sUnit v)) :=
  con_ty (c := cVB) (t := [e_rSum, e_rAbs, e_rOf, e_rVLen, e_rDiv]) (hints := h0) (all_cons o_rSum (all_cons o_rAbs (all_cons o_rOf (all_cons o_rVLen (all_cons o_rDiv all_nil))))) (by kernel_rfl) rfl 60
    (.node (nSum [v.X]).F (.leaf vb0) (.node (nSum [v.Y]).F (.leaf vb0) (.node (decide ((nAbs v.X).V < 16777216)) (.node (decide ((nAbs v.Y).V < 16777216)) (uTailT (uScaledR v)) (uTailT v)) (uTailT v)))) (by kernel_rfl) fun hs => by
    obtain ⟨bx, by'⟩ := sat_vec (hs _ List.mem_cons_self)
    rw [sum1 (sv_bound _ bx), sum1 (sv_bound _ by')]
    unfold sUnit
    refine ⟨fun h => ?_, fun h => ⟨fun h2 => ?_, fun h2 => ?_⟩⟩
    · show _ = _
      rw [h]; rfl
    · show _ = _
      rw [h, h2]; rfl
    · rw [h, h2]
      simp only [cond_false]
      unfold uV uSmall
      refine ⟨fun h3 => ⟨fun h4 => ?_, fun h4 => ?_⟩, fun h3 => ?_⟩
      · rw [h3, h4, scaled_eq h h2 (of_decide_eq_true h3) (of_decide_eq_true h4)]; exact uTail_h _
      · rw [h3, h4]; exact uTail_h _
      · rw [h3]; exact uTail_h _
def e_rUnit : Ent := ent1 N.ref02_Unit cVec fun v => cVB.enc (sUnit v)
theorem o_rUnit : e_rUnit.ok N.P := ent1_ok c_rUnit

/-! Solve -/
def slN' (a b c d : Num) : Num := nDot a d (nNeg b) c
def slV (a b c d : Num) (v : Vec) : Vec := ⟨nDiv (nDot v.X d (nNeg b) v.Y) (slN' a b c d), nDiv (nDot a v.Y (nNeg v.X) c) (slN' a b c d)⟩
def sSolve (a b c d : Num) (v : Vec) : Vec × Bool := bif (slN' a b c d).F then vb0 else bif (slN' a b c d).V == 0 then vb0 else bif sf (slV a b c d v).X then vb0 else bif sf (slV a b c d v).Y then vb0 else (slV a b c d v, true)
def solveT (a b c d : Num) (v : Vec) : Tree (Vec × Bool) := .node (slN' a b c d).F (.leaf vb0) (.node ((slN' a b c d).V == 0) (.leaf vb0) (.node (sf (slV a b c d v).X) (.leaf vb0) (.node (sf (slV a b c d v).Y) (.leaf vb0) (.leaf (slV a b c d v, true)))))
theorem solve_h (a b c d : Num) (v : Vec) : (solveT a b c d v).holds (· = sSolve a b c d v) := by
  unfold sSolve
  refine ⟨fun h => ?_, fun h => ⟨fun h2 => ?_, fun h2 => ⟨fun h3 => ?_, fun h3 => ⟨fun h4 => ?_, fun h4 => ?_⟩⟩⟩⟩ <;> show _ = _
  · rw [h]; rfl
  · rw [h, h2]; rfl
  · rw [h, h2, h3]; rfl
  · rw [h, h2, h3, h4]; rfl
  · rw [h, h2, h3, h4]; rfl
theorem c_Solve (a b c d : Num) (v : Vec) : Con N.P N.plane_Solve [a.av, b.av, c.av, d.av, v.av] (cVB.enc (sSolve a b c d v)) :=
  con_ty (c := cVB) (t := [e_Neg, e_Dot, e_Div]) (hints := h0) (all_cons o_Neg (all_cons o_Dot (all_cons o_Div all_nil))) (by kernel_rfl) rfl 60 (solveT a b c d v) (by kernel_rfl) fun _ => solve_h a b c d v
theorem c_rSolve (a b c d : Num) (v : Vec) : Con N.P N.ref02_Solve [a.av, b.av, c.av, d.av, v.av] (cVB.enc (sSolve a b c d v)) :=
  con_ty (c := cVB) (t := [e_rNeg, e_rSum, e_rDot, e_rDiv]) (hints := h0) (all_cons o_rNeg (all_cons o_rSum (all_cons o_rDot (all_cons o_rDiv all_nil)))) (by kernel_rfl) rfl 60
    (.node (slN' a b c d).F (.leaf vb0) (.node ((slN' a b c d).V == 0) (.leaf vb0) (.node (nSum [(slV a b c d v).X]).F (.leaf vb0) (.node (nSum [(slV a b c d v).Y]).F (.leaf vb0) (.leaf (slV a b c d v, true)))))) (by kernel_rfl) fun _ => by
    have e1 : (nSum [(slV a b c d v).X]).F = sf (slV a b c d v).X := sum1 (sv_div _ _)
    have e2 : (nSum [(slV a b c d v).Y]).F = sf (slV a b c d v).Y := sum1 (sv_div _ _)
    rw [e1, e2]
    exact solve_h a b c d v

/-! Apply, To -/
def vApply (r : Rot) (v : Vec) : Vec := ⟨nDot r.C v.X (nNeg r.S) v.Y, nDot r.S v.X r.C v.Y⟩
def vTo (p : Pose) (v : Vec) : Vec := vAdd [p.At, vApply p.Rt v]
theorem c_Apply (r : Rot) (v : Vec) : Con N.P N.plane_Apply [r.av, v.av] (vApply r v).av :=
  con_of_one (t := [e_Neg, e_Dot]) (hints := h0) (all_cons o_Neg (all_cons o_Dot all_nil)) (by kernel_rfl) rfl 30 (by kernel_rfl)
def e_Apply : Ent := ent2 N.plane_Apply rRot.agg cVec fun r v => (vApply r v).av
theorem o_Apply : e_Apply.ok N.P := ent2_ok c_Apply
theorem c_rApply (r : Rot) (v : Vec) : Con N.P N.ref02_Apply [r.av, v.av] (vApply r v).av :=
  con_of_one (t := [e_rNeg, e_rDot]) (hints := h0) (all_cons o_rNeg (all_cons o_rDot all_nil)) (by kernel_rfl) rfl 30 (by kernel_rfl)
def e_rApply : Ent := ent2 N.ref02_Apply rRot.agg cVec fun r v => (vApply r v).av
theorem o_rApply : e_rApply.ok N.P := ent2_ok c_rApply
theorem c_To (p : Pose) (v : Vec) : Con N.P N.plane_To [p.av, v.av] (vTo p v).av :=
  con_of_one (t := [e_PAdd, e_Apply]) (hints := h0) (all_cons o_PAdd (all_cons o_Apply all_nil)) (by kernel_rfl) rfl 30 (by kernel_rfl)
def e_To : Ent := ent2 N.plane_To rPose.agg cVec fun p v => (vTo p v).av
theorem o_To : e_To.ok N.P := ent2_ok c_To
theorem c_rTo (p : Pose) (v : Vec) : Con N.P N.ref02_To [p.av, v.av] (vTo p v).av :=
  con_of_one (t := [e_rAdd, e_rApply]) (hints := h0) (all_cons o_rAdd (all_cons o_rApply all_nil)) (by kernel_rfl) rfl 30 (by kernel_rfl)
def e_rTo : Ent := ent2 N.ref02_To rPose.agg cVec fun p v => (vTo p v).av
theorem o_rTo : e_rTo.ok N.P := ent2_ok c_rTo
end Go.Flat
end

section
/- Contracts: CheckJoint, both sides. -/
set_option linter.unusedSimpArgs false
set_option linter.unusedVariables false
namespace Go.Flat
open Go

/-- one question after the other: the first that is answered yes tells the error -/
inductive CK where
  | c (b : Bool) (e : Int)
  | g (b : Bool)
def ckT : List CK → Tree Int
  | [] => .leaf 0
  | .c b e :: r => .node b (.leaf e) (ckT r)
  | .g b :: r => gd b (ckT r)
def ckV : List CK → Int
  | [] => 0
  | .c b e :: r => bif b then e else ckV r
  | .g _ :: r => ckV r
def ckG : List CK → Bool
  | [] => true
  | .c _ _ :: r => ckG r
  | .g b :: r => b && ckG r
theorem ckT_h : ∀ {l : List CK}, ckG l = true → (ckT l).holds (· = ckV l)
  | [], _ => rfl
  | .c b e :: r, h => ⟨fun hb => by show e = bif b then e else ckV r; rw [hb]; rfl, fun hb => by
      have e1 : ckV (.c b e :: r) = ckV r := by show (bif b then e else ckV r) = _; rw [hb]; rfl
      rw [e1]
      exact ckT_h h⟩
  | .g b :: r, h => by
    simp only [ckG, Bool.and_eq_true] at h
    exact holds_gd h.1 (ckT_h h.2)
def noLen (j : Joint) : Bool := !(j.Len.V == 0 && (j.Len.F == false && true))
def ck1 (n : Int) (j : Joint) : List CK := [.c (decide (j.A < 0)) 3, .c (decide (j.A ≥ n)) 3, .g (lim 32), .c (!vIn 32 j.PA) 3, .g (lim 4096), .c (!vIn 4096 j.PB) 3, .c (j.B != 0) 4, .c (noLen j) 4]
def ck2 (n : Int) (j : Joint) : List CK := [.c (decide (j.A < 0)) 3, .c (decide (j.A ≥ n)) 3, .c (!apartB n j.A j.B) 3, .g (lim 32), .c (!vIn 32 j.PA) 3, .g (lim 32), .c (!vIn 32 j.PB) 3, .g (lim 8192), .c (!wIn 8192 j.Len) 3, .c (decide (j.Len.V < 0)) 3]
def ck3 (n : Int) (j : Joint) : List CK := [.c (decide (j.A < 0)) 3, .c (decide (j.A ≥ n)) 3, .c (!apartB n j.A j.B) 3, .g (lim 32), .c (!vIn 32 j.PA) 3, .g (lim 32), .c (!vIn 32 j.PB) 3, .c (noLen j) 4]
def sCheck (n : Int) (j : Joint) : Int := bif j.Kind == 1 then ckV (ck1 n j) else bif j.Kind == 2 then ckV (ck2 n j) else bif j.Kind == 3 then ckV (ck3 n j) else 8
abbrev in2 (n : Int) (v : Vec) : Bool := allN 2 fun i => wIn n ([v.X, v.Y].getD i rNum.d)
abbrev in1 (n : Int) (x : Num) : Bool := allN 1 fun i => wIn n ([x].getD i rNum.d)
def pk1 (n : Int) (j : Joint) : List CK := [.c (decide (j.A < 0)) 3, .c (decide (j.A ≥ n)) 3, .g (lim 32), .c (!in2 32 j.PA) 3, .g (lim 4096), .c (!in2 4096 j.PB) 3, .c (j.B != 0) 4, .c (noLen j) 4]
def pk2 (n : Int) (j : Joint) : List CK := [.c (decide (j.A < 0)) 3, .c (decide (j.A ≥ n)) 3, .c (decide (j.B < 0)) 3, .c (decide (j.B ≥ n)) 3, .c (j.A == j.B) 3, .g (lim 32), .c (!in2 32 j.PA) 3, .g (lim 32), .c (!in2 32 j.PB) 3, .g (lim 8192), .c (!in1 8192 j.Len) 3, .c (decide (j.Len.V < 0)) 3]
def pk3 (n : Int) (j : Joint) : List CK := [.c (decide (j.A < 0)) 3, .c (decide (j.A ≥ n)) 3, .c (decide (j.B < 0)) 3, .c (decide (j.B ≥ n)) 3, .c (j.A == j.B) 3, .g (lim 32), .c (!in2 32 j.PA) 3, .g (lim 32), .c (!in2 32 j.PB) 3, .c (noLen j) 4]
theorem in2_eq (n : Int) (v : Vec) : in2 n v = vIn n v := allN_two _
theorem allN_one (f : Nat → Bool) : allN 1 f = f 0 := by
  have h : (allN 1 f = true) ↔ (f 0 = true) := by
    rw [allN_iff]
    exact ⟨fun h => h 0 (by omega), fun h i hi => by
      have : i = 0 := by omega
      subst this
      exact h⟩
  cases h1 : allN 1 f <;> cases h2 : f 0 <;> simp_all
theorem in1_eq (n : Int) (x : Num) : in1 n x = wIn n x := allN_one _
theorem fitsPair {a b a' b' : AV} (h1 : Fits a a') (h2 : Fits b b') : ∀ (i : Nat) (x x' : AV), [a, b][i]? = some x → [a', b'][i]? = some x' → Fits x x' := fun i x x' hi hi' => by
  rcases i with _ | _ | i
  · cases hi; cases hi'; exact h1
  · cases hi; cases hi'; exact h2
  · cases hi
theorem apart_ck {n : Int} {j : Joint} {r : List CK} (h1 : ¬ j.A < 0) (h2 : ¬ j.A ≥ n) :
    ckV (.c (decide (j.B < 0)) 3 :: .c (decide (j.B ≥ n)) 3 :: .c (j.A == j.B) 3 :: r) = ckV (.c (!apartB n j.A j.B) 3 :: r) := by
  show (bif decide (j.B < 0) then 3 else bif decide (j.B ≥ n) then 3 else bif j.A == j.B then 3 else ckV r) = bif !apartB n j.A j.B then 3 else ckV r
  have e : apartB n j.A j.B = (!decide (j.B < 0) && (!decide (j.B ≥ n) && !(j.A == j.B))) := by
    unfold apartB
    have a1 : decide (j.A ≥ 0) = true := decide_eq_true (by omega)
    have a2 : decide (j.A < n) = true := decide_eq_true (by omega)
    have a3 : decide (j.B ≥ 0) = !decide (j.B < 0) := by by_cases h : j.B < 0 <;> simp [h] <;> omega
    have a4 : decide (j.B < n) = !decide (j.B ≥ n) := by by_cases h : j.B ≥ n <;> simp [h] <;> omega
    rw [a1, a2, a3, a4]
    simp [bne]
  rw [e]
  cases decide (j.B < 0) <;> cases decide (j.B ≥ n) <;> cases (j.A == j.B) <;> rfl
theorem ckV_c (b : Bool) (e : Int) (r : List CK) : ckV (.c b e :: r) = bif b then e else ckV r := rfl
theorem pk2_eq (n : Int) (j : Joint) : ckV (pk2 n j) = ckV (ck2 n j) := by
  unfold pk2 ck2
  rw [in2_eq, in2_eq, in1_eq, ckV_c, ckV_c (decide (j.A ≥ n)), ckV_c (decide (j.A < 0)) 3 (.c (decide (j.A ≥ n)) 3 :: .c (!apartB n j.A j.B) 3 :: _), ckV_c (decide (j.A ≥ n)) 3 (.c (!apartB n j.A j.B) 3 :: _)]
  by_cases h1 : j.A < 0
  · simp [h1]
  · by_cases h2 : j.A ≥ n
    · simp [h1, h2]
    · rw [apart_ck h1 h2]
theorem pk3_eq (n : Int) (j : Joint) : ckV (pk3 n j) = ckV (ck3 n j) := by
  unfold pk3 ck3
  rw [in2_eq, in2_eq, ckV_c, ckV_c (decide (j.A ≥ n)), ckV_c (decide (j.A < 0)) 3 (.c (decide (j.A ≥ n)) 3 :: .c (!apartB n j.A j.B) 3 :: _), ckV_c (decide (j.A ≥ n)) 3 (.c (!apartB n j.A j.B) 3 :: _)]
  by_cases h1 : j.A < 0
  · simp [h1]
  · by_cases h2 : j.A ≥ n
    · simp [h1, h2]
    · rw [apart_ck h1 h2]
theorem pk1_eq (n : Int) (j : Joint) : ckV (pk1 n j) = ckV (ck1 n j) := by
  unfold pk1 ck1
  rw [in2_eq, in2_eq]
def jK (k : Int) (j : Joint) : List AV := .ki .i64 k :: (rJoint.cells j).drop 1
theorem fits_jK {j : Joint} {k : Int} (h : j.Kind = k) : Fits j.av (.agg (jK k j)) := by
  subst h
  exact Fits.agg (.cons fits_ki rfl rfl (FitsL.refl_of rfl))
abbrev cI : Cdc Int := cInt .i64
noncomputable abbrev Cck : Ctx := ctxN N.P [e_within] [] h0 nn
theorem ck_1 (n : Int) (j : Joint) : runT Cck 60 N.solver_CheckJoint [li n, .agg (jK 1 j)] cI = ckT (pk1 n j) := by kernel_rfl
theorem ck_2 (n : Int) (j : Joint) : runT Cck 60 N.solver_CheckJoint [li n, .agg (jK 2 j)] cI = ckT (pk2 n j) := by kernel_rfl
theorem ck_3 (n : Int) (j : Joint) : runT Cck 60 N.solver_CheckJoint [li n, .agg (jK 3 j)] cI = ckT (pk3 n j) := by kernel_rfl
noncomputable abbrev ckR (n : Int) (j : Joint) : Tree Int := runT Cck 60 N.solver_CheckJoint [li n, j.av] cI
theorem ck_o (n : Int) (j : Joint) : ckR n j = .node (j.Kind == 1) (ckR n j).l (.node (!(j.Kind == 1)) (.node (!(j.Kind == 2)) (.node (j.Kind != 3) (.leaf 8) (ckR n j).r.l.l.r) (ckR n j).r.l.r) (ckR n j).r.r) := by kernel_rfl
def t_rck : List Ent := [e_rBoth, e_rWithin, e_rApart]
theorem ok_rck : ∀ e ∈ t_rck, e.ok N.P := all_cons o_rBoth (all_cons o_rWithin (all_cons o_rApart all_nil))
noncomputable abbrev Crck : Ctx := ctxN N.P t_rck [] h0 nn
theorem rck_1 (n : Int) (j : Joint) : runT Crck 60 N.ref05_CheckJoint [li n, .agg (jK 1 j)] cI = ckT (ck1 n j) := by kernel_rfl
theorem rck_2 (n : Int) (j : Joint) : runT Crck 60 N.ref05_CheckJoint [li n, .agg (jK 2 j)] cI = ckT (ck2 n j) := by kernel_rfl
theorem rck_3 (n : Int) (j : Joint) : runT Crck 60 N.ref05_CheckJoint [li n, .agg (jK 3 j)] cI = ckT (ck3 n j) := by kernel_rfl
noncomputable abbrev rckR (n : Int) (j : Joint) : Tree Int := runT Crck 60 N.ref05_CheckJoint [li n, j.av] cI
theorem rck_o (n : Int) (j : Joint) : rckR n j = .node (j.Kind != 1) (.node (j.Kind != 2) (.node (j.Kind != 3) (.leaf 8) (rckR n j).l.l.r) (rckR n j).l.r) (rckR n j).r := by kernel_rfl
theorem kinds (j : Joint) : j.Kind = 1 ∨ j.Kind = 2 ∨ j.Kind = 3 ∨ (j.Kind ≠ 1 ∧ j.Kind ≠ 2 ∧ j.Kind ≠ 3) := by omega
theorem sCheck_1 {n : Int} {j : Joint} (h : j.Kind = 1) : sCheck n j = ckV (ck1 n j) := by unfold sCheck; rw [h]; rfl
theorem sCheck_2 {n : Int} {j : Joint} (h : j.Kind = 2) : sCheck n j = ckV (ck2 n j) := by unfold sCheck; rw [h]; rfl
theorem sCheck_3 {n : Int} {j : Joint} (h : j.Kind = 3) : sCheck n j = ckV (ck3 n j) := by unfold sCheck; rw [h]; rfl
theorem sCheck_o {n : Int} {j : Joint} (h : j.Kind ≠ 1 ∧ j.Kind ≠ 2 ∧ j.Kind ≠ 3) : sCheck n j = 8 := by
  unfold sCheck
  have e1 : (j.Kind == 1) = false := by simpa using h.1
  have e2 : (j.Kind == 2) = false := by simpa using h.2.1
  have e3 : (j.Kind == 3) = false := by simpa using h.2.2
  rw [e1, e2, e3]; rfl
theorem c_Check (n : Int) (j : Joint) : Con N.P N.solver_CheckJoint [li n, j.av] (li (sCheck n j)) := by
  have go : ∀ (a : AV) (l : List CK), Fits j.av a → runT Cck 60 N.solver_CheckJoint [li n, a] cI = ckT l → ckG l = true → ckV l = sCheck n j → Con N.P N.solver_CheckJoint [li n, j.av] (li (sCheck n j)) := fun a l h1 h2 h3 h4 =>
    Con.args (args' := [li n, a]) rfl (fitsPair (Fits.refl _) h1) (con_tyN (c := cI) (t := [e_within]) (m := []) (hints := h0) (nils := nn) (all_cons o_within all_nil) mall_nil (by kernel_rfl) rfl 60 (ckT l) h2 fun _ => by rw [← h4]; exact ckT_h h3)
  rcases kinds j with h | h | h | h
  · exact go _ _ (fits_jK h) (ck_1 n j) rfl (by rw [pk1_eq, sCheck_1 h])
  · exact go _ _ (fits_jK h) (ck_2 n j) rfl (by rw [pk2_eq, sCheck_2 h])
  · exact go _ _ (fits_jK h) (ck_3 n j) rfl (by rw [pk3_eq, sCheck_3 h])
  · have e := ck_o n j
    refine con_tyN (c := cI) (t := [e_within]) (m := []) (hints := h0) (nils := nn) (all_cons o_within all_nil) mall_nil (by kernel_rfl) rfl 60 _ e fun _ => ?_
    rw [sCheck_o h]
    have e1 : (j.Kind == 1) = false := by simpa using h.1
    have e2 : (j.Kind == 2) = false := by simpa using h.2.1
    have e3 : (j.Kind != 3) = true := by simpa using h.2.2
    generalize (ckR n j).l = X1
    generalize (ckR n j).r = X2
    exact holds_no e1 (holds_yes (by rw [e1]; rfl) (holds_yes (by rw [e2]; rfl) (holds_yes e3 rfl)))
def e_Check : Ent := ent2 N.solver_CheckJoint (cInt .i64) rJoint.agg fun n j => li (sCheck n j)
theorem o_Check : e_Check.ok N.P := ent2_ok c_Check
theorem c_rCheck (n : Int) (j : Joint) : Con N.P N.ref05_CheckJoint [li n, j.av] (li (sCheck n j)) := by
  have go : ∀ (a : AV) (l : List CK), Fits j.av a → runT Crck 60 N.ref05_CheckJoint [li n, a] cI = ckT l → ckG l = true → ckV l = sCheck n j → Con N.P N.ref05_CheckJoint [li n, j.av] (li (sCheck n j)) := fun a l h1 h2 h3 h4 =>
    Con.args (args' := [li n, a]) rfl (fitsPair (Fits.refl _) h1) (con_tyN (c := cI) (t := t_rck) (m := []) (hints := h0) (nils := nn) ok_rck mall_nil (by kernel_rfl) rfl 60 (ckT l) h2 fun _ => by rw [← h4]; exact ckT_h h3)
  rcases kinds j with h | h | h | h
  · exact go _ _ (fits_jK h) (rck_1 n j) rfl (sCheck_1 h).symm
  · exact go _ _ (fits_jK h) (rck_2 n j) rfl (sCheck_2 h).symm
  · exact go _ _ (fits_jK h) (rck_3 n j) rfl (sCheck_3 h).symm
  · have e := rck_o n j
    refine con_tyN (c := cI) (t := t_rck) (m := []) (hints := h0) (nils := nn) ok_rck mall_nil (by kernel_rfl) rfl 60 _ e fun _ => ?_
    rw [sCheck_o h]
    have e1 : (j.Kind != 1) = true := by simpa using h.1
    have e2 : (j.Kind != 2) = true := by simpa using h.2.1
    have e3 : (j.Kind != 3) = true := by simpa using h.2.2
    generalize (rckR n j).l = X1
    generalize (rckR n j).r = X2
    exact holds_yes e1 (holds_yes e2 (holds_yes e3 rfl))
def e_rCheck : Ent := ent2 N.ref05_CheckJoint (cInt .i64) rJoint.agg fun n j => li (sCheck n j)
theorem o_rCheck : e_rCheck.ok N.P := ent2_ok c_rCheck
end Go.Flat
end

section
/- Contracts: Solve with five arguments, matrices, opposite vectors, both sides. -/
set_option linter.unusedSimpArgs false
set_option linter.unusedVariables false
namespace Go.Flat
open Go

section ents
variable {α β γ δ ε : Type}
def ent5 (f : FuncId) (A : Cdc α) (B : Cdc β) (D : Cdc γ) (E : Cdc δ) (F : Cdc ε) (spec : α → β → γ → δ → ε → AV) : Ent :=
  ⟨f, fun | [a, b, c, d, e] => (match A.dec a with | some (x, g) => (match B.dec b with | some (y, h) => (match D.dec c with | some (z, i) => (match E.dec d with | some (u, j) => (match F.dec e with | some (v, k) => some (spec x y z u v, g ++ (h ++ (i ++ (j ++ k)))) | none => none) | none => none) | none => none) | none => none) | none => none) | _ => none⟩
variable {P : Program} {f : FuncId} {A : Cdc α} {B : Cdc β} {D : Cdc γ} {E : Cdc δ} {F : Cdc ε}
theorem ent5_ok {spec : α → β → γ → δ → ε → AV} (h : ∀ x y z u v, Con P f [A.enc x, B.enc y, D.enc z, E.enc u, F.enc v] (spec x y z u v)) : (ent5 f A B D E F spec).ok P := fun args r g hr hg => by
  unfold ent5 at hr
  rcases args with _ | ⟨a, _ | ⟨b, _ | ⟨c, _ | ⟨d, _ | ⟨e, _ | ⟨e', t⟩⟩⟩⟩⟩⟩ <;> simp only at hr
  · cases hr
  · cases hr
  · cases hr
  · cases hr
  · cases hr
  · cases h1 : A.dec a with
    | none => simp [h1] at hr
    | some p =>
      obtain ⟨x, g1⟩ := p
      cases h2 : B.dec b with
      | none => simp [h1, h2] at hr
      | some q =>
        obtain ⟨y, g2⟩ := q
        cases h3 : D.dec c with
        | none => simp [h1, h2, h3] at hr
        | some q =>
          obtain ⟨z, g3⟩ := q
          cases h4 : E.dec d with
          | none => simp [h1, h2, h3, h4] at hr
          | some q =>
            obtain ⟨u, g4⟩ := q
            cases h5 : F.dec e with
            | none => simp [h1, h2, h3, h4, h5] at hr
            | some q =>
              obtain ⟨v, g5⟩ := q
              simp only [h1, h2, h3, h4, h5, Option.some.injEq, Prod.mk.injEq] at hr
              obtain ⟨rfl, rfl⟩ := hr
              refine Con.args (args' := [A.enc x, B.enc y, D.enc z, E.enc u, F.enc v]) rfl (fun i a1 a1' hi hi' => ?_) (h x y z u v)
              rcases i with _ | _ | _ | _ | _ | i <;> simp at hi hi'
              · subst hi; subst hi'; exact A.ok _ _ _ h1 (fun c hc => hg c (by simp [hc]))
              · subst hi; subst hi'; exact B.ok _ _ _ h2 (fun c hc => hg c (by simp [hc]))
              · subst hi; subst hi'; exact D.ok _ _ _ h3 (fun c hc => hg c (by simp [hc]))
              · subst hi; subst hi'; exact E.ok _ _ _ h4 (fun c hc => hg c (by simp [hc]))
              · subst hi; subst hi'; exact F.ok _ _ _ h5 (fun c hc => hg c (by simp [hc]))
  · cases hr
end ents
def e_Solve : Ent := ent5 N.plane_Solve cNum cNum cNum cNum cVec fun a b c d v => cVB.enc (sSolve a b c d v)
theorem o_Solve : e_Solve.ok N.P := ent5_ok c_Solve
def e_rSolve : Ent := ent5 N.ref02_Solve cNum cNum cNum cNum cVec fun a b c d v => cVB.enc (sSolve a b c d v)
theorem o_rSolve : e_rSolve.ok N.P := ent5_ok c_rSolve

/-- symmetrical matrices -/
structure Mat where
  a : Num
  b : Num
  c : Num
def rMat : Row Mat := (rNum.prod (rNum.prod rNum)).iso (fun p => ⟨p.1, p.2.1, p.2.2⟩) (fun s => (s.a, s.b, s.c)) fun _ => rfl
abbrev Mat.av (m : Mat) : AV := rMat.agg.enc m
def bMat (b : Body) (x : Vec) : Mat := ⟨nAdd b.Wt.M (nMul b.Wt.I (nMul (bArm b x).Y (bArm b x).Y)), nNeg (nMul b.Wt.I (nMul (bArm b x).X (bArm b x).Y)), nAdd b.Wt.M (nMul b.Wt.I (nMul (bArm b x).X (bArm b x).X))⟩
def mSum (m o : Mat) : Mat := ⟨nAdd m.a o.a, nAdd m.b o.b, nAdd m.c o.c⟩
def mSolve (m : Mat) (u : Vec) : Vec × Bool := sSolve m.a m.b m.b m.c u
def vOpp (v : Vec) : Vec := ⟨nNeg v.X, nNeg v.Y⟩
theorem c_matrix (b : Body) (x : Vec) : Con N.P N.solver_worked_matrix [rBody.ptr.enc b, x.av] (bMat b x).av :=
  con_ty (c := rMat.agg) (t := [e_arm, e_Add, e_Mul, e_Neg]) (hints := h0) (all_cons o_arm (all_cons o_Add (all_cons o_Mul (all_cons o_Neg all_nil)))) (by kernel_rfl) rfl 30 (gd (okS b.Shp.Pts) (.leaf (bMat b x))) (by kernel_rfl) fun _ => holds_gd (okS_true _) rfl
def e_matrix : Ent := ent2 N.solver_worked_matrix rBody.ptr cVec fun b x => (bMat b x).av
theorem o_matrix : e_matrix.ok N.P := ent2_ok c_matrix
theorem c_rMatrix (b : Body) (x : Vec) : Con N.P N.ref05_matrix [b.av, x.av] (bMat b x).av :=
  con_ty (c := rMat.agg) (t := [e_rArm, e_rAddN, e_rMul, e_rNeg]) (hints := h0) (all_cons o_rArm (all_cons o_rAddN (all_cons o_rMul (all_cons o_rNeg all_nil)))) (by kernel_rfl) rfl 30 (gd (okS b.Shp.Pts) (.leaf (bMat b x))) (by kernel_rfl) fun _ => holds_gd (okS_true _) rfl
def e_rMatrix : Ent := ent2 N.ref05_matrix rBody.agg cVec fun b x => (bMat b x).av
theorem o_rMatrix : e_rMatrix.ok N.P := ent2_ok c_rMatrix
theorem c_mSolve (m : Mat) (u : Vec) : Con N.P N.solver_matrix_solve [m.av, u.av] (cVB.enc (mSolve m u)) :=
  con_of_one (t := [e_Solve]) (hints := h0) (all_cons o_Solve all_nil) (by kernel_rfl) rfl 30 (by kernel_rfl)
def e_mSolve : Ent := ent2 N.solver_matrix_solve rMat.agg cVec fun m u => cVB.enc (mSolve m u)
theorem o_mSolve : e_mSolve.ok N.P := ent2_ok c_mSolve
theorem c_opp (v : Vec) : Con N.P N.solver_opposite [v.av] (vOpp v).av :=
  con_of_one (t := [e_Neg]) (hints := h0) (all_cons o_Neg all_nil) (by kernel_rfl) rfl 30 (by kernel_rfl)
def e_opp : Ent := ent1 N.solver_opposite cVec fun v => (vOpp v).av
theorem o_opp : e_opp.ok N.P := ent1_ok c_opp
end Go.Flat
end

section
/- What a joint does to one or two bodies. -/
set_option linter.unusedSimpArgs false
set_option linter.unusedVariables false
namespace Go.Flat
open Go

def t_bind : List Ent := [e_To, e_PSub, e_PScale, e_speed, e_matrix, e_mSolve, e_opp, e_PAdd, e_Add, e_Mul, e_Unit, e_heft, e_PDot, e_VLen, e_Sub, e_Neg, e_Div, e_Int]
theorem ok_bind : ∀ e ∈ t_bind, e.ok N.P := all_cons o_To (all_cons o_PSub (all_cons o_PScale (all_cons o_speed (all_cons o_matrix (all_cons o_mSolve (all_cons o_opp (all_cons o_PAdd (all_cons o_Add (all_cons o_Mul (all_cons o_Unit (all_cons o_heft (all_cons o_PDot (all_cons o_VLen (all_cons o_Sub (all_cons o_Neg (all_cons o_Div (all_cons o_Int all_nil)))))))))))))))))
noncomputable abbrev Cbind : Ctx := ctxL N.P t_bind [] [m_push, m_apart] [] h0 nn
/-- a joint whose indexes are known -/
def jA (i : Int) (j : Joint) : List AV := li j.Kind :: .ki .i64 i :: (rJoint.cells j).drop 2
def jAB (i m : Int) (j : Joint) : List AV := li j.Kind :: .ki .i64 i :: .ki .i64 m :: (rJoint.cells j).drop 3
def leafT (l : List Body) : Tree (AV × Mem) := .node true (.leaf (.tup [], memT l)) (.fail 9)
def gP (a : Body) (j : Joint) : Vec := vTo a.Pos j.PA
def grabX (a : Body) (j : Joint) (r : Num) : Vec × Bool := mSolve (bMat a (gP a j)) (vSub (vScale (vSub j.PB (gP a j)) r) (bSpeed a (gP a j)))
def grabT (a : Body) (j : Joint) (r : Num) (K : Body → Tree (AV × Mem)) : Tree (AV × Mem) :=
  gd (okS a.Shp.Pts) (gd (okS a.Shp.Pts) (.node (grabX a j r).2 (gd (okS a.Shp.Pts) (K (sPush a (gP a j) (grabX a j r).1))) (K a)))
def rodN (a b : Body) (j : Joint) : Vec × Bool := sUnit (vSub (vTo b.Pos j.PB) (gP a j))
def rodK (a b : Body) (j : Joint) : Num := nAdd (bHeft a (gP a j) (rodN a b j).1) (bHeft b (vTo b.Pos j.PB) (rodN a b j).1)
def rodD (a b : Body) (j : Joint) (r : Num) : Num := nDiv (nNeg (nAdd (vDot (vSub (bSpeed b (vTo b.Pos j.PB)) (bSpeed a (gP a j))) (rodN a b j).1) (nMul (nSub (vLen (vSub (vTo b.Pos j.PB) (gP a j))) j.Len) r))) (rodK a b j)
def rodT (a b : Body) (j : Joint) (r : Num) (K : Body → Body → Tree (AV × Mem)) : Tree (AV × Mem) :=
  gd (okS a.Shp.Pts) (gd (okS b.Shp.Pts) (.node (!(rodN a b j).2) (K a b) (.node ((rodK a b j).V == 0) (K a b)
    (gd (okS b.Shp.Pts) (gd (okS a.Shp.Pts) (gd (okS a.Shp.Pts) (gd (okS b.Shp.Pts) (K (pA a (gP a j) (rodN a b j).1 (rodD a b j r)) (pB b (vTo b.Pos j.PB) (rodN a b j).1 (rodD a b j r))))))))))
def pinX (a b : Body) (j : Joint) (r : Num) : Vec × Bool :=
  mSolve (mSum (bMat a (gP a j)) (bMat b (vTo b.Pos j.PB))) (vOpp (vAdd [vSub (bSpeed b (vTo b.Pos j.PB)) (bSpeed a (gP a j)), vScale (vSub (vTo b.Pos j.PB) (gP a j)) r]))
def pinT (a b : Body) (j : Joint) (r : Num) (K : Body → Body → Tree (AV × Mem)) : Tree (AV × Mem) :=
  gd (okS a.Shp.Pts) (gd (okS b.Shp.Pts) (gd (okS b.Shp.Pts) (gd (okS a.Shp.Pts) (.node (pinX a b j r).2
    (gd (okS a.Shp.Pts) (gd (okS b.Shp.Pts) (K (sPush a (gP a j) (vScale (pinX a b j r).1 (nInt (-1)))) (sPush b (vTo b.Pos j.PB) (pinX a b j r).1)))) (K a b)))))
end Go.Flat
end
