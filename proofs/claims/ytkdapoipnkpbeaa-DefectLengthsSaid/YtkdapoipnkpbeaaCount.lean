/- Rectangles: what the strips count are the points. No conditions. -/
import Derived.Test.YtkdapoipnkpbeaaCover
set_option linter.unusedVariables false
set_option linter.unusedSimpArgs false
namespace Go.Proofs.Ytkdapoipnkpbeaa
open Go Go.Eng Go.Span
/-! ### The points of rectangles -/
/-- (x, y) is in one of the rectangles. -/
def inR (rs : List R4) (x y : Int) : Prop := ∃ r ∈ rs, r.1 ≤ x ∧ x < r.2.1 ∧ r.2.2.1 ≤ y ∧ y < r.2.2.2
instance (rs : List R4) (x y : Int) : Decidable (inR rs x y) := by unfold inR; infer_instance
def wd : Nat := 12000
def ln : Nat := 17179869184
/-- How many points of column x are in them. -/
def colN (rs : List R4) (x : Int) : Int := sm ln fun y => Go.Span.one (inR rs x y)
/-- How many points are in them. -/
def pts (rs : List R4) : Int := sm wd fun x => colN rs x
theorem sm_split {m n : Nat} {f : Nat → Int} {c : Int} (h : m ≤ n) (hf : ∀ k, m ≤ k → k < n → f k = c) : sm n f = sm m f + c * ((n : Int) - m) := by
  obtain ⟨d, rfl⟩ := Nat.exists_eq_add_of_le h
  clear h
  induction d with
  | zero => simp
  | succ d ih =>
    rw [← Nat.add_assoc, sm, ih fun k h1 h2 => hf k h1 (by omega), hf (m + d) (by omega) (by omega)]
    have : ((m + d + 1 : Nat) : Int) - m = ((m + d : Nat) : Int) - m + 1 := by omega
    rw [this, Int.mul_add]; omega
theorem ddTo_ok {zs : List Int} (hs : zs.Pairwise (· ≤ ·)) : ∀ i, i ≤ zs.length → (ddTo zs i).Pairwise (· < ·) ∧ ∀ x, x ∈ ddTo zs i ↔ x ∈ zs.take i
  | 0, _ => ⟨.nil, fun x => by simp [ddTo]⟩
  | i + 1, hi => by
    obtain ⟨h1, h2⟩ := ddTo_ok hs i (by omega)
    have hlt : i < zs.length := hi
    have hp := List.pairwise_iff_getElem.1 hs
    have ht : zs.take (i + 1) = zs.take i ++ [zs[i]] := by rw [List.take_add_one, List.getElem?_eq_getElem hlt]; rfl
    have hg : zs.getD i 0 = zs[i] := by simp [List.getD, hlt]
    rw [ddTo, hg, ht]
    split
    · rename_i hc
      have hg2 : zs.getD (i - 1) 0 = zs[i - 1] := by simp [List.getD, show i - 1 < zs.length by omega]
      refine ⟨h1, fun x => ?_⟩
      rw [h2, List.mem_append, List.mem_singleton]
      refine ⟨.inl, fun h => h.elim id fun e => ?_⟩
      rw [e, hc.2, hg2]
      exact List.mem_iff_getElem.2 ⟨i - 1, by simp; omega, by simp⟩
    · rename_i hc
      refine ⟨List.pairwise_append.2 ⟨h1, by simp, fun x hx y hy => ?_⟩, fun x => by rw [List.mem_append, List.mem_append, h2]⟩
      rw [List.mem_singleton] at hy
      subst hy
      rw [h2] at hx
      obtain ⟨j, hj, rfl⟩ := List.mem_iff_getElem.1 hx
      simp at hj
      rw [List.getElem_take]
      have hg2 : zs.getD (i - 1) 0 = zs[i - 1] := by simp [List.getD, show i - 1 < zs.length by omega]
      have a : zs[i - 1] ≤ zs[i] := hp (i - 1) i (by omega) hlt (by omega)
      have b : zs[j] ≤ zs[i - 1] := by
        by_cases e : j = i - 1
        · subst e; exact Int.le_refl _
        · exact hp j (i - 1) (by omega) (by omega) (by omega)
      have c : zs[i] ≠ zs[i - 1] := fun e => hc ⟨by omega, by rw [hg2]; exact e⟩
      omega
theorem sidesTo_all {rs : List R4} : ∀ i, i ≤ rs.length → ∀ j, (h : j < i) → (h2 : j < rs.length) → (rs[j]).1 ∈ sidesTo rs i ∧ (rs[j]).2.1 ∈ sidesTo rs i
  | i + 1, hi, j, h, h2 => by
    rw [sidesTo]
    by_cases e : j = i
    · subst e
      have hg : rs.getD j r0 = rs[j] := by simp [List.getD, h2]
      rw [hg]
      exact ⟨List.mem_append_right _ (by simp), List.mem_append_right _ (by simp)⟩
    · obtain ⟨a, b⟩ := sidesTo_all i (by omega) j (by omega) h2
      exact ⟨List.mem_append_left _ a, List.mem_append_left _ b⟩
theorem cuts_sorted (rs : List R4) : (cuts rs).Pairwise (· < ·) ∧ ∀ r ∈ rs, r.1 ∈ cuts rs ∧ r.2.1 ∈ cuts rs := by
  have hs : ((sidesTo rs rs.length).mergeSort fun x y => decide (x ≤ y)).Pairwise (· ≤ ·) :=
    (List.pairwise_mergeSort (le := fun x y : Int => decide (x ≤ y)) (fun a b c h1 h2 => by simp at *; omega) (fun a b => by simp; omega) _).imp fun h => by simpa using h
  obtain ⟨h1, h2⟩ := ddTo_ok hs _ (Nat.le_refl _)
  refine ⟨h1, fun r hr => ?_⟩
  obtain ⟨j, hj, rfl⟩ := List.mem_iff_getElem.1 hr
  obtain ⟨a, b⟩ := sidesTo_all rs.length (Nat.le_refl _) j hj hj
  have hm : ∀ x, x ∈ sidesTo rs rs.length → x ∈ cuts rs := fun x hx => by
    rw [cuts, dd, h2, List.take_length]
    exact (List.mergeSort_perm _ _).mem_iff.2 hx
  exact ⟨hm _ a, hm _ b⟩
theorem pair_lt {l : List Int} (h : l.Pairwise (· < ·)) {i j : Nat} (hi : i < l.length) (hj : j < l.length) : l[i] < l[j] ↔ i < j := by
  have hp := List.pairwise_iff_getElem.1 h
  constructor
  · intro k
    rcases Nat.lt_trichotomy i j with q | q | q
    · exact q
    · subst q; omega
    · have := hp j i hj hi q; omega
  · exact hp i j hi hj
theorem delB_iff {cs : List Int} {i : Nat} {l r : Int} (h0 : 0 < i) : delB (rowsI cs) i l r = false ↔ l ≤ cs.getD (i - 1) 0 ∧ cs.getD i 0 ≤ r := by
  unfold delB
  rw [show ((i : Int) - 1).toNat = i - 1 by omega, Int.toNat_natCast, rowsI_getD, rowsI_getD]
  split
  · constructor
    · intro h; cases h
    · rintro ⟨a, _⟩; omega
  · rw [decide_eq_false_iff_not]
    omega
/-- In strip i every column has as many points. -/
theorem col_strip {rs : List R4} (hr : ∀ r ∈ rs, okR r) {i : Nat} (h0 : 0 < i) (hi : i < (cuts rs).length) {x : Int} (h1 : (cuts rs).getD (i - 1) 0 ≤ x) (h2 : x < (cuts rs).getD i 0) : colN rs x = stripN rs i := by
  obtain ⟨hs, hm⟩ := cuts_sorted rs
  have hko := keepR_ok (sd := rowsI (cuts rs)) (i := i) hr
  have hzo := alongR_ok hko
  have hmem : ∀ y, inR rs x y ↔ mem (alongR (keepR (rowsI (cuts rs)) i rs)) y := by
    intro y
    have g1 : (cuts rs).getD (i - 1) 0 = (cuts rs)[i - 1] := by simp [List.getD, show i - 1 < (cuts rs).length by omega]
    have g2 : (cuts rs).getD i 0 = (cuts rs)[i] := by simp [List.getD, hi]
    constructor
    · rintro ⟨r, h3, h4, h5, h6, h7⟩
      refine ⟨(r.2.2.1, r.2.2.2), List.mem_map.2 ⟨r, List.mem_filter.2 ⟨List.mem_filter.2 ⟨h3, ?_⟩, ?_⟩, rfl⟩, h6, h7⟩
      · have : delB (rowsI (cuts rs)) i r.1 r.2.1 = false := by
          rw [delB_iff h0, g1, g2]
          obtain ⟨a, b⟩ := hm r h3
          obtain ⟨ja, hja, ea⟩ := List.mem_iff_getElem.1 a
          obtain ⟨jb, hjb, eb⟩ := List.mem_iff_getElem.1 b
          constructor
          · have : ja < i := (pair_lt hs hja hi).1 (by omega)
            by_cases e : ja = i - 1
            · subst e; omega
            · have := (pair_lt hs hja (show i - 1 < (cuts rs).length by omega)).2 (by omega)
              omega
          · have : i - 1 < jb := (pair_lt hs (by omega) hjb).1 (by omega)
            by_cases e : jb = i
            · subst e; omega
            · have := (pair_lt hs hi hjb).2 (by omega)
              omega
        rw [this]; rfl
      · simp [emp]; omega
    · rintro ⟨z, hz, h6, h7⟩
      obtain ⟨r, h3, rfl⟩ := List.mem_map.1 hz
      obtain ⟨h3, _⟩ := List.mem_filter.1 h3
      obtain ⟨h3, h4⟩ := List.mem_filter.1 h3
      have : delB (rowsI (cuts rs)) i r.1 r.2.1 = false := by simpa using h4
      rw [delB_iff h0] at this
      exact ⟨r, h3, by omega, by omega, h6, h7⟩
  unfold stripN colN
  rw [alongL_rows]
  obtain ⟨k1, k2⟩ := nf_ok (alongR (keepR (rowsI (cuts rs)) i rs))
  rw [tot_count (n := ln) k1 (nf_bound fun z hz => ⟨(hzo z hz).1, (hzo z hz).2.2⟩)]
  refine sm_congr fun y _ => ?_
  unfold Go.Span.one
  have := (hmem y).trans (k2 y).symm
  by_cases q : inR rs x y
  · rw [if_pos q, if_pos (this.1 q)]
  · rw [if_neg q, if_neg fun h => q (this.2 h)]
theorem col_zero {rs : List R4} {x : Int} (h : ∀ r ∈ rs, ¬ (r.1 ≤ x ∧ x < r.2.1)) : colN rs x = 0 := by
  unfold colN
  rw [sm_congr (g := fun _ => 0) fun y _ => ?_, sm_zero]
  unfold Go.Span.one
  rw [if_neg]
  rintro ⟨r, h1, h2, h3, _⟩
  exact h r h1 ⟨h2, h3⟩
/-- The strips count the points. -/
theorem covN_pts {rs : List R4} (hr : ∀ r ∈ rs, okR r) : covN rs = pts rs := by
  obtain ⟨hs, hm⟩ := cuts_sorted rs
  have hc := cuts_ok hr
  have g : ∀ i, (h : i < (cuts rs).length) → (cuts rs).getD i 0 = (cuts rs)[i] := fun i h => by simp [List.getD, h]
  have key : ∀ i, (h : i < (cuts rs).length) → sm ((cuts rs)[i]).toNat (fun x => colN rs x) = covTo rs (i + 1) := by
    intro i
    induction i with
    | zero =>
      intro h
      rw [sm_congr (g := fun _ => 0), sm_zero]
      · simp [covTo]
      · intro k hk
        refine col_zero fun r hr2 ⟨a, _⟩ => ?_
        obtain ⟨j, hj, e⟩ := List.mem_iff_getElem.1 (hm r hr2).1
        have : (cuts rs)[0] ≤ (cuts rs)[j] := by
          by_cases e0 : j = 0
          · subst e0; exact Int.le_refl _
          · have := (pair_lt hs h hj).2 (by omega)
            omega
        omega
    | succ i ih =>
      intro h
      have hi : i < (cuts rs).length := by omega
      have hlt := (pair_lt hs hi h).2 (by omega)
      have b1 := hc _ (List.getElem_mem hi)
      have b2 := hc _ (List.getElem_mem h)
      have e : covTo rs (i + 1 + 1) = covTo rs (i + 1) + stripN rs (i + 1) * ((cuts rs)[i + 1] - (cuts rs)[i]) := by
        rw [covTo.eq_2 rs (i + 1), if_neg (by omega), g (i + 1) h, Nat.add_sub_cancel, g i hi]
      rw [sm_split (m := ((cuts rs)[i]).toNat) (c := stripN rs (i + 1)) (by omega), ih hi, e, Int.toNat_of_nonneg b1.1, Int.toNat_of_nonneg b2.1]
      intro k hk1 hk2
      refine col_strip hr (Nat.succ_pos i) h ?_ ?_
      · rw [show i.succ - 1 = i from rfl, g i hi]; omega
      · rw [show i.succ = i + 1 from rfl, g (i + 1) h]; omega
  unfold pts covN
  by_cases h0 : (cuts rs).length = 0
  · rw [h0, covTo, sm_congr (g := fun _ => 0), sm_zero]
    intro k _
    refine col_zero fun r hr2 _ => ?_
    have := (hm r hr2).1
    rw [List.length_eq_zero_iff.1 h0] at this
    cases this
  · have hl : (cuts rs).length - 1 < (cuts rs).length := by omega
    have b := hc _ (List.getElem_mem hl)
    have k := key _ hl
    rw [show (cuts rs).length - 1 + 1 = (cuts rs).length by omega] at k
    rw [sm_split (n := wd) (m := ((cuts rs)[(cuts rs).length - 1]).toNat) (c := 0) (by unfold wd; omega), k]
    · simp
    · intro x hx1 _
      refine col_zero fun r hr2 ⟨_, c⟩ => ?_
      obtain ⟨j, hj, e⟩ := List.mem_iff_getElem.1 (hm r hr2).2
      have : (cuts rs)[j] ≤ (cuts rs)[(cuts rs).length - 1] := by
        by_cases e0 : j = (cuts rs).length - 1
        · subst e0; exact Int.le_refl _
        · have := (pair_lt hs hj hl).2 (by omega)
          omega
      omega
end Go.Proofs.Ytkdapoipnkpbeaa
