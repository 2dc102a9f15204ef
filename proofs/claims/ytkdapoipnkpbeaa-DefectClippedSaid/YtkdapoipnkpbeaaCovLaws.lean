/- Rectangles: areas, two rectangles, disjoint ones. No conditions. -/
import Derived.Test.YtkdapoipnkpbeaaCov
set_option linter.unusedVariables false
set_option linter.unusedSimpArgs false
namespace Go.Eng
end Go.Eng
namespace Go.Proofs.Ytkdapoipnkpbeaa.R
open Go Go.Eng Go.Span
set_option maxRecDepth 1000000
set_option maxHeartbeats 1000000
theorem pts_mono {a b : List R4} (h : ∀ x y, inR a x y → inR b x y) : pts a ≤ pts b := by
  unfold pts
  refine sm_le fun x _ => ?_
  unfold colN
  refine sm_le fun y _ => ?_
  have := h x y
  unfold Go.Span.one
  by_cases p : inR a x y
  · rw [if_pos p, if_pos (this p)]; exact Int.le_refl _
  · rw [if_neg p]; split <;> decide
theorem chk01 (l r a b : Int) : chk l r a b = 0 ∨ chk l r a b = 1 := by unfold chk; split <;> simp
theorem firstE_01 (xs : List (List C)) : ∀ k i, xs.length - i = k → firstE xs i = 0 ∨ firstE xs i = 1 := by
  intro k
  induction k with
  | zero => intro i h; exact .inl (firstE_ge (by omega))
  | succ k ih =>
    intro i h
    rw [firstE_lt (by omega)]
    split
    · exact ih (i + 1) (by omega)
    · exact chk01 _ _ _ _
theorem allE_01 {xs : List (List C)} (h : xs.length ≤ 64) : allE xs = 0 ∨ allE xs = 1 := by
  unfold allE; rw [if_neg (by omega)]; exact firstE_01 xs _ 0 rfl
theorem firstE_good {xs : List (List C)} (h : ∀ j, j < xs.length → chkAt xs j = 0) : ∀ k i, xs.length - i = k → firstE xs i = 0 := by
  intro k
  induction k with
  | zero => intro i hi; exact firstE_ge (by omega)
  | succ k ih =>
    intro i hi
    rw [firstE_lt (by omega), if_pos (h i (by omega))]
    exact ih (i + 1) (by omega)
theorem allE_good {rs : List R4} (hl : rs.length ≤ 64) (hr : ∀ r ∈ rs, okR r) : allE (rowsR rs) = 0 := by
  unfold allE
  rw [rowsR_len, if_neg (by omega)]
  refine firstE_good (fun j hj => ?_) _ 0 rfl
  rw [rowsR_len] at hj
  have hg : rs.getD j (0, 0, 0, 0) = rs[j] := by simp [List.getD, hj]
  unfold chkAt ce
  rw [rowsR_c0, rowsR_c1, rowsR_c2, rowsR_c3, hg]
  exact ok_chk (hr _ (List.getElem_mem hj))
theorem pts_area {r : R4} (h : okR r) : pts [r] = areaR r := pts_one h
theorem comB_symm (a b : R4) : comB a b = comB b a := by
  rw [Bool.eq_iff_iff, comB_iff, comB_iff]
  unfold comR
  simp only
  have h1 := mx_spec a.1 b.1; have h2 := mx_spec b.1 a.1
  have h3 := mn_spec a.2.1 b.2.1; have h4 := mn_spec b.2.1 a.2.1
  have h5 := mx_spec a.2.2.1 b.2.2.1; have h6 := mx_spec b.2.2.1 a.2.2.1
  have h7 := mn_spec a.2.2.2 b.2.2.2; have h8 := mn_spec b.2.2.2 a.2.2.2
  omega
theorem comR_symm (a b : R4) : comR a b = comR b a := by
  have h1 := mx_spec a.1 b.1; have h2 := mx_spec b.1 a.1
  have h3 := mn_spec a.2.1 b.2.1; have h4 := mn_spec b.2.1 a.2.1
  have h5 := mx_spec a.2.2.1 b.2.2.1; have h6 := mx_spec b.2.2.1 a.2.2.1
  have h7 := mn_spec a.2.2.2 b.2.2.2; have h8 := mn_spec b.2.2.2 a.2.2.2
  unfold comR
  simp only [Prod.mk.injEq]
  omega
/-- Each with each one ahead of it: no common points. -/
def disR (rs : List R4) : Prop := ∀ i j (hi : i < rs.length) (hj : j < i), comB rs[i] (rs[j]'(by omega)) = false
theorem innF_iff {rs : List R4} {i : Nat} (hi : i < rs.length) : ∀ d k, i - k = d → (innF (rowsR rs) i k = true ↔ ∀ j (hj : j < i), k ≤ j → comB rs[i] (rs[j]'(by omega)) = false) := by
  intro d
  induction d with
  | zero => intro k h; rw [innF_ge (by omega)]; exact ⟨fun _ j hj h1 => by omega, fun _ => rfl⟩
  | succ d ih =>
    intro k h
    have hk : k < i := by omega
    have e : hit (rowsR rs) i k = comB rs[i] (rs[k]'(by omega)) := by
      have g1 : rs.getD i (0, 0, 0, 0) = rs[i] := by simp [List.getD, hi]
      have g2 : rs.getD k (0, 0, 0, 0) = rs[k]'(by omega) := by simp [List.getD, show k < rs.length by omega]
      unfold hit ce
      rw [rowsR_c0, rowsR_c1, rowsR_c2, rowsR_c3, rowsR_c0, rowsR_c1, rowsR_c2, rowsR_c3, g1, g2]; rfl
    rw [innF_lt hk, e]
    cases hc : comB rs[i] (rs[k]'(by omega)) with
    | true => exact ⟨fun q => (by simp at q), fun q => by have := q k hk (Nat.le_refl _); rw [hc] at this; cases this⟩
    | false =>
      rw [if_neg (by simp), ih (k + 1) (by omega)]
      constructor
      · intro q j hj h1
        by_cases e : j = k
        · subst e; exact hc
        · exact q j hj (by omega)
      · intro q j hj h1; exact q j hj (by omega)
theorem outF_iff (rs : List R4) : ∀ d i, rs.length - i = d → (outF (rowsR rs) i = true ↔ ∀ m (hm : m < rs.length), i ≤ m → ∀ j (hj : j < m), comB rs[m] (rs[j]'(by omega)) = false) := by
  intro d
  induction d with
  | zero => intro i h; rw [outF_ge (by rw [rowsR_len]; omega)]; exact ⟨fun _ m hm h1 => by omega, fun _ => rfl⟩
  | succ d ih =>
    intro i h
    have hi : i < rs.length := by omega
    rw [outF_lt (by rw [rowsR_len]; exact hi)]
    have e := innF_iff hi i 0 rfl
    cases hc : innF (rowsR rs) i 0 with
    | false =>
      rw [hc] at e
      refine ⟨fun q => by simp at q, fun q => ?_⟩
      have := e.2 fun j hj _ => q i hi (Nat.le_refl _) j hj
      cases this
    | true =>
      rw [hc] at e
      rw [if_pos rfl, ih (i + 1) (by omega)]
      constructor
      · intro q m hm h1 j hj
        by_cases w : m = i
        · subst w; exact e.1 rfl j hj (Nat.zero_le _)
        · exact q m hm (by omega) j hj
      · intro q m hm h1 j hj; exact q m hm (by omega) j hj
theorem disL_iff (rs : List R4) : disL (rowsR rs) = true ↔ disR rs := by
  unfold disL disR
  rw [outF_iff rs _ 0 rfl]
  exact ⟨fun h i j hi hj => h i hi (Nat.zero_le _) j hj, fun h m hm _ j hj => h m j hm hj⟩
/-- The sum of the areas of the first n. -/
def sumA (rs : List R4) : Nat → Int
  | 0 => 0
  | n + 1 => sumA rs n + areaR (rs.getD n (0, 0, 0, 0))
theorem clip_pos {rs : List R4} {q : R4} (hr : ∀ r ∈ rs, okR r) (hq : okR q) (h : clipR rs q ≠ []) : 0 < pts (clipR rs q) := by
  obtain ⟨c, hc⟩ := List.exists_mem_of_ne_nil _ h
  have hok := clipR_ok hr hq c hc
  obtain ⟨a, ha, rfl⟩ := List.mem_map.1 hc
  obtain ⟨_, hb⟩ := List.mem_filter.1 ha
  rw [comB_iff] at hb
  have h1 : pts [comR a q] ≤ pts (clipR rs q) := pts_mono fun x y k => ⟨_, hc, (inR_one _ _ _).1 k⟩
  rw [pts_area hok] at h1
  have : 0 < areaR (comR a q) := Int.mul_pos (by omega) (by omega)
  omega
theorem sumA_ok {rs : List R4} (hr : ∀ r ∈ rs, okR r) : ∀ n, n ≤ rs.length → pts (rs.take n) ≤ sumA rs n ∧ (pts (rs.take n) = sumA rs n ↔ ∀ i (hi : i < rs.length) j (hj : j < i), i < n → comB rs[i] (rs[j]'(by omega)) = false)
  | 0, _ => by
    rw [List.take_zero, pts_nil]
    exact ⟨Int.le_refl _, ⟨fun _ i hi j hj h => by omega, fun _ => rfl⟩⟩
  | n + 1, h => by
    obtain ⟨h1, h2⟩ := sumA_ok hr n (by omega)
    have hlt : n < rs.length := h
    have hg : rs.getD n (0, 0, 0, 0) = rs[n] := by simp [List.getD, hlt]
    have ht : rs.take (n + 1) = rs.take n ++ [rs[n]] := by rw [List.take_add_one, List.getElem?_eq_getElem hlt]; rfl
    have hn := hr _ (List.getElem_mem hlt)
    have k1 := pts_more (rs.take n) rs[n]
    rw [pts_area hn] at k1
    have k2 := pts_nonneg (clipR (rs.take n) rs[n])
    have hrt : ∀ r ∈ rs.take n, okR r := fun r hr' => hr r (List.mem_of_mem_take hr')
    rw [sumA, hg, ht]
    refine ⟨by omega, ?_⟩
    by_cases hc : clipR (rs.take n) rs[n] = []
    · rw [hc, pts_nil] at k1
      have hall : ∀ j (hj : j < n), comB rs[n] (rs[j]'(by omega)) = false := fun j hj => by
        rw [comB_symm]
        cases hb : comB (rs[j]'(by omega)) rs[n] with
        | false => rfl
        | true =>
          have : comR (rs[j]'(by omega)) rs[n] ∈ clipR (rs.take n) rs[n] := List.mem_map.2 ⟨_, List.mem_filter.2 ⟨List.mem_iff_getElem.2 ⟨j, by simp; omega, by simp⟩, hb⟩, rfl⟩
          rw [hc] at this; cases this
      constructor
      · intro q i hi j hj hin
        by_cases e : i = n
        · subst e; exact hall j hj
        · exact (h2.1 (by omega)) i hi j hj (by omega)
      · intro q
        have := h2.2 fun i hi j hj hin => q i hi j hj (by omega)
        omega
    · have k3 := clip_pos hrt hn hc
      refine ⟨fun q => by omega, fun q => ?_⟩
      exfalso
      obtain ⟨c, hc'⟩ := List.exists_mem_of_ne_nil _ hc
      obtain ⟨a, ha, rfl⟩ := List.mem_map.1 hc'
      obtain ⟨ha, hb⟩ := List.mem_filter.1 ha
      obtain ⟨j, hj, rfl⟩ := List.mem_iff_getElem.1 ha
      have hj' : j < n := by simp at hj; omega
      have := q n hlt j hj' (Nat.lt_succ_self n)
      rw [comB_symm] at this
      simp at hb
      rw [hb] at this; cases this
theorem sumA_bound {rs : List R4} (hr : ∀ r ∈ rs, okR r) : ∀ n, n ≤ rs.length → 0 ≤ sumA rs n ∧ sumA rs n ≤ 206158430208000 * (n : Int)
  | 0, _ => ⟨Int.le_refl _, by simp [sumA]⟩
  | n + 1, h => by
    have ih := sumA_bound hr n (by omega)
    have hlt : n < rs.length := h
    have hg : rs.getD n (0, 0, 0, 0) = rs[n] := by simp [List.getD, hlt]
    have := areaR_ok (hr _ (List.getElem_mem hlt))
    rw [sumA, hg]
    omega
def S9 : List A → List C := fun _ => [.bool true]
theorem comV (a b : R4) : S29 [rR a, rR b] = [.int .i64 (if comB a b then (comR a b).1 else 0), .int .i64 (if comB a b then (comR a b).2.1 else 0), .int .i64 (if comB a b then (comR a b).2.2.1 else 0), .int .i64 (if comB a b then (comR a b).2.2.2 else 0), .bool (comB a b)] := by
  have e : comB a b = !comE a.1 a.2.1 a.2.2.1 a.2.2.2 b.1 b.2.1 b.2.2.1 b.2.2.2 := com_is
  have h : S29 [rR a, rR b] = [zs (comE a.1 a.2.1 a.2.2.1 a.2.2.2 b.1 b.2.1 b.2.2.1 b.2.2.2) (comR a b).1, zs (comE a.1 a.2.1 a.2.2.1 a.2.2.2 b.1 b.2.1 b.2.2.1 b.2.2.2) (comR a b).2.1, zs (comE a.1 a.2.1 a.2.2.1 a.2.2.2 b.1 b.2.1 b.2.2.1 b.2.2.2) (comR a b).2.2.1, zs (comE a.1 a.2.1 a.2.2.1 a.2.2.2 b.1 b.2.1 b.2.2.1 b.2.2.2) (comR a b).2.2.2, .bool (comB a b)] := rfl
  rw [h, e]
  cases comE a.1 a.2.1 a.2.2.1 a.2.2.2 b.1 b.2.1 b.2.2.1 b.2.2.2 <;> rfl
end Go.Proofs.Ytkdapoipnkpbeaa.R
