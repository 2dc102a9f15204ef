/- Knives: the best order, plainly. No conditions. -/
import Derived.Test.YtjmgphobpgajbaaPos
set_option linter.unusedVariables false
set_option linter.unusedSimpArgs false
namespace Go.Proofs.Ytjmgphobpgajbaa.V
open Go Go.Eng
set_option maxRecDepth 1000000
set_option maxHeartbeats 1000000
/-- How many knives are set when pattern b comes behind a; behind -1, which is no pattern: all of them. -/
def stp (g : List (List Int)) (a b : Int) : Int := if a < 0 then ((g.getD b.toNat []).length : Int) else mvN (g.getD a.toNat []) (g.getD b.toNat [])
def lenL (g : List (List Int)) : List Int → Int
  | [] => 0
  | [_] => 0
  | a :: b :: r => stp g a b + lenL g (b :: r)
/-- The best order that begins with some: the cheapest, of several the first. -/
def best (g : List (List Int)) : Nat → List Int → List Int → List Int
  | 0, b, _ => b
  | n + 1, b, left => if left = [] then b else (List.range left.length).foldl (fun out i => if out = [] ∨ lenL g (best g n (b ++ [left.getD i 0]) (left.eraseIdx i)) < lenL g out then best g n (b ++ [left.getD i 0]) (left.eraseIdx i) else out) []
def okG (g : List (List Int)) : Prop := ∀ p ∈ g, p.length ≤ 13
def inG (g : List (List Int)) (w : List Int) : Prop := ∀ k ∈ w, -1 ≤ k ∧ k < g.length
section
variable {g : List (List Int)}
theorem okG_at (hg : okG g) (k : Nat) : (g.getD k []).length ≤ 13 := by
  by_cases h : k < g.length
  · exact hg _ (getD_mem h)
  · simp [List.getD, show g.length ≤ k by omega]
theorem mvN_le (a b : List Int) : 0 ≤ mvN a b ∧ mvN a b ≤ b.length := by
  unfold mvN
  have := List.length_filter_le (fun x => decide (x ∉ a)) b
  omega
theorem stp_ok (hg : okG g) {a b : Int} (ha : -1 ≤ a ∧ a < g.length) (hb : -1 ≤ b ∧ b < g.length) : 0 ≤ stp g a b ∧ stp g a b ≤ 1000000 := by
  have h1 := okG_at hg b.toNat
  have h2 := mvN_le (g.getD a.toNat []) (g.getD b.toNat [])
  unfold stp
  split <;> omega
theorem lenL_cons2 (a b : Int) (r : List Int) : lenL g (a :: b :: r) = stp g a b + lenL g (b :: r) := rfl
theorem lenL_snoc : ∀ (w : List Int) (b : Int), w ≠ [] → lenL g (w ++ [b]) = lenL g w + stp g (w.getD (w.length - 1) 0) b
  | [], b, h => absurd rfl h
  | [a], b, _ => by simp [lenL]
  | a :: c :: r, b, _ => by
    have ih := lenL_snoc (c :: r) b (by simp)
    simp only [List.cons_append] at ih ⊢
    rw [lenL_cons2, ih, lenL_cons2]
    have : (a :: c :: r).getD ((a :: c :: r).length - 1) 0 = (c :: r).getD ((c :: r).length - 1) 0 := by
      simp [List.getD]
    rw [this]; omega
theorem lenL_ok (hg : okG g) : ∀ (w : List Int), inG g w → 0 ≤ lenL g w ∧ lenL g w ≤ 1000000 * w.length
  | [], _ => by simp [lenL]
  | [a], _ => by simp [lenL]
  | a :: b :: r, h => by
    have ih := lenL_ok hg (b :: r) fun k hk => h k (by simp at hk ⊢; exact .inr hk)
    have hs := stp_ok hg (h a (by simp)) (h b (by simp))
    rw [lenL_cons2]
    simp only [List.length_cons] at ih ⊢
    push_cast at ih ⊢
    omega
theorem lenL_mono (hg : okG g) : ∀ (r w : List Int), inG g (w ++ r) → lenL g w ≤ lenL g (w ++ r)
  | [], w, _ => by simp
  | b :: r, w, h => by
    have ih := lenL_mono hg r (w ++ [b]) (by simpa using h)
    rw [List.append_assoc] at ih
    simp only [List.cons_append, List.nil_append] at ih
    by_cases hw : w = []
    · subst hw; simp only [List.nil_append] at ih ⊢
      have := (lenL_ok hg _ h).1
      simp only [lenL]; exact this
    · rw [lenL_snoc w b hw] at ih
      have hl : w.getD (w.length - 1) 0 ∈ w := getD_mem (by have := List.length_pos_iff.2 hw; omega)
      have := (stp_ok hg (h _ (by simp; exact .inl hl)) (h b (by simp))).1
      omega
/-! ### The least of several -/
def mn (X : Nat → List Int) (g : List (List Int)) (k : Nat) : List Int := (List.range k).foldl (fun out i => if out = [] ∨ lenL g (X i) < lenL g out then X i else out) []
theorem mn_succ (X : Nat → List Int) (k : Nat) : mn X g (k + 1) = if mn X g k = [] ∨ lenL g (X k) < lenL g (mn X g k) then X k else mn X g k := by
  unfold mn
  rw [List.range_succ, List.foldl_append]
  rfl
theorem mn_spec {X : Nat → List Int} : ∀ k, (∀ i, i < k + 1 → X i ≠ []) → ∃ i, i < k + 1 ∧ mn X g (k + 1) = X i ∧ (∀ j, j < k + 1 → lenL g (X i) ≤ lenL g (X j)) ∧ ∀ j, j < i → lenL g (X i) < lenL g (X j)
  | 0, h => ⟨0, by omega, by rw [mn_succ]; simp [mn], fun j hj => by rw [show j = 0 by omega]; exact Int.le_refl _, fun j hj => by omega⟩
  | k + 1, h => by
    obtain ⟨i, h1, h2, h3, h4⟩ := mn_spec k fun i hi => h i (by omega)
    rw [mn_succ, h2]
    by_cases hl : lenL g (X (k + 1)) < lenL g (X i)
    · rw [if_pos (.inr hl)]
      refine ⟨k + 1, by omega, rfl, fun j hj => ?_, fun j hj => ?_⟩
      · by_cases e : j = k + 1
        · rw [e]; exact Int.le_refl _
        · have := h3 j (by omega); omega
      · have := h3 j (by omega); omega
    · rw [if_neg (by rintro (q | q); exact h i (by omega) q; exact hl q)]
      refine ⟨i, by omega, rfl, fun j hj => ?_, h4⟩
      by_cases e : j = k + 1
      · rw [e]; omega
      · exact h3 j (by omega)
/-- The better of what is known and the first k. -/
def fm (X : Nat → List Int) (g : List (List Int)) (b : List Int) : Nat → List Int
  | 0 => b
  | k + 1 => if lenL g (X k) < lenL g (fm X g b k) then X k else fm X g b k
theorem mn_succ' {X : Nat → List Int} {k : Nat} (h : mn X g k ≠ []) : mn X g (k + 1) = if lenL g (X k) < lenL g (mn X g k) then X k else mn X g k := by
  rw [mn_succ]
  by_cases q : lenL g (X k) < lenL g (mn X g k)
  · rw [if_pos q, if_pos (.inr q)]
  · rw [if_neg q, if_neg (by rintro (e | e); exact h e; exact q e)]
theorem mn_one (X : Nat → List Int) : mn X g 1 = X 0 := by rw [mn_succ, if_pos (.inl rfl)]
theorem mn_ne {X : Nat → List Int} {k : Nat} (h : ∀ i, i < k + 1 → X i ≠ []) : mn X g (k + 1) ≠ [] := by
  obtain ⟨i, h1, h2, _⟩ := mn_spec (g := g) k h
  rw [h2]; exact h i h1
theorem fm_spec {X : Nat → List Int} {b : List Int} : ∀ k, (∀ i, i < k + 1 → X i ≠ []) → fm X g b (k + 1) = if lenL g (mn X g (k + 1)) < lenL g b then mn X g (k + 1) else b
  | 0, h => by rw [mn_one]; rfl
  | k + 1, h => by
    have ih := fm_spec (b := b) k fun i hi => h i (by omega)
    have hne := mn_ne (g := g) fun i hi => h i (show i < k + 1 + 1 by omega)
    rw [fm, ih, mn_succ' (mn_ne fun i hi => h i (by omega))]
    generalize mn X g (k + 1) = m
    by_cases q1 : lenL g m < lenL g b
    · rw [if_pos q1]
      by_cases q2 : lenL g (X (k + 1)) < lenL g m
      · rw [if_pos q2, if_pos (by omega)]
      · rw [if_neg q2, if_pos q1]
    · rw [if_neg q1]
      by_cases q2 : lenL g (X (k + 1)) < lenL g m
      · rw [if_pos q2]
      · rw [if_neg q2, if_neg q1, if_neg (by omega)]
theorem fm_mn {X : Nat → List Int} : ∀ k, (∀ i, i < k + 1 → X i ≠ []) → fm (fun i => X (i + 1)) g (X 0) k = mn X g (k + 1)
  | 0, h => by rw [mn_one]; rfl
  | k + 1, h => by
    have ih := fm_mn k fun i hi => h i (by omega)
    rw [fm, ih, mn_succ' (mn_ne fun i hi => h i (by omega))]
/-! ### The best order -/
def cho (g : List (List Int)) (n : Nat) (b left : List Int) (i : Nat) : List Int := best g n (b ++ [left.getD i 0]) (left.eraseIdx i)
theorem best_succ (n : Nat) (b left : List Int) : best g (n + 1) b left = if left = [] then b else mn (cho g n b left) g left.length := rfl
theorem best_nil (n : Nat) (b : List Int) : best g n b [] = b := by cases n <;> simp [best]
theorem erase_permI : ∀ (l : List Int) (i : Nat), i < l.length → (l.getD i 0 :: l.eraseIdx i).Perm l
  | [], i, h => by simp at h
  | a :: l, 0, _ => by simp
  | a :: l, i + 1, h => by
    have ih := erase_permI l i (by simpa using h)
    simp only [List.eraseIdx_cons_succ, List.getD_cons_succ]
    exact (List.Perm.swap _ _ _).trans (ih.cons a)
theorem best_spec : ∀ (n : Nat) (b left : List Int), left.length = n → b ≠ [] → ∃ r, best g n b left = b ++ r ∧ r.Perm left ∧ ∀ r', r'.Perm left → lenL g (b ++ r) ≤ lenL g (b ++ r')
  | 0, b, left, h, hb => by
    have : left = [] := List.length_eq_zero_iff.1 h
    subst this
    refine ⟨[], by simp [best], List.Perm.refl _, fun r' hr => ?_⟩
    rw [List.perm_nil.1 hr]; exact Int.le_refl _
  | n + 1, b, left, h, hb => by
    have hne : left ≠ [] := fun e => by rw [e] at h; simp at h
    rw [best_succ, if_neg hne]
    have key : ∀ i, i < left.length → ∃ r, cho g n b left i = b ++ (left.getD i 0 :: r) ∧ r.Perm (left.eraseIdx i) ∧ ∀ r', r'.Perm (left.eraseIdx i) → lenL g (b ++ (left.getD i 0 :: r)) ≤ lenL g (b ++ (left.getD i 0 :: r')) := fun i hi => by
      obtain ⟨r, h1, h2, h3⟩ := best_spec n (b ++ [left.getD i 0]) (left.eraseIdx i) (by rw [List.length_eraseIdx_of_lt hi]; omega) (by simp)
      exact ⟨r, by unfold cho; rw [h1]; simp, h2, fun r' hr => by simpa using h3 r' hr⟩
    obtain ⟨m, hm⟩ : ∃ m, left.length = m + 1 := ⟨n, h⟩
    rw [hm]
    obtain ⟨i, h1, h2, h3, _⟩ := mn_spec (g := g) (X := cho g n b left) m fun i hi => by
      obtain ⟨r, e, _⟩ := key i (by omega); rw [e]; simp
    obtain ⟨r, e, hp, hmin⟩ := key i (by omega)
    rw [h2, e]
    refine ⟨_, rfl, (hp.cons _).trans (erase_permI left i (by omega)), fun r' hr => ?_⟩
    match r', hr with
    | [], hr => have := hr.length_eq; simp at this; omega
    | a :: r', hr =>
      have ha : a ∈ left := hr.subset (by simp)
      obtain ⟨j, hj, ej⟩ := List.mem_iff_getElem.1 ha
      have ej' : left.getD j 0 = a := by rw [getD_get hj]; exact ej
      have hp' : r'.Perm (left.eraseIdx j) := by
        have := (erase_permI left j hj).symm
        rw [ej'] at this
        exact (hr.trans this).cons_inv
      obtain ⟨q, eq, _, hq⟩ := key j hj
      have h4 := hq r' hp'
      have h5 := h3 j (by omega)
      rw [e, eq] at h5
      rw [ej'] at h4 h5
      omega
theorem best_ne {n : Nat} {b left : List Int} (h : left.length = n) (hb : b ≠ []) : best g n b left ≠ [] := by
  obtain ⟨r, e, _⟩ := best_spec (g := g) n b left h hb
  rw [e]; simp [hb]
theorem best_in {n : Nat} {b left : List Int} (h : left.length = n) (hb : b ≠ []) (hi : inG g (b ++ left)) : inG g (best g n b left) := by
  obtain ⟨r, e, hp, _⟩ := best_spec (g := g) n b left h hb
  rw [e]
  intro k hk
  refine hi k ?_
  rcases List.mem_append.1 hk with hk | hk
  · exact List.mem_append.2 (.inl hk)
  · exact List.mem_append.2 (.inr (hp.subset hk))
theorem best_ge (hg : okG g) {n : Nat} {b left : List Int} (h : left.length = n) (hb : b ≠ []) (hi : inG g (b ++ left)) : lenL g b ≤ lenL g (best g n b left) := by
  have hin := best_in h hb hi
  obtain ⟨r, e, hp, _⟩ := best_spec (g := g) n b left h hb
  rw [e] at hin ⊢
  exact lenL_mono hg r b hin
/-- Lexicographically less. -/
def lexB : List Int → List Int → Prop
  | a :: l, b :: m => a < b ∨ (a = b ∧ lexB l m)
  | _, _ => False
theorem lexB_app : ∀ (b l m : List Int), lexB (b ++ l) (b ++ m) ↔ lexB l m
  | [], l, m => Iff.rfl
  | a :: b, l, m => by simp only [List.cons_append, lexB]; rw [lexB_app b l m]; simp
theorem best_lex : ∀ (n : Nat) (b left : List Int), left.length = n → b ≠ [] → left.Pairwise (· < ·) → ∀ r', r'.Perm left → lenL g (b ++ r') = lenL g (best g n b left) → ¬ lexB (b ++ r') (best g n b left)
  | 0, b, left, h, hb, hs, r', hr, he => by
    have : left = [] := List.length_eq_zero_iff.1 h
    subst this
    rw [List.perm_nil.1 hr]
    have := lexB_app b [] []
    simp only [best, List.append_nil] at this ⊢
    rw [this]; simp [lexB]
  | n + 1, b, left, h, hb, hs, r', hr, he => by
    have hne : left ≠ [] := fun e => by rw [e] at h; simp at h
    rw [best_succ, if_neg hne] at he ⊢
    have hce : ∀ i, i < left.length → (left.eraseIdx i).length = n := fun i hi => by rw [List.length_eraseIdx_of_lt hi]; omega
    obtain ⟨m, hm⟩ : ∃ m, left.length = m + 1 := ⟨n, h⟩
    rw [hm] at he ⊢
    obtain ⟨i, h1, h2, h3, h4⟩ := mn_spec (g := g) (X := cho g n b left) m fun i hi => best_ne (hce i (by omega)) (by simp)
    rw [h2] at he ⊢
    match r', hr with
    | [], hr => have := hr.length_eq; simp at this; omega
    | a :: r', hr =>
      have ha : a ∈ left := hr.subset (by simp)
      obtain ⟨j, hj, ej⟩ := List.mem_iff_getElem.1 ha
      have ej' : left.getD j 0 = a := by rw [getD_get hj]; exact ej
      have hp' : r'.Perm (left.eraseIdx j) := by
        have := (erase_permI left j hj).symm
        rw [ej'] at this
        exact (hr.trans this).cons_inv
      obtain ⟨q, eq, _, hq⟩ := best_spec (g := g) n (b ++ [left.getD j 0]) (left.eraseIdx j) (hce j hj) (by simp)
      have h5 := hq r' hp'
      rw [← eq] at h5
      have h5' : lenL g (cho g n b left j) ≤ lenL g (b ++ a :: r') := by
        have e2 : cho g n b left j = best g n (b ++ [a]) (left.eraseIdx j) := by unfold cho; rw [ej']
        rw [ej'] at h5
        rw [e2]
        simpa using h5
      have h6 := h3 j (by omega)
      have hji : i ≤ j := Nat.le_of_not_lt fun q => by have := h4 j q; omega
      obtain ⟨p, ep, _⟩ := best_spec (g := g) n (b ++ [left.getD i 0]) (left.eraseIdx i) (hce i (by omega)) (by simp)
      have ei : cho g n b left i = b ++ (left.getD i 0 :: p) := by unfold cho; rw [ep]; simp
      by_cases hij : i = j
      · subst hij
        have ih := best_lex n (b ++ [left.getD i 0]) (left.eraseIdx i) (hce i hj) (by simp) (hs.sublist (List.eraseIdx_sublist _ _)) r' hp'
        rw [ej'] at ih
        simp only [List.append_assoc, List.cons_append, List.nil_append] at ih
        have e2 : cho g n b left i = best g n (b ++ [a]) (left.eraseIdx i) := by unfold cho; rw [ej']
        rw [e2] at he ⊢
        exact ih he
      · have hlt : left.getD i 0 < left.getD j 0 := by
          rw [getD_get (show i < left.length by omega), getD_get hj]
          exact List.pairwise_iff_getElem.1 hs i j (by omega) hj (by omega)
        rw [ei, lexB_app]
        simp only [lexB]
        rw [← ej']
        omega
end
end Go.Proofs.Ytjmgphobpgajbaa.V
