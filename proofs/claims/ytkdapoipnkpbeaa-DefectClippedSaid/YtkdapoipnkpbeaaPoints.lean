/- Rectangles: laws of the points. No conditions. -/
import Derived.Test.YtkdapoipnkpbeaaCount
set_option linter.unusedVariables false
set_option linter.unusedSimpArgs false
namespace Go.Proofs.Ytkdapoipnkpbeaa
open Go Go.Eng Go.Span
theorem inR_nil (x y : Int) : ¬ inR [] x y := fun ⟨r, h, _⟩ => by cases h
theorem inR_append (a b : List R4) (x y : Int) : inR (a ++ b) x y ↔ inR a x y ∨ inR b x y := by
  constructor
  · rintro ⟨r, h, k⟩
    rcases List.mem_append.1 h with h | h
    · exact .inl ⟨r, h, k⟩
    · exact .inr ⟨r, h, k⟩
  · rintro (⟨r, h, k⟩ | ⟨r, h, k⟩)
    · exact ⟨r, List.mem_append_left _ h, k⟩
    · exact ⟨r, List.mem_append_right _ h, k⟩
theorem inR_one (r : R4) (x y : Int) : inR [r] x y ↔ r.1 ≤ x ∧ x < r.2.1 ∧ r.2.2.1 ≤ y ∧ y < r.2.2.2 :=
  ⟨fun ⟨q, h, k⟩ => by rw [List.mem_singleton] at h; subst h; exact k, fun k => ⟨r, List.mem_singleton.2 rfl, k⟩⟩
/-- Two lists, and one of what is in both. -/
theorem pts_add {a b c d : List R4} (h1 : ∀ x y, inR c x y ↔ inR a x y ∨ inR b x y) (h2 : ∀ x y, inR d x y ↔ inR a x y ∧ inR b x y) : pts c + pts d = pts a + pts b := by
  unfold pts
  rw [← sm_add, ← sm_add]
  refine sm_congr fun x _ => ?_
  unfold colN
  rw [← sm_add, ← sm_add]
  refine sm_congr fun y _ => ?_
  have k1 := h1 x y
  have k2 := h2 x y
  unfold Go.Span.one
  by_cases p : inR a x y <;> by_cases q : inR b x y
  · rw [if_pos (k1.2 (.inl p)), if_pos (k2.2 ⟨p, q⟩), if_pos p, if_pos q]
  · rw [if_pos (k1.2 (.inl p)), if_neg (fun h => q (k2.1 h).2), if_pos p, if_neg q]
  · rw [if_pos (k1.2 (.inr q)), if_neg (fun h => p (k2.1 h).1), if_neg p, if_pos q]; rfl
  · rw [if_neg (fun h => (k1.1 h).elim p q), if_neg (fun h => p (k2.1 h).1), if_neg p, if_neg q]
theorem pts_nil : pts [] = 0 := by
  unfold pts
  rw [sm_congr (g := fun _ => 0), sm_zero]
  exact fun x _ => col_zero fun r h => by cases h
theorem pts_one {r : R4} (h : okR r) : pts [r] = (r.2.1 - r.1) * (r.2.2.2 - r.2.2.1) := by
  unfold okR at h
  unfold pts
  rw [sm_congr (g := fun x => Go.Span.one (r.1 ≤ (x : Int) ∧ (x : Int) < r.2.1) * (r.2.2.2 - r.2.2.1)), sm_mul, sm_span wd r.1 r.2.1 h.1 h.2.1 (by unfold wd; omega)]
  intro x _
  unfold colN
  by_cases p : r.1 ≤ (x : Int) ∧ (x : Int) < r.2.1
  · rw [show Go.Span.one (r.1 ≤ (x : Int) ∧ (x : Int) < r.2.1) = 1 from if_pos p, Int.one_mul, ← sm_span ln r.2.2.1 r.2.2.2 h.2.2.2.1 h.2.2.2.2.1 (by unfold ln; omega)]
    refine sm_congr fun y _ => ?_
    unfold Go.Span.one
    have := inR_one r x y
    by_cases q : r.2.2.1 ≤ (y : Int) ∧ (y : Int) < r.2.2.2
    · rw [if_pos q, if_pos (this.2 ⟨p.1, p.2, q.1, q.2⟩)]
    · rw [if_neg q, if_neg fun h => q (this.1 h).2.2]
  · rw [show Go.Span.one (r.1 ≤ (x : Int) ∧ (x : Int) < r.2.1) = 0 from if_neg p, Int.zero_mul, sm_congr (g := fun _ => 0), sm_zero]
    intro y _
    unfold Go.Span.one
    rw [if_neg fun h => p ⟨((inR_one r x y).1 h).1, ((inR_one r x y).1 h).2.1⟩]
theorem pts_nonneg (rs : List R4) : 0 ≤ pts rs := by
  unfold pts
  rw [← sm_zero wd]
  refine sm_le fun x _ => ?_
  exact (sm_one_le ln _).1
theorem pts_le (rs : List R4) : pts rs ≤ 12000 * 17179869184 := by
  unfold pts
  have := sm_le (n := wd) (f := fun x => colN rs x) (g := fun _ => (ln : Int)) fun x _ => (sm_one_le ln _).2
  rw [sm_const] at this
  exact this
/-- The common part. -/
def comR (a b : R4) : R4 := (Ytkdapoipnkpbeaa.mx a.1 b.1, mn a.2.1 b.2.1, Ytkdapoipnkpbeaa.mx a.2.2.1 b.2.2.1, mn a.2.2.2 b.2.2.2)
def comB (a b : R4) : Bool := comI a.1 a.2.1 a.2.2.1 a.2.2.2 b.1 b.2.1 b.2.2.1 b.2.2.2
theorem comB_iff (a b : R4) : comB a b = true ↔ (comR a b).1 < (comR a b).2.1 ∧ (comR a b).2.2.1 < (comR a b).2.2.2 := by
  unfold comB comI comE emp comR
  simp only [Bool.and_eq_true, Bool.not_eq_true', Bool.or_eq_false_iff, decide_eq_false_iff_not, Bool.and_eq_false_iff]
  constructor
  · rintro ⟨⟨h1, h2⟩, _⟩; exact ⟨by omega, by omega⟩
  · rintro ⟨h1, h2⟩
    refine ⟨⟨by omega, by omega⟩, ?_⟩
    by_cases p : Ytkdapoipnkpbeaa.mx a.1 b.1 = 0
    · exact .inr (.inl (by omega))
    · exact .inl p
theorem in_comR (a b : R4) (x y : Int) : inR [comR a b] x y ↔ inR [a] x y ∧ inR [b] x y := by
  rw [inR_one, inR_one, inR_one]
  unfold comR Ytkdapoipnkpbeaa.mx mn
  simp only
  constructor
  · intro h
    split at h <;> split at h <;> split at h <;> split at h <;> omega
  · intro h
    split <;> split <;> split <;> split <;> omega
/-- The common parts with b that have points. -/
def clipR (rs : List R4) (b : R4) : List R4 := (rs.filter fun a => comB a b).map fun a => comR a b
theorem in_clipR (rs : List R4) (b : R4) (x y : Int) : inR (clipR rs b) x y ↔ inR rs x y ∧ inR [b] x y := by
  constructor
  · rintro ⟨q, h, k⟩
    obtain ⟨a, ha, rfl⟩ := List.mem_map.1 h
    obtain ⟨ha, _⟩ := List.mem_filter.1 ha
    have := (in_comR a b x y).1 ((inR_one _ _ _).2 k)
    exact ⟨⟨a, ha, (inR_one _ _ _).1 this.1⟩, this.2⟩
  · rintro ⟨⟨a, ha, k⟩, hb⟩
    have := (in_comR a b x y).2 ⟨(inR_one _ _ _).2 k, hb⟩
    have h := (inR_one _ _ _).1 this
    refine ⟨comR a b, List.mem_map.2 ⟨a, List.mem_filter.2 ⟨ha, (comB_iff a b).2 ⟨by omega, by omega⟩⟩, rfl⟩, h⟩
/-- A list and one more. -/
theorem pts_more (rs : List R4) (b : R4) : pts (rs ++ [b]) + pts (clipR rs b) = pts rs + pts [b] :=
  pts_add (fun x y => inR_append rs [b] x y) fun x y => in_clipR rs b x y
theorem mx_spec (a b : Int) : a ≤ Ytkdapoipnkpbeaa.mx a b ∧ b ≤ Ytkdapoipnkpbeaa.mx a b ∧ (Ytkdapoipnkpbeaa.mx a b = a ∨ Ytkdapoipnkpbeaa.mx a b = b) := by unfold Ytkdapoipnkpbeaa.mx; split <;> omega
theorem mn_spec (a b : Int) : mn a b ≤ a ∧ mn a b ≤ b ∧ (mn a b = a ∨ mn a b = b) := by unfold mn; split <;> omega
theorem okR_com {a b : R4} (ha : okR a) (hb : okR b) (h : comB a b = true) : okR (comR a b) := by
  rw [comB_iff] at h
  unfold okR at *
  unfold comR at *
  simp only at *
  have h1 := mx_spec a.1 b.1
  have h2 := mn_spec a.2.1 b.2.1
  have h3 := mx_spec a.2.2.1 b.2.2.1
  have h4 := mn_spec a.2.2.2 b.2.2.2
  omega
end Go.Proofs.Ytkdapoipnkpbeaa
