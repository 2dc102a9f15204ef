/- Defects that are joined: lists alone. No conditions. -/
import Derived.Test.YtkdapoipnkpbeaaPairs
set_option linter.unusedVariables false
set_option linter.unusedSimpArgs false
namespace Go.Proofs.Ytkdapoipnkpbeaa.V
open Go Go.Eng
/-- Of a kind, and near each other. -/
def nrB (a b : I6) (g : Int) : Bool := decide (a.2.2.2.2.1 = b.2.2.2.2.1 ∧ mx a.1 b.1 - mn a.2.1 b.2.1 ≤ g ∧ mx a.2.2.1 b.2.2.1 - mn a.2.2.2.1 b.2.2.2.1 ≤ g)
theorem mx_comm (a b : Int) : mx a b = mx b a := by unfold mx; split <;> split <;> omega
theorem mn_comm (a b : Int) : mn a b = mn b a := by unfold mn; split <;> split <;> omega
theorem nrB_comm (a b : I6) (g : Int) : nrB a b g = nrB b a g := by
  unfold nrB
  rw [mx_comm a.1, mn_comm a.2.1, mx_comm a.2.2.1, mn_comm a.2.2.2.1]
  congr 1
  exact propext ⟨fun h => ⟨h.1.symm, h.2⟩, fun h => ⟨h.1.symm, h.2⟩⟩
/-- The first place from k on that is near the one at i. -/
def inn (rs : List I6) (g : Int) (i k : Nat) : Option Nat := if k < rs.length then (if nrB (rs.getD i z6) (rs.getD k z6) g then some k else inn rs g i (k + 1)) else none
termination_by rs.length - k
theorem inn_lt {rs : List I6} {g : Int} {i k : Nat} (h : k < rs.length) : inn rs g i k = if nrB (rs.getD i z6) (rs.getD k z6) g then some k else inn rs g i (k + 1) := by rw [inn, if_pos h]
theorem inn_ge {rs : List I6} {g : Int} {i k : Nat} (h : ¬ k < rs.length) : inn rs g i k = none := by rw [inn, if_neg h]
/-- The first pair from i on. -/
def prs2 (rs : List I6) (g : Int) (i : Nat) : Option (Nat × Nat) := if i < rs.length then (match inn rs g i (i + 1) with
  | some k => some (i, k)
  | none => prs2 rs g (i + 1)) else none
termination_by rs.length - i
theorem prs2_lt {rs : List I6} {g : Int} {i : Nat} (h : i < rs.length) : prs2 rs g i = match inn rs g i (i + 1) with
  | some k => some (i, k)
  | none => prs2 rs g (i + 1) := by rw [prs2, if_pos h]
theorem prs2_ge {rs : List I6} {g : Int} {i : Nat} (h : ¬ i < rs.length) : prs2 rs g i = none := by rw [prs2, if_neg h]
theorem inn_ok (rs : List I6) (g : Int) (i : Nat) : ∀ d k, rs.length - k = d → (∀ m, inn rs g i k = some m → k ≤ m ∧ m < rs.length ∧ nrB (rs.getD i z6) (rs.getD m z6) g = true) ∧
    (inn rs g i k = none → ∀ m, k ≤ m → m < rs.length → nrB (rs.getD i z6) (rs.getD m z6) g = false) := by
  intro d
  induction d with
  | zero => intro k h; rw [inn_ge (by omega)]; exact ⟨fun m h => (by cases h), fun _ m h1 h2 => by omega⟩
  | succ d ih =>
    intro k h
    rw [inn_lt (by omega)]
    obtain ⟨h1, h2⟩ := ih (k + 1) (by omega)
    cases hp : nrB (rs.getD i z6) (rs.getD k z6) g with
    | true => exact ⟨fun m h => (by cases h; exact ⟨Nat.le_refl _, by omega, hp⟩), fun h => by cases h⟩
    | false =>
      refine ⟨fun m h => ?_, fun h m g1 g2 => ?_⟩
      · obtain ⟨a, b, c⟩ := h1 m h; exact ⟨by omega, b, c⟩
      · by_cases e : m = k
        · subst e; exact hp
        · exact h2 h m (by omega) g2
theorem prs2_ok (rs : List I6) (g : Int) : ∀ d i, rs.length - i = d → (∀ a b, prs2 rs g i = some (a, b) → i ≤ a ∧ a < b ∧ b < rs.length ∧ nrB (rs.getD a z6) (rs.getD b z6) g = true) ∧
    (prs2 rs g i = none → ∀ a b, i ≤ a → a < b → b < rs.length → nrB (rs.getD a z6) (rs.getD b z6) g = false) := by
  intro d
  induction d with
  | zero => intro i h; rw [prs2_ge (by omega)]; exact ⟨fun a b h => (by cases h), fun _ a b h1 h2 h3 => by omega⟩
  | succ d ih =>
    intro i h
    rw [prs2_lt (by omega)]
    obtain ⟨h1, h2⟩ := ih (i + 1) (by omega)
    obtain ⟨k1, k2⟩ := inn_ok rs g i _ (i + 1) rfl
    cases hp : inn rs g i (i + 1) with
    | some k => exact ⟨fun a b h => (by cases h; obtain ⟨x, y, z⟩ := k1 _ hp; exact ⟨Nat.le_refl _, by omega, y, z⟩), fun h => by cases h⟩
    | none =>
      refine ⟨fun a b h => ?_, fun h a b g1 g2 g3 => ?_⟩
      · obtain ⟨x, y, z⟩ := h1 a b h; exact ⟨by omega, y, z⟩
      · by_cases e : a = i
        · subst e; exact k2 hp b (by omega) g3
        · exact h2 h a b (by omega) g2 g3
theorem prs2_some {rs : List I6} {g : Int} {a b : Nat} (h : prs2 rs g 0 = some (a, b)) : a < b ∧ b < rs.length ∧ nrB (rs.getD a z6) (rs.getD b z6) g = true := ((prs2_ok rs g _ 0 rfl).1 a b h).2
theorem prs2_none {rs : List I6} {g : Int} (h : prs2 rs g 0 = none) {a b : Nat} (h1 : a < b) (h2 : b < rs.length) : nrB (rs.getD a z6) (rs.getD b z6) g = false := (prs2_ok rs g _ 0 rfl).2 h a b (Nat.zero_le _) h1 h2
/-- What two become. -/
def jn (a b : I6) : I6 := (mn a.1 b.1, mx a.2.1 b.2.1, mn a.2.2.1 b.2.2.1, mx a.2.2.2.1 b.2.2.2.1, a.2.2.2.2.1, mx a.2.2.2.2.2 b.2.2.2.2.2)
def jat (rs : List I6) (i k : Nat) : List I6 := (rs.set i (jn (rs.getD i z6) (rs.getD k z6))).eraseIdx k
theorem jat_len {rs : List I6} {i k : Nat} (h : k < rs.length) : (jat rs i k).length = rs.length - 1 := by
  unfold jat
  rw [List.length_eraseIdx_of_lt (by simpa using h)]; simp
theorem erase_cut {α : Type} (l : List α) (k : Nat) : l.eraseIdx k = l.take k ++ l.drop (k + 1) := List.eraseIdx_eq_take_drop_succ l k
/-- All of them joined. -/
def mrg (rs : List I6) (g : Int) : List I6 := match h : prs2 rs g 0 with
  | some (i, k) => mrg (jat rs i k) g
  | none => rs
termination_by rs.length
decreasing_by
  obtain ⟨h1, h2, _⟩ := prs2_some h
  rw [jat_len h2]; omega
theorem mrg_some {rs : List I6} {g : Int} {i k : Nat} (h : prs2 rs g 0 = some (i, k)) : mrg rs g = mrg (jat rs i k) g := by
  rw [mrg]
  split
  · rename_i i' k' h'
    rw [h'] at h; cases h; rfl
  · rename_i h'; rw [h'] at h; cases h
theorem mrg_none {rs : List I6} {g : Int} (h : prs2 rs g 0 = none) : mrg rs g = rs := by
  rw [mrg]
  split
  · rename_i i' k' h'
    rw [h'] at h; cases h
  · rfl
/-- A valid defect. -/
def okD (q : I6) : Prop := 0 ≤ q.1 ∧ q.1 < q.2.1 ∧ q.2.1 ≤ 12000 ∧ 0 ≤ q.2.2.1 ∧ q.2.2.1 < q.2.2.2.1 ∧ q.2.2.2.1 ≤ 17179869184 ∧ 1 ≤ q.2.2.2.2.1 ∧ q.2.2.2.2.1 ≤ 16 ∧ 1 ≤ q.2.2.2.2.2 ∧ q.2.2.2.2.2 ≤ 100
theorem jn_ok {a b : I6} (ha : okD a) (hb : okD b) : okD (jn a b) := by
  unfold okD at *
  unfold jn mx mn
  simp only
  repeat' split
  all_goals omega
theorem set_mem {rs : List I6} {i : Nat} {x y : I6} (h : y ∈ rs.set i x) : y = x ∨ y ∈ rs := (List.mem_or_eq_of_mem_set h).symm
theorem jat_mem {rs : List I6} {i k : Nat} {y : I6} (h : y ∈ jat rs i k) : y = jn (rs.getD i z6) (rs.getD k z6) ∨ y ∈ rs := set_mem ((List.eraseIdx_sublist _ _).subset h)
theorem mem_erase {α : Type} {l : List α} {k j : Nat} (h : j < l.length) (hk : j ≠ k) : l[j] ∈ l.eraseIdx k := by
  rw [erase_cut]
  by_cases h1 : j < k
  · refine List.mem_append_left _ ?_
    have : (l.take k)[j]'(by simp; omega) = l[j] := by simp
    rw [← this]; exact List.getElem_mem _
  · refine List.mem_append_right _ ?_
    have : (l.drop (k + 1))[j - (k + 1)]'(by simp; omega) = l[j] := by
      rw [List.getElem_drop]; congr 1; omega
    rw [← this]; exact List.getElem_mem _
theorem jat_new {rs : List I6} {i k : Nat} (h1 : i < k) (h2 : k < rs.length) : jn (rs.getD i z6) (rs.getD k z6) ∈ jat rs i k := by
  unfold jat
  have hl : i < (rs.set i (jn (rs.getD i z6) (rs.getD k z6))).length := by simp; omega
  have := mem_erase hl (show i ≠ k by omega)
  simpa using this
theorem jat_old {rs : List I6} {i k j : Nat} (h : j < rs.length) (hi : j ≠ i) (hk : j ≠ k) : rs.getD j z6 ∈ jat rs i k := by
  unfold jat
  have hl : j < (rs.set i (jn (rs.getD i z6) (rs.getD k z6))).length := by simpa using h
  have := mem_erase hl hk
  rw [List.getElem_set_ne (Ne.symm hi)] at this
  rwa [getD_get h]
theorem jat_ok {rs : List I6} {i k : Nat} (h : ∀ r ∈ rs, okD r) (h1 : i < k) (h2 : k < rs.length) : ∀ r ∈ jat rs i k, okD r := fun r hr => by
  rcases jat_mem hr with rfl | h3
  · exact jn_ok (h _ (getD_mem (by omega))) (h _ (getD_mem h2))
  · exact h r h3
/-- y lies in x. -/
def inD (y x : I6) : Prop := x.1 ≤ y.1 ∧ y.2.1 ≤ x.2.1 ∧ x.2.2.1 ≤ y.2.2.1 ∧ y.2.2.2.1 ≤ x.2.2.2.1 ∧ y.2.2.2.2.1 = x.2.2.2.2.1
/-- How joined defects m stand to given ones l. -/
structure Inv (l m : List I6) : Prop where
  ok : ∀ x ∈ m, okD x
  src : ∀ x ∈ m, (∃ y ∈ l, inD y x ∧ y.1 = x.1) ∧ (∃ y ∈ l, inD y x ∧ y.2.1 = x.2.1) ∧ (∃ y ∈ l, inD y x ∧ y.2.2.1 = x.2.2.1) ∧ (∃ y ∈ l, inD y x ∧ y.2.2.2.1 = x.2.2.2.1) ∧ ∃ y ∈ l, inD y x ∧ y.2.2.2.2.2 = x.2.2.2.2.2
  cov : ∀ y ∈ l, ∃ x ∈ m, inD y x ∧ y.2.2.2.2.2 ≤ x.2.2.2.2.2
  len : m.length ≤ l.length
  ne : l ≠ [] → m ≠ []
theorem Inv.refl {l : List I6} (h : ∀ x ∈ l, okD x) : Inv l l := ⟨h, fun x hx =>
  have k : inD x x := ⟨Int.le_refl _, Int.le_refl _, Int.le_refl _, Int.le_refl _, rfl⟩
  ⟨⟨x, hx, k, rfl⟩, ⟨x, hx, k, rfl⟩, ⟨x, hx, k, rfl⟩, ⟨x, hx, k, rfl⟩, ⟨x, hx, k, rfl⟩⟩, fun y hy => ⟨y, hy, ⟨Int.le_refl _, Int.le_refl _, Int.le_refl _, Int.le_refl _, rfl⟩, Int.le_refl _⟩, Nat.le_refl _, id⟩
theorem inD_l {a b : I6} : inD a (jn a b) := by
  unfold inD jn mx mn; simp only; refine ⟨?_, ?_, ?_, ?_, trivial⟩ <;> split <;> omega
theorem inD_r {a b : I6} (h : a.2.2.2.2.1 = b.2.2.2.2.1) : inD b (jn a b) := by
  unfold inD jn mx mn; simp only; refine ⟨?_, ?_, ?_, ?_, h.symm⟩ <;> split <;> omega
theorem inD_tr {a b c : I6} (h : inD a b) (k : inD b c) : inD a c := by
  unfold inD at *; omega
theorem mx_or (a b : Int) : mx a b = a ∨ mx a b = b := by unfold mx; split <;> simp
theorem mn_or (a b : Int) : mn a b = a ∨ mn a b = b := by unfold mn; split <;> simp
theorem le_mx (a b : Int) : a ≤ mx a b ∧ b ≤ mx a b := by unfold mx; split <;> omega
theorem Inv.step {l rs : List I6} {i k : Nat} {g : Int} (h : Inv l rs) (h1 : i < k) (h2 : k < rs.length) (hn : nrB (rs.getD i z6) (rs.getD k z6) g = true) : Inv l (jat rs i k) := by
  have hk : (rs.getD i z6).2.2.2.2.1 = (rs.getD k z6).2.2.2.2.1 := by unfold nrB at hn; simp only [decide_eq_true_eq] at hn; exact hn.1
  have ma := getD_mem (d := z6) (show i < rs.length by omega)
  have mb := getD_mem (d := z6) h2
  refine ⟨jat_ok h.ok h1 h2, fun x hx => ?_, fun y hy => ?_, ?_, fun hl => ?_⟩
  · rcases jat_mem hx with rfl | hx
    · obtain ⟨a1, a2, a3, a4, a5⟩ := h.src _ ma
      obtain ⟨b1, b2, b3, b4, b5⟩ := h.src _ mb
      generalize rs.getD i z6 = a at *
      generalize rs.getD k z6 = b at *
      have ka := inD_l (a := a) (b := b)
      have kb := inD_r (a := a) (b := b) hk
      refine ⟨?_, ?_, ?_, ?_, ?_⟩
      · rcases mn_or a.1 b.1 with e | e
        · obtain ⟨y, q1, q2, q3⟩ := a1; exact ⟨y, q1, inD_tr q2 ka, by rw [q3]; exact e.symm⟩
        · obtain ⟨y, q1, q2, q3⟩ := b1; exact ⟨y, q1, inD_tr q2 kb, by rw [q3]; exact e.symm⟩
      · rcases mx_or a.2.1 b.2.1 with e | e
        · obtain ⟨y, q1, q2, q3⟩ := a2; exact ⟨y, q1, inD_tr q2 ka, by rw [q3]; exact e.symm⟩
        · obtain ⟨y, q1, q2, q3⟩ := b2; exact ⟨y, q1, inD_tr q2 kb, by rw [q3]; exact e.symm⟩
      · rcases mn_or a.2.2.1 b.2.2.1 with e | e
        · obtain ⟨y, q1, q2, q3⟩ := a3; exact ⟨y, q1, inD_tr q2 ka, by rw [q3]; exact e.symm⟩
        · obtain ⟨y, q1, q2, q3⟩ := b3; exact ⟨y, q1, inD_tr q2 kb, by rw [q3]; exact e.symm⟩
      · rcases mx_or a.2.2.2.1 b.2.2.2.1 with e | e
        · obtain ⟨y, q1, q2, q3⟩ := a4; exact ⟨y, q1, inD_tr q2 ka, by rw [q3]; exact e.symm⟩
        · obtain ⟨y, q1, q2, q3⟩ := b4; exact ⟨y, q1, inD_tr q2 kb, by rw [q3]; exact e.symm⟩
      · rcases mx_or a.2.2.2.2.2 b.2.2.2.2.2 with e | e
        · obtain ⟨y, q1, q2, q3⟩ := a5; exact ⟨y, q1, inD_tr q2 ka, by rw [q3]; exact e.symm⟩
        · obtain ⟨y, q1, q2, q3⟩ := b5; exact ⟨y, q1, inD_tr q2 kb, by rw [q3]; exact e.symm⟩
    · exact h.src x hx
  · obtain ⟨x, hx, k1, k2⟩ := h.cov y hy
    obtain ⟨j, hj, rfl⟩ := List.mem_iff_getElem.1 hx
    rw [← getD_get (d := z6) hj] at k1 k2
    by_cases e1 : j = i
    · subst e1
      exact ⟨_, jat_new h1 h2, inD_tr k1 inD_l, Int.le_trans k2 (le_mx _ _).1⟩
    · by_cases e2 : j = k
      · subst e2
        exact ⟨_, jat_new h1 h2, inD_tr k1 (inD_r hk), Int.le_trans k2 (le_mx _ _).2⟩
      · exact ⟨_, jat_old hj e1 e2, k1, k2⟩
  · rw [jat_len h2]; have := h.len; omega
  · intro e
    have := jat_new h1 h2
    rw [e] at this; cases this
theorem mrg_inv {l : List I6} {g : Int} : ∀ n (rs : List I6), rs.length = n → Inv l rs → Inv l (mrg rs g) ∧ prs2 (mrg rs g) g 0 = none := by
  intro n
  induction n with
  | zero =>
    intro rs hn h
    have hp : prs2 rs g 0 = none := prs2_ge (by omega)
    rw [mrg_none hp]; exact ⟨h, hp⟩
  | succ n ih =>
    intro rs hn h
    cases hp : prs2 rs g 0 with
    | none => rw [mrg_none hp]; exact ⟨h, hp⟩
    | some p =>
      obtain ⟨i, k⟩ := p
      obtain ⟨h1, h2, h3⟩ := prs2_some hp
      rw [mrg_some hp]
      exact ih _ (by rw [jat_len h2]; omega) (h.step h1 h2 h3)
theorem mrg_len {g : Int} : ∀ n (rs : List I6), rs.length = n → (mrg rs g).length ≤ rs.length := by
  intro n
  induction n with
  | zero =>
    intro rs hn
    have hp : prs2 rs g 0 = none := prs2_ge (by omega)
    rw [mrg_none hp]; exact Nat.le_refl _
  | succ n ih =>
    intro rs hn
    cases hp : prs2 rs g 0 with
    | none => rw [mrg_none hp]; exact Nat.le_refl _
    | some p =>
      obtain ⟨i, k⟩ := p
      obtain ⟨h1, h2, h3⟩ := prs2_some hp
      have := ih _ (show (jat rs i k).length = n by rw [jat_len h2]; omega)
      rw [mrg_some hp]
      rw [jat_len h2] at this; omega
end Go.Proofs.Ytkdapoipnkpbeaa.V
