/- Ledgers: the postings of a ledger after the first of a list were posted. No conditions. -/
import Derived.Test.YtlmllogbaacoeaaSame
set_option linter.unusedVariables false
set_option linter.unusedSimpArgs false
namespace Go.Proofs.Ytlmllogbaacoeaa.V
open Go Go.Eng
set_option maxRecDepth 1000000
set_option maxHeartbeats 1000000
/-- The postings of a ledger after the first n were posted. -/
def led (qs : List PT) : Nat → List PT
  | 0 => []
  | n + 1 => next (led qs n) (qs.getD n zP)
theorem next_ok {ps : List PT} {p : PT} (h : ∀ q ∈ ps, chkP q = 0) : ∀ q ∈ next ps p, chkP q = 0 := by
  unfold next
  split
  · rename_i he
    intro q hq
    rcases List.mem_append.1 hq with hq | hq
    · exact h q hq
    · rw [List.mem_singleton.1 hq]
      unfold postE at he
      split at he
      · rename_i h1; exact absurd he h1
      · rename_i h1; simpa using h1
  · exact h
theorem next_len (ps : List PT) (p : PT) : (next ps p).length ≤ ps.length + 1 := by
  unfold next
  split
  · simp
  · omega
theorem led_ok (qs : List PT) : ∀ n, (∀ q ∈ led qs n, chkP q = 0) ∧ (led qs n).length ≤ n
  | 0 => ⟨(fun q hq => by cases hq), Nat.le_refl _⟩
  | n + 1 => ⟨next_ok (led_ok qs n).1, Nat.le_trans (next_len _ _) (by have := (led_ok qs n).2; omega)⟩
theorem post_ok {ps : List PT} {p : PT} (h : postE ps p = 0) : chkP p = 0 ∧ dupB ps p.1 = false ∧ lateB ps p.2.1 = false ∧ ovfB ps p = false ∧ ps.length < 512 := by
  unfold postE at h
  split at h
  · rename_i g; exact absurd h g
  split at h
  · omega
  split at h
  · omega
  split at h
  · omega
  split at h
  · omega
  rename_i h1 h2 h3 h4 h5
  exact ⟨by simpa using h1, by simpa using h2, by simpa using h3, by simpa using h4, by omega⟩
theorem snoc_ind {α : Type} {M : List α → Prop} (h0 : M []) (h1 : ∀ l a, M l → M (l ++ [a])) : ∀ l, M l := fun l => by
  rw [← l.reverse_reverse]
  induction l.reverse with
  | nil => exact h0
  | cons a r ih => rw [List.reverse_cons]; exact h1 _ _ ih
end Go.Proofs.Ytlmllogbaacoeaa.V
