/- Ledgers: a posting is checked. No conditions. -/
import Derived.Test.YtlmllogbaacoeaaGA
set_option linter.unusedVariables false
set_option linter.unusedSimpArgs false
namespace Go.Proofs.Ytlmllogbaacoeaa.V
open Go Go.Eng
set_option maxRecDepth 1000000
set_option maxHeartbeats 1000000
theorem bite_or (a b : Bool) : (if a = true then true else b) = (a || b) := by cases a <;> rfl
theorem bite_and (a b : Bool) : (if a = true then b else false) = (a && b) := by cases a <;> rfl
theorem amt_fold (its : List I2) (i : Nat) : (its.getD i z2).2 = amt its i := id rfl
theorem acc_fold (its : List I2) (i : Nat) : (its.getD i z2).1 = acc its i := id rfl
theorem any_bad {its : List I2} (h : ∀ i, i < its.length → badI (its.getD i z2) = false) : its.any badI = false := by
  rw [List.any_eq_false]
  intro x hx
  obtain ⟨i, hi, rfl⟩ := List.mem_iff_getElem.1 hx
  have := h i hi
  rw [getD_get hi] at this
  simp [this]
theorem bad_any {its : List I2} {i : Nat} (hi : i < its.length) (h : badI (its.getD i z2) = true) : its.any badI = true := by
  rw [List.any_eq_true]
  exact ⟨its[i], List.getElem_mem hi, by rwa [getD_get hi] at h⟩
theorem good_amt {x : I2} (h : badI x = false) : 0 ≤ x.1 ∧ x.1 ≤ 1000000 ∧ x.2 ≠ 0 ∧ -1000000000000 ≤ x.2 ∧ x.2 ≤ 1000000000000 := by
  unfold badI at h
  have := of_decide_eq_false h
  omega
theorem chk_body {P : Program} {tbl : FuncId → List A → List C} {Q : List C → Prop} (a b : Int) (its : List I2) (hQ : Q [.int .i64 (chkP (a, b, its))]) : vc13 (stdE P tbl) a b (row2 its) Q := by
  unfold vc13
  simp only [stdE, baseE, Br_iff, bite_or, row2_len]
  simp only [Bool.or_eq_true, Bool.or_eq_false_iff, decide_eq_true_eq, decide_eq_false_iff_not]
  unfold chkP at hQ
  dsimp only at hQ
  refine ⟨fun h => ?_, fun h => ⟨fun h2 => ?_, fun h2 => ⟨fun h3 => ?_, fun h3 => ?_⟩⟩⟩
  · rwa [if_pos (by omega)] at hQ
  · rwa [if_neg (by omega), if_pos (by omega)] at hQ
  · rwa [if_neg (by omega), if_neg (by omega), if_pos (by omega)] at hQ
  rw [if_neg (by omega), if_neg (by omega), if_neg (by omega)] at hQ
  refine LoopP2.run (fun n : Nat => sumTo (amt its) n) (fun n => (n : Int)) (fun n => n ≤ its.length ∧ ∀ i, i < n → badI (its.getD i z2) = false) (fun n => its.length - n) 0 ⟨Nat.zero_le _, fun i h => by omega⟩ rfl rfl ?_
  rintro n ⟨hn, hg⟩ K hK
  simp only [toNat_cast, row2_c0, row2_c1, Bool.not_eq_true', Bool.not_eq_false', beq_iff_eq, beq_eq_false_iff_ne, decide_eq_true_eq, decide_eq_false_iff_not]
  refine ⟨fun h => ⟨by omega, fun hb => ?_, fun hb => ?_⟩, fun h => ?_⟩
  · rwa [if_pos (bad_any (i := n) (by omega) (by unfold badI; exact decide_eq_true (by omega)))] at hQ
  · have hg1 : badI (its.getD n z2) = false := by unfold badI; exact decide_eq_false (by omega)
    have hb1 := sumTo_abs (f := amt its) (b := 1000000000000) (n := n) fun i hi => ⟨(good_amt (hg i hi)).2.2.2.1, (good_amt (hg i hi)).2.2.2.2⟩
    have hb2 := good_amt hg1
    rw [amt_fold] at hb2 ⊢
    refine hK _ _ (n + 1) ⟨by omega, fun i hi => ?_⟩ (by omega) ?_ ?_
    · by_cases e : i = n
      · subst e; exact hg1
      · exact hg i (by omega)
    · rw [wrap_in (by omega) (by omega)]; rfl
    · exact wrap_up rfl (by omega)
  · have e : n = its.length := by omega
    subst e
    rw [if_neg (by rw [any_bad hg]; simp)] at hQ
    refine ⟨fun hs => ?_, fun hs => ?_⟩
    · rwa [if_pos hs] at hQ
    · rwa [if_neg (by simpa using hs)] at hQ
end Go.Proofs.Ytlmllogbaacoeaa.V
