/- Ledgers: balances at a moment, and the postings handed back. No conditions. -/
import Derived.Test.YtlmllogbaacoeaaPeek
set_option linter.unusedVariables false
set_option linter.unusedSimpArgs false
namespace Go.Proofs.Ytlmllogbaacoeaa.V
open Go Go.Eng
set_option maxRecDepth 1000000
set_option maxHeartbeats 1000000
def tbl28 : FuncId → List A → List C := fun f ds => match f with
  | _ => []
theorem ac28 {x1 : List (List C)} {x2 : List (Int × C)} {x3 : Int} {x4 : Int}  {Q0 : (Int) → Prop} (h : vc28 (stdE Try.prog tbl28) x1 x2 x3 x4 Q0) : ACalls Try.prog 28 [.ptr 0 0, .c (.int .i64 x3), .c (.int .i64 x4)] [.box 54 [.gr 1, .map 2], .arr 24 [.int .i64, .int .i64, .sl [.int .i64, .int .i64]] x1, .mp .i64 (.int .i64) x2] fun r H' => (∃ i1 : Int, Q0 i1 ∧ r = .c (.int .i64 i1) ∧ H' = [.box 54 [.gr 1, .map 2], .arr 24 [.int .i64, .int .i64, .sl [.int .i64, .int .i64]] x1, .mp .i64 (.int .i64) x2]) := ACalls_vc mo h28 (w28  h)
def tbl21 : FuncId → List A → List C := fun f ds => match f with
  | 37 => S37 ds
  | _ => []
theorem ac21 {x1 : List (List C)} {x2 : List (Int × C)}  {Q0 : (List (List C)) → Prop} (h : vc21 (stdE Try.prog tbl21) x1 x2 Q0) : ACalls Try.prog 21 [.ptr 0 0] [.box 54 [.gr 1, .map 2], .arr 24 [.int .i64, .int .i64, .sl [.int .i64, .int .i64]] x1, .mp .i64 (.int .i64) x2] fun r H' => (∃ l1 : List (List C), Q0 l1 ∧ r = .gr 3 ∧ H' = [.box 54 [.gr 1, .map 2], .arr 24 [.int .i64, .int .i64, .sl [.int .i64, .int .i64]] x1, .mp .i64 (.int .i64) x2, .arr 24 [.int .i64, .int .i64, .sl [.int .i64, .int .i64]] l1]) := ACalls_vc mo h21 (w21  h)
def tbl22 : FuncId → List A → List C := fun f ds => match f with
  | _ => []
theorem ac22 {x1 : List (List C)}  {Q0 : (List (List C)) → Prop} (h : vc22 (stdE Try.prog tbl22) x1 Q0) : ACalls Try.prog 22 [.ptr 0 0] [.box 56 [.c (.sl [.int .i64, .int .i64, .sl [.int .i64, .int .i64]] x1)]] fun r H' => (∃ l1 : List (List C), Q0 l1 ∧ r = .gr 1 ∧ H' = [.box 56 [.c (.sl [.int .i64, .int .i64, .sl [.int .i64, .int .i64]] x1)], .arr 24 [.int .i64, .int .i64, .sl [.int .i64, .int .i64]] l1]) := ACalls_vc mo h22 (w22  h)
theorem at28 (x1 : List (List C)) (x2 : List (Int × C)) (k t : Int) (K0 : Int → Prop) : spAt x1 x2 k t K0 → ACalls Try.prog 28 [.ptr 0 0, iC k, iC t] (heapL x1 x2) fun r H' => ∃ i, K0 i ∧ r = iC i ∧ H' = heapL x1 x2 := fun ⟨ps, hx, hv, hl0, hK0⟩ => ac28 (by
  subst hx
  have hl : ps.length ≤ 513 := by omega
  unfold vc28
  simp only [stdE, baseE, Br_iff, Imp_iff, bite_and, rowsP_len]
  simp only [Bool.and_eq_true, Bool.and_eq_false_iff, decide_eq_true_eq, decide_eq_false_iff_not, beq_iff_eq, beq_eq_false_iff_ne, true_and]
  refine LoopP2.run (fun j : Nat => sumTo (postK ps k t) j) (fun j => (j : Int)) (fun j => j ≤ ps.length) (fun j => ps.length - j) 0 (Nat.zero_le _) rfl rfl ?_
  intro j hj K hK
  simp only [toNat_cast, rowsP_c1, rowsP_c2, row2_len]
  refine ⟨fun h => ⟨by omega, ?_⟩, fun h => ?_⟩
  · obtain ⟨p, hp⟩ : ∃ p, ps.getD j zP = p := ⟨_, rfl⟩
    have hpv : chkP p = 0 := by
      rw [← hp, getD_get (show j < ps.length by omega)]
      exact hv _ (List.getElem_mem _)
    have hb := sumTo_abs (f := postK ps k t) (b := 16000000000000) (n := j) fun i _ => postK_b hv k t i
    have ho := chk_ok hpv
    have ep : postK ps k t j = if p.2.1 ≤ t then amtK p.2.2 k else 0 := by unfold postK; rw [hp]
    rw [hp]
    refine LoopP2.run (fun n : Nat => sumTo (postK ps k t) j + if p.2.1 ≤ t then sumTo (itemK p.2.2 k) n else 0) (fun n => (n : Int)) (fun n => n ≤ p.2.2.length) (fun n => p.2.2.length - n) 0 (Nat.zero_le _) (by simp [sumTo]) rfl ?_
    intro n hn K2 hK2
    simp only [toNat_cast, row2_c0, row2_c1, amt_fold, acc_fold]
    have hi := itemK_b (chk_amt hpv) k hn
    refine ⟨fun h2 => ⟨by omega, fun h3 => ?_, fun h3 => ?_⟩, fun h2 => ?_⟩
    · have ha := chk_amt hpv n (by omega)
      refine hK2 _ _ (n + 1) (by omega) (by omega) ?_ (wrap_up rfl (by omega))
      rw [if_pos h3.1, if_pos h3.1, sumTo, show itemK p.2.2 k n = amt p.2.2 n by unfold itemK; rw [if_pos h3.2]]
      rw [wrap_in (by omega) (by omega)]
      omega
    · refine hK2 _ _ (n + 1) (by omega) (by omega) ?_ (wrap_up rfl (by omega))
      by_cases h4 : p.2.1 ≤ t
      · have h5 : ¬ acc p.2.2 n = k := by
          rcases h3 with h3 | h3
          · exact absurd h4 h3
          · exact h3
        rw [if_pos h4, if_pos h4, sumTo, show itemK p.2.2 k n = 0 by unfold itemK; rw [if_neg h5]]
        omega
      · rw [if_neg h4, if_neg h4]
    · have e : n = p.2.2.length := by omega
      subst e
      refine hK _ _ (j + 1) (by omega) (by omega) ?_ (wrap_up rfl (by omega))
      rw [sumTo, ep]
      rfl
  · have e : j = ps.length := by omega
    subst e
    exact hK0)
theorem c28 : AtC Try.prog 28 := ⟨fnR_body h28 (by kernel_rfl), at28, fun k t K h => ac28N (by unfold vc28N; exact ⟨rfl, h⟩)⟩
theorem take_rows (ps : List PT) {n : Nat} (h : n < ps.length) : rowsP (ps.take n) ++ [rowP (ps.getD n zP)] = rowsP (ps.take (n + 1)) := by
  rw [getD_get h, List.take_succ_eq_append_getElem h, rowsP_app]
  rfl
theorem c21 : PgsC Try.prog 21 := ⟨fnR_body h21 (by kernel_rfl), fun x1 x2 K0 ⟨ps, hx, hv, hl, h0⟩ => ac21 (by
  subst hx
  unfold vc21
  simp only [stdE, baseE, Br_iff, rowsP_len, tbl21, forall_eq, decide_eq_true_eq, decide_eq_false_iff_not, true_and]
  refine LoopP2.run (fun n : Nat => rowsP (ps.take n)) (fun n => (n : Int)) (fun n => n ≤ ps.length) (fun n => ps.length - n) 0 (Nat.zero_le _) rfl rfl ?_
  intro n hn K hK
  simp only [toNat_cast, rowsP_c0, rowsP_c1, rowsP_c2]
  refine ⟨fun h => ?_, fun h => ?_⟩
  · have ho := chk_ok (hv _ (show ps.getD n zP ∈ ps by rw [getD_get (show n < ps.length by omega)]; exact List.getElem_mem _))
    simp only [p37 _ _ (c := row2 (ps.getD n zP).2.2) (by rw [row2_len]; omega), true_and]
    simp only [e37, List.getD_cons_zero, List.getD_cons_succ, gi_int, gl_sl]
    have l1 : ∀ r : List C, (([r] : List (List C)).length : Int) = 1 := fun _ => rfl
    refine ⟨by omega, by rw [rowsP_len, l1, List.length_take]; omega, hK _ _ (n + 1) (by omega) (by omega) ?_ (wrap_up rfl (by omega))⟩
    exact take_rows ps (by omega)
  · have e : n = ps.length := by omega
    subst e
    rwa [List.take_length]), fun K h => ac21N (by unfold vc21N; exact ⟨rfl, h⟩)⟩

theorem c22 : RPgsC Try.prog 22 := ⟨fnR_body h22 (by kernel_rfl), fun x1 K0 ⟨ps, hx, hv, hl, h0⟩ => ac22 (by
  subst hx
  unfold vc22
  simp only [stdE, baseE, Br_iff, rowsP_len, decide_eq_true_eq, decide_eq_false_iff_not, true_and, List.nil_append]
  refine LoopP2.run (fun n : Nat => rowsP (ps.take n)) (fun n => (n : Int)) (fun n => n ≤ ps.length) (fun n => ps.length - n) 0 (Nat.zero_le _) rfl rfl ?_
  intro n hn K hK
  simp only [toNat_cast, rowsP_c0, rowsP_c1, rowsP_c2, row2_len]
  refine ⟨fun h => ?_, fun h => ?_⟩
  · have ho := chk_ok (hv _ (show ps.getD n zP ∈ ps by rw [getD_get (show n < ps.length by omega)]; exact List.getElem_mem _))
    have l0 : (([] : List (List C)).length : Int) = 0 := rfl
    have l1 : ∀ r : List C, (([r] : List (List C)).length : Int) = 1 := fun _ => rfl
    refine ⟨by omega, by rw [l0]; omega, by rw [rowsP_len, l1, List.length_take]; omega, hK _ _ (n + 1) (by omega) (by omega) ?_ (wrap_up rfl (by omega))⟩
    exact take_rows ps (by omega)
  · have e : n = ps.length := by omega
    subst e
    rwa [List.take_length])⟩
end Go.Proofs.Ytlmllogbaacoeaa.V
