/- Ledgers: what is said of balances. No conditions. -/
import Derived.Test.YtlmllogbaacoeaaGC
import Derived.Test.YtlmllogbaacoeaaChkLaw
set_option linter.unusedVariables false
set_option linter.unusedSimpArgs false
namespace Go.Proofs.Ytlmllogbaacoeaa.V
open Go Go.Eng
set_option maxRecDepth 1000000
set_option maxHeartbeats 1000000
/-- The postings of a ledger after the first n were posted. -/
def led (qs : List PT) : Nat → List PT
  | 0 => []
  | n + 1 => next (led qs n) (qs.getD n zP)
theorem next_ok {ps : List PT} {p : PT} (h : ∀ q ∈ ps, chkP q = 0) : ∀ q ∈ next ps p, chkP q = 0 := by
  unfold next
  split
  · rename_i he
    intro q hq
    rcases List.mem_append.1 hq with hq | hq
    · exact h q hq
    · rw [List.mem_singleton.1 hq]
      unfold postE at he
      split at he
      · rename_i h1; exact absurd he h1
      · rename_i h1; simpa using h1
  · exact h
theorem next_len (ps : List PT) (p : PT) : (next ps p).length ≤ ps.length + 1 := by
  unfold next
  split
  · simp
  · omega
theorem led_ok (qs : List PT) : ∀ n, (∀ q ∈ led qs n, chkP q = 0) ∧ (led qs n).length ≤ n
  | 0 => ⟨(fun q hq => by cases hq), Nat.le_refl _⟩
  | n + 1 => ⟨next_ok (led_ok qs n).1, Nat.le_trans (next_len _ _) (by have := (led_ok qs n).2; omega)⟩
def S5 : List A → List C := fun _ => [.bool true]
def tbl5 : FuncId → List A → List C := fun f ds => match f with
  | 12 => S12 ds
  | 17 => S17 ds
  | _ => []
theorem pc5 (ce15 : NewC Try.prog 15) (ce16 : RNewC Try.prog 16) (ce18 : PostC Try.prog 18) (ce19 : RPostC Try.prog 19) (ce26 : BalC Try.prog 26) (ce27 : RBalC Try.prog 27) (ce28 : AtC Try.prog 28) (ce29 : RAtC Try.prog 29) {x1 : List (List C)} {x2 : Int} {x3 : Int} {row : List C} (hS : S5 [.c (.sl [.int .i64, .int .i64, .sl [.int .i64, .int .i64]] x1), .c (.int .i64 x2), .c (.int .i64 x3)] = row) (h : vc5 (stdE Try.prog tbl5) x1 x2 x3 fun c => c = row) : PCg Try.prog 5 S5 [(false, [.bool])] [.c (.sl [.int .i64, .int .i64, .sl [.int .i64, .int .i64]] x1), .c (.int .i64 x2), .c (.int .i64 x3)] := PureC_vc mo h5 (by kernel_rfl) hS (w5 ce15 ce16 ce18 ce19 ce26 ce27 ce28 ce29 h)
theorem p5 (qs : List PT) (k t : Int) : PureC Try.prog 5 [kB] [sP (rowsP qs), iC k, iC t] fun _ => .bool true := by
  refine PureC.one (get := fun i => (S5 [sP (rowsP qs), iC k, iC t]).getD i .nil) (pc5 c15 c16 c18 c19 c26 c27 c28 c29 (row := [.bool true]) rfl ?_) rfl
  unfold vc5 spNew spRNew
  simp only [stdE, baseE, Br_iff, Imp_iff, tbl5, forall_eq, rowsP_len, bite_or, bite_and, Bool.or_false]
  have hwd : ¬ (80 : Int) < qs.length → PCg Try.prog 17 S17 [kB] [sP (rowsP qs)] := fun h => p17 (by omega)
  simp only [p12, implies_true, true_and]
  refine ⟨fun h => hwd (by simpa using h), ?_⟩
  simp only [e12, e17, List.getD_cons_zero, gb_bool, Bool.and_true, Bool.or_eq_true, Bool.or_eq_false_iff, Bool.not_eq_true', decide_eq_true_eq, decide_eq_false_iff_not, implies_true, true_and]
  intro h
  have hl : qs.length ≤ 80 := by omega
  have hw := wide_no h.2
  refine LoopP4.run (fun p : Nat × List (Int × C) => rowsP (led qs p.1)) (fun p => p.2) (fun p => rowsP (led qs p.1)) (fun p => (p.1 : Int)) (fun p => p.1 ≤ qs.length ∧ LInv (led qs p.1) p.2) (fun p => qs.length - p.1) (0, []) ⟨Nat.zero_le _, (led_ok qs 0).1, Nat.zero_le _, fun k => rfl⟩ rfl rfl rfl rfl ?_
  rintro ⟨n, m⟩ ⟨hn, hm⟩ K hK
  dsimp only at hn hm ⊢
  have hk := led_ok qs n
  simp only [toNat_cast, rowsP_c0, rowsP_c1, rowsP_c2]
  refine ⟨fun h2 => ⟨by omega, ?_⟩, fun h2 => ?_⟩
  · have hi : (qs.getD n zP).2.2.length ≤ 1000000 := by
      have := hw (qs.getD n zP) (by rw [getD_get (show n < qs.length by omega)]; exact List.getElem_mem _)
      omega
    refine ⟨led qs n, (qs.getD n zP).2.2, rfl, rfl, hm, fun he m' hm' => ?_, fun he m' hm' => ?_⟩
    · refine ⟨led qs n, (qs.getD n zP).2.2, rfl, rfl, hk.1, by omega, hi, hK _ _ _ _ (n + 1, m') ⟨by dsimp only; omega, ?_⟩ (by dsimp only; omega) ?_ rfl rfl (wrap_up rfl (by omega))⟩
      · show LInv (next (led qs n) (qs.getD n zP)) m'
        unfold next; rw [if_neg he]; exact hm'
      · show rowsP (led qs n) = rowsP (next (led qs n) (qs.getD n zP))
        unfold next; rw [if_neg he]
    · refine ⟨led qs n, (qs.getD n zP).2.2, rfl, rfl, hk.1, by omega, hi, hK _ _ _ _ (n + 1, m') ⟨by dsimp only; omega, ?_⟩ (by dsimp only; omega) ?_ rfl rfl (wrap_up rfl (by omega))⟩
      · show LInv (next (led qs n) (qs.getD n zP)) m'
        unfold next; rw [if_pos he]; exact hm'
      · show rowsP (led qs n ++ [qs.getD n zP]) = rowsP (next (led qs n) (qs.getD n zP))
        unfold next; rw [if_pos he]
  · refine ⟨led qs n, rfl, hk.1, by omega, ?_⟩
    have hb := hm.2.2 k
    refine ⟨by simpa using hb, led qs n, rfl, hk.1, by omega, by simpa using hb, led qs n, rfl, hk.1, by omega, ?_⟩
    rw [hb]
    simp
end Go.Proofs.Ytlmllogbaacoeaa.V
