/- Ledgers: what is posted. No conditions. -/
import Derived.Test.YtlmllogbaacoeaaGP
import Derived.Test.YtlmllogbaacoeaaAcc
import Derived.Test.YtlmllogbaacoeaaChkLaw
import Derived.Test.YtlmllogbaacoeaaLed
set_option linter.unusedVariables false
set_option linter.unusedSimpArgs false
namespace Go.Proofs.Ytlmllogbaacoeaa.V
open Go Go.Eng
set_option maxRecDepth 1000000
set_option maxHeartbeats 1000000
def S4 : List A → List C := fun _ => [.bool true]
def tbl4 : FuncId → List A → List C := fun f ds => match f with
  | 12 => S12 ds
  | 17 => S17 ds
  | 20 => S20 ds
  | 23 => S23 ds
  | _ => []
theorem pc4 (ce15 : NewC Try.prog 15) (ce16 : RNewC Try.prog 16) (ce18 : PostC Try.prog 18) (ce19 : RPostC Try.prog 19) (ce21 : PgsC Try.prog 21) (ce22 : RPgsC Try.prog 22) (ce24 : AccC Try.prog 24) (ce25 : RAccC Try.prog 25) {x1 : List (List C)} {row : List C} (hS : S4 [.c (.sl [.int .i64, .int .i64, .sl [.int .i64, .int .i64]] x1)] = row) (h : vc4 (stdE Try.prog tbl4) x1 fun c => c = row) : PCg Try.prog 4 S4 [(false, [.bool])] [.c (.sl [.int .i64, .int .i64, .sl [.int .i64, .int .i64]] x1)] := PureC_vc mo h4 (by kernel_rfl) hS (w4 ce15 ce16 ce18 ce19 ce21 ce22 ce24 ce25 h)
theorem p4 (qs : List PT) : PureC Try.prog 4 [kB] [sP (rowsP qs)] fun _ => .bool true := by
  refine PureC.one (get := fun i => (S4 [sP (rowsP qs)]).getD i .nil) (pc4 c15 c16 c18 c19 c21 c22 c24 c25 (row := [.bool true]) rfl ?_) rfl
  unfold vc4 spNew spRNew
  simp only [stdE, baseE, Br_iff, Imp_iff, tbl4, forall_eq, rowsP_len, bite_or, bite_and, Bool.or_false]
  have hwd : ¬ (80 : Int) < qs.length → PCg Try.prog 17 S17 [kB] [sP (rowsP qs)] := fun h => p17 (by omega)
  simp only [p12, implies_true, true_and]
  refine ⟨fun h => hwd (by simpa using h), ?_⟩
  simp only [e12, e17, List.getD_cons_zero, gb_bool, Bool.and_true, Bool.or_eq_true, Bool.or_eq_false_iff, Bool.not_eq_true', Bool.not_eq_false', beq_iff_eq, beq_eq_false_iff_ne, decide_eq_true_eq, decide_eq_false_iff_not, implies_true, true_and]
  intro h
  have hl : qs.length ≤ 80 := by omega
  have hw := wide_no h.2
  refine LoopP4.run (fun p : Nat × List (Int × C) => rowsP (led qs p.1)) (fun p => p.2) (fun p => rowsP (led qs p.1)) (fun p => (p.1 : Int)) (fun p => p.1 ≤ qs.length ∧ LInv (led qs p.1) p.2) (fun p => qs.length - p.1) (0, []) ⟨Nat.zero_le _, (led_ok qs 0).1, Nat.zero_le _, fun k => rfl⟩ rfl rfl rfl rfl ?_
  rintro ⟨n, m⟩ ⟨hn, hm⟩ K hK
  dsimp only at hn hm ⊢
  have hk := led_ok qs n
  simp only [toNat_cast, rowsP_c0, rowsP_c1, rowsP_c2]
  refine ⟨fun h2 => ⟨by omega, ?_⟩, fun h2 => ?_⟩
  · have hi : (qs.getD n zP).2.2.length ≤ 1000000 := by
      have := hw (qs.getD n zP) (by rw [getD_get (show n < qs.length by omega)]; exact List.getElem_mem _)
      omega
    refine ⟨led qs n, (qs.getD n zP).2.2, rfl, rfl, hm, fun he m' hm' => ?_, fun he m' hm' => ?_⟩
    · refine ⟨led qs n, (qs.getD n zP).2.2, rfl, rfl, hk.1, by omega, hi, fun hx => absurd rfl hx, fun _ => hK _ _ _ _ (n + 1, m') ⟨by dsimp only; omega, ?_⟩ (by dsimp only; omega) ?_ rfl rfl (wrap_up rfl (by omega))⟩
      · show LInv (next (led qs n) (qs.getD n zP)) m'
        unfold next; rw [if_neg he]; exact hm'
      · show rowsP (led qs n) = rowsP (next (led qs n) (qs.getD n zP))
        unfold next; rw [if_neg he]
    · refine ⟨led qs n, (qs.getD n zP).2.2, rfl, rfl, hk.1, by omega, hi, fun hx => absurd he.symm hx, fun _ => hK _ _ _ _ (n + 1, m') ⟨by dsimp only; omega, ?_⟩ (by dsimp only; omega) ?_ rfl rfl (wrap_up rfl (by omega))⟩
      · show LInv (next (led qs n) (qs.getD n zP)) m'
        unfold next; rw [if_pos he]; exact hm'
      · show rowsP (led qs n ++ [qs.getD n zP]) = rowsP (next (led qs n) (qs.getD n zP))
        unfold next; rw [if_pos he]
  · refine ⟨led qs n, rfl, hk.1, by omega, led qs n, rfl, hk.1, by omega, p20 (by omega) (fun p hp => by have := (chk_ok (hk.1 p hp)).2.2.2.2.2.1; omega), ?_⟩
    rw [e20]
    simp only [List.getD_cons_zero, gb_bool, decide_true, Bool.true_and, true_and]
    refine ⟨led qs n, rfl, hk.1, by omega, fun ys zs hz hzm hzl hzt => ⟨led qs n, rfl, hk.1, by omega, fun ws hws hwm => ?_⟩⟩
    have e : ws = zs := lt_uniq hws hz fun k => (hwm k).trans (hzm k).symm
    subst e
    have hcut : List.drop (0 : Int).toNat (List.take ((0 : Int) + (ws.length : Int)).toNat ys) = rowsI ws := by
      rw [show ((0 : Int) + (ws.length : Int)).toNat = ws.length by omega, hzt]; rfl
    have hwl : ws.length ≤ 1000000 := by
      have h1 := lt_len hws fun k hk => (hwm k).1 hk
      have h2 := accL_len hk.1
      omega
    rw [hcut]
    dsimp only
    refine ⟨fun _ => p23 hwl ws, ?_⟩
    rw [e23]
    simp [gb_bool]
end Go.Proofs.Ytlmllogbaacoeaa.V
