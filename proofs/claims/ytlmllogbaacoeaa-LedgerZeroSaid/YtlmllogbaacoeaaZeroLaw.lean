/- Ledgers: all balances add up to zero. No conditions. -/
import Derived.Test.YtlmllogbaacoeaaGZ
import Derived.Test.YtlmllogbaacoeaaZeroP
import Derived.Test.YtlmllogbaacoeaaChkLaw
set_option linter.unusedVariables false
set_option linter.unusedSimpArgs false
namespace Go.Proofs.Ytlmllogbaacoeaa.V
open Go Go.Eng
set_option maxRecDepth 1000000
set_option maxHeartbeats 1000000
def S6 : List A → List C := fun _ => [.bool true]
def tbl6 : FuncId → List A → List C := fun f ds => match f with
  | 12 => S12 ds
  | 17 => S17 ds
  | _ => []
theorem pc6 (ce15 : NewC Try.prog 15) (ce18 : PostC Try.prog 18) (ce24 : AccDC Try.prog 24) (ce26 : BalC Try.prog 26) (ce28 : AtC Try.prog 28) {x1 : List (List C)} {x2 : Int} {row : List C} (hS : S6 [.c (.sl [.int .i64, .int .i64, .sl [.int .i64, .int .i64]] x1), .c (.int .i64 x2)] = row) (h : vc6 (stdE Try.prog tbl6) x1 x2 fun c => c = row) : PCg Try.prog 6 S6 [(false, [.bool])] [.c (.sl [.int .i64, .int .i64, .sl [.int .i64, .int .i64]] x1), .c (.int .i64 x2)] := PureC_vc mo h6 (by kernel_rfl) hS (w6 ce15 ce18 ce24 ce26 ce28 h)
theorem p6 (qs : List PT) (t : Int) : PureC Try.prog 6 [kB] [sP (rowsP qs), iC t] fun _ => .bool true := by
  refine PureC.one (get := fun i => (S6 [sP (rowsP qs), iC t]).getD i .nil) (pc6 c15 c18 cd24 c26 c28 (row := [.bool true]) rfl ?_) rfl
  unfold vc6 spNew
  simp only [stdE, baseE, Br_iff, Imp_iff, tbl6, forall_eq, rowsP_len, bite_or, bite_and, Bool.or_false]
  have hwd : ¬ (80 : Int) < qs.length → PCg Try.prog 17 S17 [kB] [sP (rowsP qs)] := fun h => p17 (by omega)
  simp only [p12, implies_true, true_and]
  refine ⟨fun h => hwd (by simpa using h), ?_⟩
  simp only [e12, e17, List.getD_cons_zero, gb_bool, Bool.and_true, Bool.or_eq_true, Bool.or_eq_false_iff, Bool.not_eq_true', Bool.not_eq_false', Bool.and_eq_true, Bool.and_eq_false_iff, beq_iff_eq, beq_eq_false_iff_ne, decide_eq_true_eq, decide_eq_false_iff_not, implies_true, true_and]
  intro h
  have hl : qs.length ≤ 80 := by omega
  have hw := wide_no h.2
  refine LoopP3.run (fun p : Nat × List (Int × C) => rowsP (led qs p.1)) (fun p => p.2) (fun p => (p.1 : Int)) (fun p => p.1 ≤ qs.length ∧ LInv (led qs p.1) p.2) (fun p => qs.length - p.1) (0, []) ⟨Nat.zero_le _, (led_ok qs 0).1, Nat.zero_le _, fun k => rfl⟩ rfl rfl rfl ?_
  rintro ⟨n, m⟩ ⟨hn, hm⟩ K hK
  dsimp only at hn hm ⊢
  have hk := led_ok qs n
  simp only [toNat_cast, rowsP_c0, rowsP_c1, rowsP_c2]
  refine ⟨fun h2 => ⟨by omega, led qs n, (qs.getD n zP).2.2, rfl, rfl, hm, fun he m' hm' => ?_, fun he m' hm' => ?_⟩, fun h2 => ?_⟩
  · refine hK _ _ _ (n + 1, m') ⟨by dsimp only; omega, ?_⟩ (by dsimp only; omega) ?_ rfl (wrap_up rfl (by omega))
    · show LInv (next (led qs n) (qs.getD n zP)) m'
      unfold next; rw [if_neg he]; exact hm'
    · show rowsP (led qs n) = rowsP (next (led qs n) (qs.getD n zP))
      unfold next; rw [if_neg he]
  · refine hK _ _ _ (n + 1, m') ⟨by dsimp only; omega, ?_⟩ (by dsimp only; omega) ?_ rfl (wrap_up rfl (by omega))
    · show LInv (next (led qs n) (qs.getD n zP)) m'
      unfold next; rw [if_pos he]; exact hm'
    · show rowsP (led qs n ++ [qs.getD n zP]) = rowsP (next (led qs n) (qs.getD n zP))
      unfold next; rw [if_pos he]
  · have hr := led_inR qs n
    have hlen : (led qs n).length ≤ 80 := by omega
    obtain ⟨ps, hps⟩ : ∃ ps, led qs n = ps := ⟨_, rfl⟩
    rw [hps] at hm hk hr hlen ⊢
    refine ⟨ps, rfl, hk.1, by omega, fun zs hz hzm => ?_⟩
    have hzl : zs.length ≤ 1280 := by
      have h1 := lt_len hz fun k hk => (hzm k).1 hk
      have h2 := accL_len hk.1
      omega
    simp only [rowsI_len]
    refine ⟨fun h3 => by omega, fun h3 => ?_⟩
    have hnd := lt_nodup hz
    have hs1 := sumL_bal hnd 2147483647 hk.1 fun k hk => (hzm k).2 hk
    have hs2 := sumL_bal hnd t hk.1 fun k hk => (hzm k).2 hk
    refine LoopP3.run (fun i : Nat => sumL (fun k => balT ps k 2147483647) (zs.take i)) (fun i => sumL (fun k => balT ps k t) (zs.take i)) (fun i => (i : Int)) (fun i => i ≤ zs.length) (fun i => zs.length - i) 0 (Nat.zero_le _) rfl rfl rfl ?_
    intro i hi K2 hK2
    simp only [rowsI_getD, toNat_cast, Int.zero_add]
    refine ⟨fun h4 => ⟨by omega, ?_⟩, fun h4 => ?_⟩
    · obtain ⟨a, ha⟩ : ∃ a, zs.getD i 0 = a := ⟨_, rfl⟩
      have hb := hm.2.2 a
      have hra := hr a
      rw [ha]
      unfold spBal
      dsimp only
      rw [hb]
      have hlt : 0 < i → (IntKind.i64.wrap ((i : Int) - 1)).toNat = i - 1 := fun h => by rw [wrap_in (by omega) (by omega)]; omega
      have hltw : 0 < i → IntKind.i64.wrap ((i : Int) - 1) = ((i - 1 : Nat) : Int) := fun h => by rw [wrap_in (by omega) (by omega)]; omega
      have hord : 0 < i → zs.getD (i - 1) 0 < a := fun h => by
        rw [← ha, getD_get (show i < zs.length by omega), getD_get (show i - 1 < zs.length by omega)]
        exact List.pairwise_iff_getElem.1 hz (i - 1) i (by omega) (by omega) (by omega)
      refine ⟨ps, rfl, hk.1, by omega, fun h5 => by rw [hltw (by omega)]; omega, fun h5 => by rw [hltw (by omega)]; omega, ?_, ps, rfl, hk.1, by omega, ?_, fun _ => ?_⟩
      · refine ⟨⟨?_, by omega⟩, by omega⟩
        by_cases h6 : 0 < i
        · right; rw [hlt h6]; have := hord h6; omega
        · left; omega
      · intro h6
        exfalso
        rcases h6 with ((h6 | h6) | h6) | h6
        · rw [hlt (by omega)] at h6
          have := hord (by omega)
          omega
        · omega
        · omega
        · exact h6 rfl
      · have hpb := sumL_abs (f := fun k => balT ps k 2147483647) (b := 1280000000000000) (l := zs.take i) fun k _ => balT_b hk.1 hlen k _
        have hpt := sumL_abs (f := fun k => balT ps k t) (b := 1280000000000000) (l := zs.take i) fun k _ => balT_b hk.1 hlen k t
        rw [List.length_take, Nat.min_eq_left hi] at hpb hpt
        have hat := balT_b hk.1 hlen a t
        have hub : (i : Int) * 1280000000000000 ≤ 1638400000000000000 := by omega
        refine hK2 _ _ _ (i + 1) (by omega) (by omega) ?_ ?_ (wrap_up rfl (by omega))
        · rw [sumL_take _ (by omega), ha]
          exact wrap_in (by omega) (by omega)
        · rw [sumL_take _ (by omega), ha]
          exact wrap_in (by omega) (by omega)
    · have e : i = zs.length := by omega
      subst e
      rw [List.take_length, hs1, hs2]
      simp
end Go.Proofs.Ytlmllogbaacoeaa.V
