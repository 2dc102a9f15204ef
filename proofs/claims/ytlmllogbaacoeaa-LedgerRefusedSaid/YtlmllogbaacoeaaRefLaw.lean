/- Ledgers: a refused posting changes nothing. No conditions. -/
import Derived.Test.YtlmllogbaacoeaaGR
import Derived.Test.YtlmllogbaacoeaaAcc
import Derived.Test.YtlmllogbaacoeaaLed
import Derived.Test.YtlmllogbaacoeaaChkLaw
set_option linter.unusedVariables false
set_option linter.unusedSimpArgs false
namespace Go.Proofs.Ytlmllogbaacoeaa.V
open Go Go.Eng
set_option maxRecDepth 1000000
set_option maxHeartbeats 1000000
def S8 : List A → List C := fun _ => [.bool true]
theorem rows_take (ps : List PT) (n : Nat) : List.take n (rowsP ps) = rowsP (ps.take n) := by simp [rowsP, List.map_take]
def tbl8 : FuncId → List A → List C := fun f ds => match f with
  | 12 => S12 ds
  | 17 => S17 ds
  | 20 => S20 ds
  | 23 => S23 ds
  | 30 => S30 ds
  | _ => []
theorem pc8 (ce15 : NewC Try.prog 15) (ce18 : PostC Try.prog 18) (ce21 : PgsC Try.prog 21) (ce24 : AccC Try.prog 24) (ce26 : BalC Try.prog 26) {x1 : List (List C)} {x2 : Int} {x3 : Int} {x4 : List (List C)} {row : List C} (hS : S8 [.c (.sl [.int .i64, .int .i64, .sl [.int .i64, .int .i64]] x1), .agg [.c (.int .i64 x2), .c (.int .i64 x3), .c (.sl [.int .i64, .int .i64] x4)]] = row) (h : vc8 (stdE Try.prog tbl8) x1 x2 x3 x4 fun c => c = row) : PCg Try.prog 8 S8 [(false, [.bool])] [.c (.sl [.int .i64, .int .i64, .sl [.int .i64, .int .i64]] x1), .agg [.c (.int .i64 x2), .c (.int .i64 x3), .c (.sl [.int .i64, .int .i64] x4)]] := PureC_vc mo h8 (by kernel_rfl) hS (w8 ce15 ce18 ce21 ce24 ce26 h)
theorem p8 (qs : List PT) (q : PT) : PureC Try.prog 8 [kB] [sP (rowsP qs), paP q] fun _ => .bool true := by
  refine PureC.one (get := fun i => (S8 [sP (rowsP qs), paP q]).getD i .nil) (pc8 c15 c18 c21 c24 c26 (row := [.bool true]) rfl ?_) rfl
  unfold vc8 spNew
  simp only [stdE, baseE, Br_iff, Imp_iff, tbl8, forall_eq, rowsP_len, row2_len, bite_or, bite_and, Bool.or_false]
  have hwd : ¬ (40 : Int) < qs.length → PCg Try.prog 17 S17 [kB] [sP (rowsP qs)] := fun h => p17 (by omega)
  simp only [p12, implies_true, true_and]
  refine ⟨fun h => hwd (by simpa using h), ?_⟩
  simp only [e12, e17, List.getD_cons_zero, gb_bool, Bool.and_true, Bool.or_eq_true, Bool.or_eq_false_iff, Bool.not_eq_true', Bool.not_eq_false', Bool.and_eq_true, Bool.and_eq_false_iff, beq_iff_eq, beq_eq_false_iff_ne, decide_eq_true_eq, decide_eq_false_iff_not, implies_true, true_and]
  intro h
  have hl : qs.length ≤ 40 := by omega
  have hw := wide_no h.1.2
  have hq := h.2
  refine LoopP3.run (fun p : Nat × List (Int × C) => rowsP (led qs p.1)) (fun p => p.2) (fun p => (p.1 : Int)) (fun p => p.1 ≤ qs.length ∧ LInv (led qs p.1) p.2) (fun p => qs.length - p.1) (0, []) ⟨Nat.zero_le _, (led_ok qs 0).1, Nat.zero_le _, fun k => rfl⟩ rfl rfl rfl ?_
  rintro ⟨n, m⟩ ⟨hn, hm⟩ K hK
  dsimp only at hn hm ⊢
  have hk := led_ok qs n
  simp only [toNat_cast, rowsP_c0, rowsP_c1, rowsP_c2]
  refine ⟨fun h2 => ⟨by omega, led qs n, (qs.getD n zP).2.2, rfl, rfl, hm, fun he m' hm' => ?_, fun he m' hm' => ?_⟩, fun h2 => ?_⟩
  · refine hK _ _ _ (n + 1, m') ⟨by dsimp only; omega, ?_⟩ (by dsimp only; omega) ?_ rfl (wrap_up rfl (by omega))
    · show LInv (next (led qs n) (qs.getD n zP)) m'
      unfold next; rw [if_neg he]; exact hm'
    · show rowsP (led qs n) = rowsP (next (led qs n) (qs.getD n zP))
      unfold next; rw [if_neg he]
  · refine hK _ _ _ (n + 1, m') ⟨by dsimp only; omega, ?_⟩ (by dsimp only; omega) ?_ rfl (wrap_up rfl (by omega))
    · show LInv (next (led qs n) (qs.getD n zP)) m'
      unfold next; rw [if_pos he]; exact hm'
    · show rowsP (led qs n ++ [qs.getD n zP]) = rowsP (next (led qs n) (qs.getD n zP))
      unfold next; rw [if_pos he]
  · have hlen : (led qs n).length ≤ 40 := by omega
    obtain ⟨ps, hps⟩ : ∃ ps, led qs n = ps := ⟨_, rfl⟩
    rw [hps] at hm hk hlen ⊢
    have h16 : ∀ p ∈ ps, p.2.2.length ≤ 1000000 := fun p hp => by have := (chk_ok (hk.1 p hp)).2.2.2.2.2.1; omega
    refine ⟨ps, rfl, hk.1, by omega, ps, rfl, hk.1, by omega, fun ys zs hz hzm hzl hzt => ?_⟩
    have hcut : List.drop (0 : Int).toNat (List.take ((0 : Int) + (zs.length : Int)).toNat ys) = rowsI zs := by
      rw [show ((0 : Int) + (zs.length : Int)).toNat = zs.length by omega, hzt]; rfl
    have hzl2 : zs.length ≤ 1000000 := by
      have h1 := lt_len hz fun k hk => (hzm k).1 hk
      have h2 := accL_len hk.1
      omega
    simp only [hcut]
    refine LoopP2.run (fun i : Nat => rowsI ((q.2.2.take i).map fun x => bal ps x.1)) (fun i => (i : Int)) (fun i => i ≤ q.2.2.length) (fun i => q.2.2.length - i) 0 (Nat.zero_le _) rfl rfl ?_
    intro i hi K2 hK2
    simp only [toNat_cast, row2_c0]
    refine ⟨fun h4 => ⟨by omega, ?_⟩, fun h4 => ?_⟩
    · unfold spBal
      dsimp only
      rw [hm.2.2]
      refine ⟨by rw [rowsI_len, List.length_map, List.length_take, List.length_singleton]; omega, hK2 _ _ (i + 1) (by omega) (by omega) ?_ (wrap_up rfl (by omega))⟩
      rw [List.take_succ_eq_append_getElem (show i < q.2.2.length by omega), List.map_append, rowsI_app, getD_get (show i < q.2.2.length by omega)]
      rfl
    have e : i = q.2.2.length := by omega
    subst e
    rw [List.take_length]
    have hsame := p20 (ps := ps) (qs := ps) (by omega) h16
    refine ⟨ps, q.2.2, rfl, rfl, hm, fun he m' hm' => ?_, fun he m' hm' => ?_⟩
    · refine ⟨ps, rfl, hm'.1, by omega, fun h5 => absurd h5 he, fun _ => ?_⟩
      refine LoopP1.run (fun i : Nat => (i : Int)) (fun i => i ≤ q.2.2.length) (fun i => q.2.2.length - i) 0 (Nat.zero_le _) rfl ?_
      intro i hi K3 hK3
      simp only [toNat_cast, row2_c0, rowsI_len, rowsI_getD, List.length_map]
      refine ⟨fun h5 => ⟨by omega, by omega, ?_⟩, fun h5 => ?_⟩
      · unfold spBal
        dsimp only
        have hlt : i < q.2.2.length := by omega
        have e1 : (q.2.2.map fun x => bal ps x.1).getD i 0 = bal ps (q.2.2.getD i z2).1 := by
          rw [getD_get (by simpa using hlt), List.getElem_map, getD_get hlt]
        rw [hm'.2.2, e1]
        exact ⟨fun h6 => absurd rfl h6, fun _ => hK3 _ (i + 1) (by omega) (by omega) (wrap_up rfl (by omega))⟩
      · refine ⟨hsame, ?_⟩
        rw [e20]
        simp only [List.getD_cons_zero, gb_bool, decide_true, Bool.true_and, true_and]
        refine ⟨ps, rfl, hk.1, by omega, fun ys' ws hws hwm hwl hwt => ?_⟩
        have e : ws = zs := lt_uniq hws hz fun k => (hwm k).trans (hzm k).symm
        subst e
        have hcut' : List.drop (0 : Int).toNat (List.take ((0 : Int) + (ws.length : Int)).toNat ys') = rowsI ws := by
          rw [show ((0 : Int) + (ws.length : Int)).toNat = ws.length by omega, hwt]; rfl
        dsimp only
        rw [hcut']
        refine ⟨fun _ => p23 hzl2 ws, ?_⟩
        rw [e23]
        simp [gb_bool]
    · have he' : postE ps q = 0 := he
      have hl1 : (rowsP (ps ++ [q])).length = ps.length + 1 := by rw [rowsP_len]; simp
      refine ⟨ps ++ [q], rfl, hm'.1, by simp; omega, fun _ => ?_, fun h5 => absurd rfl h5⟩
      simp only [hl1, rowsP_len]
      have hc2 : List.drop (0 : Int).toNat (List.take ((0 : Int) + ((ps.length : Int) - 0)).toNat (rowsP (ps ++ [q]))) = rowsP ps := by
        rw [show ((0 : Int) + ((ps.length : Int) - 0)).toNat = ps.length by omega, rowsP_app, ← rowsP_len ps, List.take_left]; rfl
      have hg : (ps ++ [q]).getD ps.length zP = q := by simp [List.getD]
      simp only [hc2, rowsP_c0, rowsP_c1, rowsP_c2, toNat_cast, hg]
      have hone := p30 q q (by omega)
      refine ⟨fun _ => Int.le_refl _, fun _ => by omega, fun _ => by omega, fun _ => hsame, fun _ => by omega, fun _ => by omega, fun _ => hone, ?_⟩
      rw [e20, e30]
      rw [wrap_in (by omega) (by omega)]
      simp [gb_bool]
end Go.Proofs.Ytlmllogbaacoeaa.V
