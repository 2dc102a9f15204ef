/- Warehouses: Find, Bay and Oldest return the specified answers. No conditions. -/
import Derived.Test.YtniijahjfbgfpaaGD
import Derived.Test.YtniijahjfbgfpaaCallsLaw
set_option linter.unusedVariables false
set_option linter.unusedSimpArgs false
namespace Go.Proofs.Ytniijahjfbgfpaa.V
open Go Go.Eng
set_option maxRecDepth 1000000
set_option maxHeartbeats 1000000
def S4 : List A → List C := fun _ => [.bool true]
def tbl4 : FuncId → List A → List C := fun f ds => match f with
  | 11 => S11 ds
  | 19 => S19 ds
  | 20 => S20 ds
  | 21 => S21 ds
  | 22 => S22 ds
  | 23 => S23 ds
  | _ => []
theorem pc4 (ce10 : BeginC Try.prog 10) (ce12 : DoC Try.prog 12) (ce13 : MustC Try.prog 13) (ce17 : BayC Try.prog 17) (ce18 : RBayC Try.prog 18) {x1 : List (List C)} {x2 : List (List C)} {x3 : List (List C)} {row : List C} (hS : S4 [.c (.sl [.int .i64, .int .i64] x1), .c (.sl [.int .i64, .int .i64, .int .i64, .int .i64, .int .i64] x2), .c (.sl [.int .i64] x3)] = row) (h : vc4 (stdE Try.prog tbl4) x1 x2 x3 fun c => c = row) : PCg Try.prog 4 S4 [(false, [.bool])] [.c (.sl [.int .i64, .int .i64] x1), .c (.sl [.int .i64, .int .i64, .int .i64, .int .i64, .int .i64] x2), .c (.sl [.int .i64] x3)] := PureC_vc mo h4 (by kernel_rfl) hS (w4 ce10 ce12 ce13 ce17 ce18 h)
theorem p4 (bs : List I2) (l : List I5) (ks : List Int) : PureC Try.prog 4 [kB] [s2 (row2 bs), s5 (row5 l), sI (rowsI ks)] fun _ => .bool true := by
  refine PureC.one (get := fun i => (S4 [s2 (row2 bs), s5 (row5 l), sI (rowsI ks)]).getD i .nil) (pc4 c10 c12 c13 c17 c18 (row := [.bool true]) rfl ?_) rfl
  unfold vc4 spBegin
  simp only [stdE, baseE, Br_iff, Imp_iff, tbl4, forall_eq, row5_len, row2_len, rowsI_len]
  simp only [p11, implies_true, true_and]
  simp only [e11, List.getD_cons_zero, gb_bool, decide_eq_true_eq, decide_eq_false_iff_not]
  refine ⟨bs, rfl, by simp, fun hl he => ⟨by simp, fun hc => ?_⟩⟩
  simp only [Bool.not_true, Bool.false_eq_true, if_false, bite_orP, Bool.decide_eq_true, Bool.or_eq_false_iff, Bool.decide_eq_false, decide_eq_false_iff_not, beq_eq_false_iff_ne, decide_false, Bool.false_or] at hc
  have hk0 : ks.length ≠ 0 := by have := hc.1; omega
  have hk1 : ks.length ≤ 60 := by have := hc.2; omega
  have hw0 := Wh.nil he
  have hbl := hw0.inv.bl
  refine LoopP6.run (fun g : (List (Int × List C) × Int × Int) × List I5 × Nat => g.1.1) (fun g => g.1.2.1) (fun g => g.1.2.2) (fun g => row4 (g.2.1.map itm)) (fun g => g.1.2.2) (fun g => (g.2.2 : Int)) (fun g => g.2.2 ≤ l.length ∧ Wh bs g.1.1 g.1.2.1 g.1.2.2 g.2.1 ∧ g.1.2.1 ≤ g.2.2) (fun g => l.length - g.2.2) (([], 0, 0), [], 0) ⟨Nat.zero_le _, hw0, Int.le_refl _⟩ rfl rfl rfl rfl rfl rfl ?_
  rintro ⟨⟨es, tn, la⟩, hs, n⟩ ⟨hn, hw, htn⟩ K hK
  dsimp only at hn hw htn ⊢
  refine ⟨fun h => ⟨by omega, ?_⟩, fun h => ?_⟩
  · simp only [toNat_cast, row5_c0, row5_c1, row5_c2, row5_c3, row5_c4]
    generalize l.getD n z5 = op
    have ht1 := opO_tn bs hs tn la op.1 op.2.1 op.2.2.1 op.2.2.2.1 op.2.2.2.2
    refine ⟨bs, hs, rfl, hw, by omega, fun es' hw' => ⟨bs, hs, tn, ⟨rfl, rfl, tn, hw.inv, by omega⟩, ?_⟩⟩
    generalize opO bs hs tn la op.1 op.2.1 op.2.2.1 op.2.2.2.1 op.2.2.2.2 = o at hw' ht1
    exact hK _ _ _ _ _ _ ((es', o.tn, o.la), o.hs, n + 1) ⟨by dsimp only; omega, hw', by dsimp only; omega⟩ (by dsimp only; omega) rfl rfl rfl rfl rfl (wrap_up rfl (by omega))
  · have hr : RSt bs (row2 bs) (row4 (hs.map itm)) la hs := ⟨rfl, rfl, tn, hw.inv, by omega⟩
    obtain ⟨l4, n4⟩ := hr.l4
    simp only [show Int.toNat 0 = 0 from rfl, rowsI_getD]
    generalize ks.getD 0 0 = k
    refine ⟨by omega, by omega, p20 .., p21 _ l4 n4 .., ?_⟩
    refine ⟨bs, hs, rfl, hw, by omega, bs, hs, hr, p22 _ _ _ _ (by omega), p23 _ l4 _ (by omega), fun _ => p19 (by have := bay_len hw.inv (by omega) k; omega) _, ?_⟩
    rw [e20, find_same hw, e21, e22, old_same hw, e23, e19]
    simp [gb_bool]
end Go.Proofs.Ytniijahjfbgfpaa.V
