/- Warehouses: the specified results; a nil warehouse. No conditions. -/
import Derived.Test.YtniijahjfbgfpaaGC
import Derived.Test.YtniijahjfbgfpaaLaw
set_option linter.unusedVariables false
set_option linter.unusedSimpArgs false
namespace Go.Proofs.Ytniijahjfbgfpaa.V
open Go Go.Eng
set_option maxRecDepth 1000000
set_option maxHeartbeats 1000000
def S9 : List A → List C := fun _ => [.bool true]
def S3 : List A → List C := fun _ => [.bool true]
def tbl9 : FuncId → List A → List C := fun f ds => match f with
  | 11 => S11 ds
  | 20 => S20 ds
  | 22 => S22 ds
  | _ => []
theorem pc9 (ce12 : DoC Try.prog 12) (ce15 : FreeC Try.prog 15) (ce17 : BayC Try.prog 17) {x1 : Int} {x2 : Int} {x3 : Int} {x4 : Int} {x5 : Int} {row : List C} (hS : S9 [.agg [.c (.int .i64 x1), .c (.int .i64 x2), .c (.int .i64 x3), .c (.int .i64 x4), .c (.int .i64 x5)]] = row) (h : vc9 (stdE Try.prog tbl9) x1 x2 x3 x4 x5 fun c => c = row) : PCg Try.prog 9 S9 [(false, [.bool])] [.agg [.c (.int .i64 x1), .c (.int .i64 x2), .c (.int .i64 x3), .c (.int .i64 x4), .c (.int .i64 x5)]] := PureC_vc mo h9 (by kernel_rfl) hS (w9 ce12 ce15 ce17 h)
def tbl3 : FuncId → List A → List C := fun f ds => match f with
  | 11 => S11 ds
  | 14 => S14 ds
  | 19 => S19 ds
  | _ => []
theorem pc3 (ce10 : BeginC Try.prog 10) (ce12 : DoC Try.prog 12) (ce13 : MustC Try.prog 13) (ce15 : FreeC Try.prog 15) (ce16 : RFreeC Try.prog 16) (ce17 : BayC Try.prog 17) (ce18 : RBayC Try.prog 18) {x1 : List (List C)} {x2 : List (List C)} {row : List C} (hS : S3 [.c (.sl [.int .i64, .int .i64] x1), .c (.sl [.int .i64, .int .i64, .int .i64, .int .i64, .int .i64] x2)] = row) (h : vc3 (stdE Try.prog tbl3) x1 x2 fun c => c = row) : PCg Try.prog 3 S3 [(false, [.bool])] [.c (.sl [.int .i64, .int .i64] x1), .c (.sl [.int .i64, .int .i64, .int .i64, .int .i64, .int .i64] x2)] := PureC_vc mo h3 (by kernel_rfl) hS (w3 ce10 ce12 ce13 ce15 ce16 ce17 ce18 h)
theorem p9 (k r w b t : Int) : PureC Try.prog 9 [kB] [opA k r w b t] fun _ => .bool true := by
  refine PureC.one (get := fun i => (S9 [opA k r w b t]).getD i .nil) (pc9 c12 c15 c17 (row := [.bool true]) rfl ?_) rfl
  unfold vc9 spNil5 spNil1 spNil0
  simp only [stdE, baseE, Br_iff, Imp_iff, tbl9, forall_eq]
  have h1 := p20N r
  have h2 := p22N [[.int .i64 r]]
  simp only [h1, h2, p11, implies_true, true_and]
  simp only [e11, e20N, e22N, List.getD_cons_zero, List.getD_cons_succ, gb_bool, gi_int]
  simp
/-! ### The calls -/
theorem free_len (bs : List I2) (hs : List I5) : (freeL bs hs).length = bs.length := by simp [freeL]
theorem bay_len {bs : List I2} {tn la : Int} {hs : List I5} (h : Inv bs tn la hs) (ht : tn ≤ 1000) (b : Int) : (bayL bs hs b).length ≤ 1000 := by
  unfold bayL
  split
  · rw [List.length_map]
    have := List.length_filter_le (fun h => decide (bayOf h = b)) hs
    have := h.ln
    omega
  · simp
theorem p3 (bs : List I2) (l : List I5) : PureC Try.prog 3 [kB] [s2 (row2 bs), s5 (row5 l)] fun _ => .bool true := by
  refine PureC.one (get := fun i => (S3 [s2 (row2 bs), s5 (row5 l)]).getD i .nil) (pc3 c10 c12 c13 c15 c16 c17 c18 (row := [.bool true]) rfl ?_) rfl
  unfold vc3 spBegin
  simp only [stdE, baseE, Br_iff, Imp_iff, tbl3, forall_eq, row5_len, row2_len]
  simp only [p11, implies_true, true_and]
  simp only [e11, List.getD_cons_zero, gb_bool, decide_eq_true_eq, decide_eq_false_iff_not]
  refine ⟨bs, rfl, by simp, fun hl he => ?_⟩
  simp only [Bool.not_true, Bool.false_eq_true, if_false, false_implies, true_and, true_implies]
  have hw0 := Wh.nil he
  have hbl := hw0.inv.bl
  refine LoopP6.run (fun g : (List (Int × List C) × Int × Int) × List I5 × Nat => g.1.1) (fun g => g.1.2.1) (fun g => g.1.2.2) (fun g => row4 (g.2.1.map itm)) (fun g => g.1.2.2) (fun g => (g.2.2 : Int)) (fun g => g.2.2 ≤ l.length ∧ Wh bs g.1.1 g.1.2.1 g.1.2.2 g.2.1 ∧ g.1.2.1 ≤ g.2.2) (fun g => l.length - g.2.2) (([], 0, 0), [], 0) ⟨Nat.zero_le _, hw0, Int.le_refl _⟩ rfl rfl rfl rfl rfl rfl ?_
  rintro ⟨⟨es, tn, la⟩, hs, n⟩ ⟨hn, hw, htn⟩ K hK
  dsimp only at hn hw htn ⊢
  refine ⟨fun h => ⟨by omega, ?_⟩, fun h => ?_⟩
  · simp only [toNat_cast, row5_c0, row5_c1, row5_c2, row5_c3, row5_c4]
    generalize l.getD n z5 = op
    have ht1 := opO_tn bs hs tn la op.1 op.2.1 op.2.2.1 op.2.2.2.1 op.2.2.2.2
    refine ⟨bs, hs, rfl, hw, by omega, fun es' hw' => ⟨bs, hs, tn, ⟨rfl, rfl, tn, hw.inv, by omega⟩, ?_⟩⟩
    generalize opO bs hs tn la op.1 op.2.1 op.2.2.1 op.2.2.2.1 op.2.2.2.2 = o at hw' ht1
    refine ⟨by simp, bs, o.hs, rfl, hw', by omega, by simp, bs, o.hs, ⟨rfl, rfl, o.tn, hw'.inv, by omega⟩, fun _ => p14 (by rw [free_len]; omega) _, ?_⟩
    rw [e14]
    refine ⟨fun c => ?_, fun _ => ?_⟩
    · simp [gb_bool] at c
    · exact hK _ _ _ _ _ _ ((es', o.tn, o.la), o.hs, n + 1) ⟨by dsimp only; omega, hw', by dsimp only; omega⟩ (by dsimp only; omega) rfl rfl rfl rfl rfl (wrap_up rfl (by omega))
  · refine LoopP1.run (fun i : Nat => (i : Int)) (fun i => i ≤ bs.length) (fun i => bs.length - i) 0 (Nat.zero_le _) rfl ?_
    intro i hi J hJ
    refine ⟨fun h2 => ?_, fun _ => trivial⟩
    refine ⟨bs, hs, rfl, hw, by omega, bs, hs, ⟨rfl, rfl, tn, hw.inv, by omega⟩, p19 (by have := bay_len hw.inv (by omega) i; omega) _, ?_⟩
    rw [e19]
    refine ⟨fun c => ?_, fun _ => ?_⟩
    · simp [gb_bool] at c
    · exact hJ _ (i + 1) (by omega) (by omega) (wrap_up rfl (by omega))
end Go.Proofs.Ytniijahjfbgfpaa.V
