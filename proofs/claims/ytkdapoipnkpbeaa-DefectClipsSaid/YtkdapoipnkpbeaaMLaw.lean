/- Defects: lists of them compared; what Merge is said to do. No conditions. -/
import Derived.Test.YtkdapoipnkpbeaaMerges
set_option linter.unusedVariables false
set_option linter.unusedSimpArgs false
namespace Go.Proofs.Ytkdapoipnkpbeaa.V
open Go Go.Eng
set_option maxRecDepth 1000000
set_option maxHeartbeats 1000000
def S15 : List A → List C := fun ds => match ds with
  | [.c (.sl _ xs), .c (.sl _ ys)] => [.bool (decide (un6 xs = un6 ys))]
  | _ => []
theorem e15 (xs ys : List I6) : S15 [s6 (row6 xs), s6 (row6 ys)] = [.bool (decide (xs = ys))] := by
  show [C.bool (decide (un6 (row6 xs) = un6 (row6 ys)))] = _
  rw [un6_row, un6_row]
def tbl15 : FuncId → List A → List C := fun f ds => match f with
  | _ => []
theorem pc15  {x1 : List (List C)} {x2 : List (List C)} {row : List C} (hS : S15 [.c (.sl [.int .i64, .int .i64, .int .i64, .int .i64, .int .i64, .int .i64] x1), .c (.sl [.int .i64, .int .i64, .int .i64, .int .i64, .int .i64, .int .i64] x2)] = row) (h : vc15 (stdE Try.prog tbl15) x1 x2 fun c => c = row) : PCg Try.prog 15 S15 [(false, [.bool])] [.c (.sl [.int .i64, .int .i64, .int .i64, .int .i64, .int .i64, .int .i64] x1), .c (.sl [.int .i64, .int .i64, .int .i64, .int .i64, .int .i64, .int .i64] x2)] := PureC_vc mo h15 (by kernel_rfl) hS (w15  h)
theorem p15 {xs ys : List I6} (hl : xs.length ≤ 1000000) : PCg Try.prog 15 S15 [kB] [s6 (row6 xs), s6 (row6 ys)] := by
  refine pc15 (e15 xs ys) ?_
  unfold vc15
  simp only [stdE, baseE, Br_iff, decide_eq_true_eq, decide_eq_false_iff_not, Bool.not_eq_true', Bool.not_eq_false', beq_iff_eq, beq_eq_false_iff_ne, ne_eq, row6_len, row6_c0, row6_c1, row6_c2, row6_c3, row6_c4, row6_c5]
  refine ⟨fun h => ?_, fun h => ?_⟩
  · rw [decide_eq_false fun e => h (by rw [e])]
  have h := Int.ofNat_inj.1 h
  refine LoopP1.run (fun n : Nat => (n : Int)) (fun n => n ≤ xs.length ∧ xs.take n = ys.take n) (fun n => xs.length - n) 0 ⟨Nat.zero_le _, rfl⟩ rfl ?_
  rintro n ⟨hn, ht⟩ K hK
  simp only [toNat_cast]
  refine ⟨fun h2 => ?_, fun h2 => ?_⟩
  · have hlt : n < xs.length := by omega
    refine ⟨by omega, by omega, fun h3 => ?_, fun h3 => ?_⟩
    · have hne : xs.getD n z6 ≠ ys.getD n z6 := fun e => by rw [e] at h3; simp at h3
      rw [decide_eq_false fun e => hne (by rw [e])]
    · refine hK _ (n + 1) ⟨hlt, ?_⟩ (by omega) (wrap_up rfl (by omega))
      have he : xs.getD n z6 = ys.getD n z6 := by
        simp only [Bool.and_eq_true, beq_iff_eq, and_true] at h3
        obtain ⟨a, b, c, d, e, f⟩ := h3
        exact Prod.ext a (Prod.ext b (Prod.ext c (Prod.ext d (Prod.ext e f))))
      rw [List.take_add_one, List.take_add_one, ht, List.getElem?_eq_getElem hlt, List.getElem?_eq_getElem (show n < ys.length by omega), ← getD_get (d := z6) hlt, ← getD_get (d := z6) (show n < ys.length by omega), he]
  · have hn2 : n = xs.length := by omega
    subst hn2
    rw [List.take_length, h, List.take_length] at ht
    rw [decide_eq_true ht]
def S3 : List A → List C := fun _ => [.bool true]
def tbl3 : FuncId → List A → List C := fun f ds => match f with
  | 10 => S10 ds
  | 11 => S11 ds
  | 12 => S12 ds
  | 13 => S13 ds
  | 14 => S14 ds
  | 15 => S15 ds
  | _ => []
theorem pc3  {x1 : List (List C)} {x2 : Int} {row : List C} (hS : S3 [.c (.sl [.int .i64, .int .i64, .int .i64, .int .i64, .int .i64, .int .i64] x1), .c (.int .i64 x2)] = row) (h : vc3 (stdE Try.prog tbl3) x1 x2 fun c => c = row) : PCg Try.prog 3 S3 [(false, [.bool])] [.c (.sl [.int .i64, .int .i64, .int .i64, .int .i64, .int .i64, .int .i64] x1), .c (.int .i64 x2)] := PureC_vc mo h3 (by kernel_rfl) hS (w3  h)
theorem p3 {rs : List I6} {g : Int} : PureC Try.prog 3 [kB] [s6 (row6 rs), iC g] fun _ => .bool true := by
  refine PureC.one (get := fun i => (S3 [s6 (row6 rs), iC g]).getD i .nil) (pc3 (row := [.bool true]) rfl ?_) rfl
  unfold vc3
  simp only [stdE, baseE, Br_iff, Imp_iff, tbl3, p10, true_and, implies_true, forall_eq, decide_eq_true_eq, decide_eq_false_iff_not, row6_len]
  refine ⟨fun _ => rfl, fun h => ?_⟩
  have hl : rs.length ≤ 1000000 := by omega
  have hm : (mrgL rs g).length ≤ 1000000 := by
    unfold mrgL
    split
    · exact Nat.le_trans (mrg_len _ rs rfl) hl
    · simp
  simp only [p11 hl, p12 hl, p13 hl, p14 hl, true_and]
  simp only [e11, e12, e13, e14, List.getD_cons_zero, List.getD_cons_succ, gi_int, gl_sl, gb_bool]
  simp only [p15 hm, implies_true, true_and]
  simp only [e15, List.getD_cons_zero, gb_bool, e10]
  simp
end Go.Proofs.Ytkdapoipnkpbeaa.V
