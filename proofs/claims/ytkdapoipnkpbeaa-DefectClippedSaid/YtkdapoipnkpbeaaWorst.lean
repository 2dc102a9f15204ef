/- Defects: the worst of them. No conditions. -/
import Derived.Test.YtkdapoipnkpbeaaChk
import Derived.Test.YtkdapoipnkpbeaaGE
set_option linter.unusedVariables false
set_option linter.unusedSimpArgs false
namespace Go.Proofs.Ytkdapoipnkpbeaa.V
open Go Go.Eng
set_option maxRecDepth 1000000
set_option maxHeartbeats 1000000
/-- The greatest level. -/
def wst (rs : List I6) : Int := rs.foldl (fun m r => mx m r.2.2.2.2.2) 0
theorem wst_fold (rs : List I6) : ∀ n : Int, n ≤ rs.foldl (fun m r => mx m r.2.2.2.2.2) n ∧ (∀ r ∈ rs, r.2.2.2.2.2 ≤ rs.foldl (fun m r => mx m r.2.2.2.2.2) n) ∧ ∀ k, n ≤ k → (∀ r ∈ rs, r.2.2.2.2.2 ≤ k) → rs.foldl (fun m r => mx m r.2.2.2.2.2) n ≤ k := by
  induction rs with
  | nil => intro n; exact ⟨Int.le_refl _, fun r hr => (by cases hr), fun k h _ => h⟩
  | cons q l ih =>
    intro n
    obtain ⟨h1, h2, h3⟩ := ih (mx n q.2.2.2.2.2)
    have hx := le_mx n q.2.2.2.2.2
    refine ⟨Int.le_trans hx.1 h1, fun r hr => ?_, fun k hk hr => ?_⟩
    · rcases List.mem_cons.1 hr with rfl | hr
      · exact Int.le_trans hx.2 h1
      · exact h2 r hr
    · refine h3 k ?_ fun r hr' => hr r (List.mem_cons_of_mem _ hr')
      have := hr q (List.mem_cons_self ..)
      rcases mx_or n q.2.2.2.2.2 with e | e <;> omega
def sWst : List A → List C := fun ds => match ds with
  | [.c (.sl _ xs)] => [.int .i64 (if allD (un6 xs) = 0 then wst (un6 xs) else 0), .int .i64 (allD (un6 xs))]
  | _ => []
def S20 : List A → List C := sWst
def S21 : List A → List C := sWst
theorem e20 (rs : List I6) : S20 [s6 (row6 rs)] = [.int .i64 (if allD rs = 0 then wst rs else 0), .int .i64 (allD rs)] := by
  show [C.int .i64 (if allD (un6 (row6 rs)) = 0 then wst (un6 (row6 rs)) else 0), C.int .i64 (allD (un6 (row6 rs)))] = _
  rw [un6_row]
theorem e21 (rs : List I6) : S21 [s6 (row6 rs)] = [.int .i64 (if allD rs = 0 then wst rs else 0), .int .i64 (allD rs)] := e20 rs
def tbl20 : FuncId → List A → List C := fun f ds => match f with
  | 13 => S13 ds
  | _ => []
theorem pc20  {x1 : List (List C)} {row : List C} (hS : S20 [.c (.sl [.int .i64, .int .i64, .int .i64, .int .i64, .int .i64, .int .i64] x1)] = row) (h : vc20 (stdE Try.prog tbl20) x1 fun c => c = row) : PCg Try.prog 20 S20 [(false, [.int .i64]), (false, [.int .i64])] [.c (.sl [.int .i64, .int .i64, .int .i64, .int .i64, .int .i64, .int .i64] x1)] := PureC_vc mo h20 (by kernel_rfl) hS (w20  h)
def tbl21 : FuncId → List A → List C := fun f ds => match f with
  | 14 => S14 ds
  | _ => []
theorem pc21  {x1 : List (List C)} {row : List C} (hS : S21 [.c (.sl [.int .i64, .int .i64, .int .i64, .int .i64, .int .i64, .int .i64] x1)] = row) (h : vc21 (stdE Try.prog tbl21) x1 fun c => c = row) : PCg Try.prog 21 S21 [(false, [.int .i64]), (false, [.int .i64])] [.c (.sl [.int .i64, .int .i64, .int .i64, .int .i64, .int .i64, .int .i64] x1)] := PureC_vc mo h21 (by kernel_rfl) hS (w21  h)
theorem p20 {rs : List I6} (hl : rs.length ≤ 1000000) : PCg Try.prog 20 S20 [kI, kI] [s6 (row6 rs)] := by
  refine pc20 (e20 rs) ?_
  unfold vc20
  simp only [stdE, baseE, Br_iff, tbl20, p13 hl, true_and, forall_eq, decide_eq_true_eq, decide_eq_false_iff_not, row6_len, row6_c5]
  simp only [e13, List.getD_cons_zero, gi_int, Bool.not_eq_true', Bool.not_eq_false', beq_iff_eq, beq_eq_false_iff_ne, ne_eq]
  refine ⟨fun h => by rw [if_neg h], fun h => ?_⟩
  rw [if_pos h, h]
  refine LoopP2.run (fun n : Nat => wst (rs.take n)) (fun n : Nat => (n : Int)) (fun n => n ≤ rs.length) (fun n => rs.length - n) 0 (Nat.zero_le _) rfl rfl ?_
  intro n hn K hK
  simp only [toNat_cast]
  refine ⟨fun h2 => ⟨by omega, hK _ _ (n + 1) (by omega) (by omega) ?_ (wrap_up rfl (by omega))⟩, fun h2 => ?_⟩
  · unfold wst
    rw [foldl_take _ _ _ z6 (by omega)]
    rfl
  · rw [show n = rs.length by omega, List.take_length]
theorem p21 {rs : List I6} (hl : rs.length ≤ 1000000) : PCg Try.prog 21 S21 [kI, kI] [s6 (row6 rs)] := by
  refine pc21 (e21 rs) ?_
  unfold vc21
  simp only [stdE, baseE, Br_iff, tbl21, p14 hl, true_and, forall_eq, decide_eq_true_eq, decide_eq_false_iff_not, row6_len, row6_c5]
  simp only [e14, List.getD_cons_zero, gi_int, Bool.not_eq_true', Bool.not_eq_false', beq_iff_eq, beq_eq_false_iff_ne, ne_eq]
  refine ⟨fun h => by rw [if_neg h], fun h => ?_⟩
  rw [if_pos h, h]
  refine LoopP2.run (fun n : Nat => wst (rs.take n)) (fun n : Nat => (n : Int)) (fun n => n ≤ rs.length) (fun n => rs.length - n) 0 (Nat.zero_le _) rfl rfl ?_
  intro n hn K hK
  simp only [toNat_cast]
  refine ⟨fun h2 => ⟨by omega, hK _ _ (n + 1) (by omega) (by omega) ?_ (wrap_up rfl (by omega))⟩, fun h2 => ?_⟩
  · unfold wst
    rw [foldl_take _ _ _ z6 (by omega)]
    rfl
  · rw [show n = rs.length by omega, List.take_length]
end Go.Proofs.Ytkdapoipnkpbeaa.V
