/- Rectangles: a list and one more. No conditions. -/
import Derived.Test.YtjckgkhojjnkdaaCovLaws
set_option linter.unusedVariables false
set_option linter.unusedSimpArgs false
namespace Go.Proofs.Ytjckgkhojjnkdaa.V
open Go Go.Eng Go.Span
set_option maxRecDepth 1000000
set_option maxHeartbeats 400000
def S7 : List A → List C := fun _ => [.bool true]
noncomputable def tbl7 : FuncId → List A → List C := fun f ds => match f with
  | 11 => S11 ds
  | 12 => S12 ds
  | 14 => S14 ds
  | 16 => S16 ds
  | 26 => S26 ds
  | _ => []
theorem pc7  {x1 : List (List C)} {x2 : Int} {x3 : Int} {x4 : Int} {x5 : Int} {row : List C} (hS : S7 [.c (.sl [.int .i64, .int .i64, .int .i64, .int .i64] x1), .agg [.c (.int .i64 x2), .c (.int .i64 x3), .c (.int .i64 x4), .c (.int .i64 x5)]] = row) (h : vc7 (stdE Try.prog tbl7) x1 x2 x3 x4 x5 fun c => c = row) : PCg Try.prog 7 S7 [(false, [.bool])] [.c (.sl [.int .i64, .int .i64, .int .i64, .int .i64] x1), .agg [.c (.int .i64 x2), .c (.int .i64 x3), .c (.int .i64 x4), .c (.int .i64 x5)]] := PureC_vc mo h7 (by kernel_rfl) hS (w7  h)
theorem p7 {rs : List R4} {l r a b : Int} : PureC Try.prog 7 [kB] [lC (rowsR rs), rc l r a b] fun _ => .bool true := by
  refine PureC.one (get := fun i => (S7 [lC (rowsR rs), rc l r a b]).getD i .nil) (pc7 (row := [.bool true]) rfl ?_) rfl
  unfold vc7
  simp only [stdE, baseE, Br_iff, Imp_iff, tbl7, p11, true_and, forall_eq, decide_eq_true_eq, decide_eq_false_iff_not, rowsR_len]
  refine ⟨fun _ => rfl, fun h => ?_⟩
  have hl : rs.length ≤ 1000000 := by omega
  have e14 := q14 rs (l, r, a, b)
  have e16 := q16 rs (l, r, a, b)
  have e26 := q26 (l, r, a, b)
  simp only [rR] at e14 e16 e26
  simp only [p12 hl, p14 hl, p16 hl, p26, true_and, implies_true]
  simp only [q12, q11, e14, e16, e26, List.getD_cons_zero, List.getD_cons_succ, gi_int, gb_bool, gl_sl]
  rcases chk01 l r a b with hq | hq
  · have hcq : chkR (l, r, a, b) = 0 := hq
    have ok := chk_okR (r := (l, r, a, b)) hq
    refine ⟨fun w => by rw [hcq] at w; simp at w, fun _ => ?_⟩
    have hcl : cliE rs (l, r, a, b) = allE (rowsR rs) := by unfold cliE clipE; rw [if_pos hq]
    rw [hcl]
    rcases allE_01 (xs := rowsR rs) (by rw [rowsR_len]; omega) with e | e
    · obtain ⟨h1, h2⟩ := allE_ok e
      refine ⟨fun w => by rw [e] at w; simp at w, fun _ => ?_⟩
      have h3 := clipR_ok h2 ok
      have h4 := clipR_len rs (l, r, a, b)
      have hm : rowsR rs ++ [[.int .i64 l, .int .i64 r, .int .i64 a, .int .i64 b]] = rowsR (rs ++ [(l, r, a, b)]) := by rw [rowsR_append]; rfl
      have g1 : allE (rowsR (rs ++ [(l, r, a, b)])) = 0 := allE_good (by simp; omega) fun r hr => by
        rcases List.mem_append.1 hr with hr | hr
        · exact h2 r hr
        · simp at hr; subst hr; exact ok
      have g2 : allE (rowsR (clipR rs (l, r, a, b))) = 0 := allE_good (by omega) h3
      have f1 : covR rs = ptc rs := by rw [covR, if_pos e]
      have f2 : covR (rs ++ [(l, r, a, b)]) = ptc (rs ++ [(l, r, a, b)]) := by rw [covR, if_pos g1]
      have f3 : covR (clipR rs (l, r, a, b)) = ptc (clipR rs (l, r, a, b)) := by rw [covR, if_pos g2]
      have f4 : restR rs (l, r, a, b) = areaR (l, r, a, b) - ptc (clipR rs (l, r, a, b)) := by rw [restR, if_pos (by rw [hcl, e])]
      have m1 := pts_more rs (l, r, a, b)
      rw [pts_area ok] at m1
      have m2 : pts rs ≤ pts (rs ++ [(l, r, a, b)]) := pts_mono fun x y k => (inR_append _ _ _ _).2 (.inl k)
      have m3 := pts_le (rs ++ [(l, r, a, b)])
      have m4 := pts_nonneg rs
      have m5 := pts_nonneg (clipR rs (l, r, a, b))
      have m6 := areaR_ok ok
      rw [← ptc_eq, ← ptc_eq, ← ptc_eq] at m1
      rw [← ptc_eq, ← ptc_eq] at m2
      rw [← ptc_eq] at m3 m4 m5
      have ha : sel (chkR (l, r, a, b) == 0) (arw l r a b) 0 = areaR (l, r, a, b) := by rw [hcq]; exact arw_ok (r := (l, r, a, b)) ok
      rw [e, if_pos rfl, hm, ha, f4, f1]
      simp only [q12, f2, f3, g1, g2, List.getD_cons_zero, List.getD_cons_succ, gi_int]
      refine ⟨by omega, by simp only [List.length_cons, List.length_nil]; omega, PureC.cg (p12 (by simp; omega)) (by rw [q12, f2, g1]), PureC.cg (p12 (by omega)) (by rw [q12, f3, g2]), fun w => by simp at w, fun _ => ?_⟩
      rw [wrap_in (n := _ + _) (by omega) (by omega), wrap_in (n := _ - _) (by omega) (by omega)]
      have t1 : (ptc (rs ++ [(l, r, a, b)]) == ptc rs + (areaR (l, r, a, b) - ptc (clipR rs (l, r, a, b)))) = true := by rw [beq_iff_eq]; omega
      have t2 : decide (0 ≤ areaR (l, r, a, b) - ptc (clipR rs (l, r, a, b))) = true := by rw [decide_eq_true_eq]; omega
      have t3 : decide (ptc rs ≤ 206158430208000) = true := by rw [decide_eq_true_eq]; omega
      rw [t1, t2, t3]
      simp
    · refine ⟨fun _ => by simp, fun w => by rw [e] at w; simp at w⟩
  · have hcq : chkR (l, r, a, b) = 1 := hq
    have hcl : cliE rs (l, r, a, b) = 1 := by unfold cliE clipE; rw [if_neg (by rw [hq]; decide)]; exact hq
    refine ⟨fun _ => ?_, fun w => by rw [hcq] at w; simp at w⟩
    rw [hcq, hcl]; rfl
end Go.Proofs.Ytjckgkhojjnkdaa.V
