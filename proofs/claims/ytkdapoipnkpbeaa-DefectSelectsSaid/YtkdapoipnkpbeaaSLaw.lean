/- Defects: what is said of selecting and measuring them. No conditions. -/
import Derived.Test.YtkdapoipnkpbeaaMeas
import Derived.Test.YtkdapoipnkpbeaaGGa
set_option linter.unusedVariables false
set_option linter.unusedSimpArgs false
namespace Go.Proofs.Ytkdapoipnkpbeaa.V
open Go Go.Eng Go.Span Go.Proofs.Ytkdapoipnkpbeaa.R
set_option maxRecDepth 1000000
set_option maxHeartbeats 1000000
noncomputable def S5 : List A → List C := fun _ => [.bool true]
noncomputable def tbl5 : FuncId → List A → List C := fun f ds => match f with
  | 10 => S10 ds
  | 15 => S15 ds
  | 16 => S16 ds
  | 17 => S17 ds
  | 18 => S18 ds
  | 19 => S19 ds
  | 20 => S20 ds
  | 21 => S21 ds
  | 22 => S22 ds
  | 23 => S23 ds
  | 24 => S24 ds
  | _ => []
theorem pc5  {x1 : List (List C)} {x2 : Int} {x3 : Int} {row : List C} (hS : S5 [.c (.sl [.int .i64, .int .i64, .int .i64, .int .i64, .int .i64, .int .i64] x1), .c (.int .i64 x2), .c (.int .i64 x3)] = row) (h : vc5 (stdE Try.prog tbl5) x1 x2 x3 fun c => c = row) : PCg Try.prog 5 S5 [(false, [.bool])] [.c (.sl [.int .i64, .int .i64, .int .i64, .int .i64, .int .i64, .int .i64] x1), .c (.int .i64 x2), .c (.int .i64 x3)] := PureC_vc mo h5 (by kernel_rfl) hS (w5  h)
theorem p5 {rs : List I6} {k lv : Int} : PureC Try.prog 5 [kB] [s6 (row6 rs), iC k, iC lv] fun _ => .bool true := by
  refine PureC.one (get := fun i => (S5 [s6 (row6 rs), iC k, iC lv]).getD i .nil) (pc5 (row := [.bool true]) rfl ?_) rfl
  unfold vc5
  simp only [stdE, baseE, Br_iff, Imp_iff, tbl5, p10, true_and, implies_true, forall_eq, decide_eq_true_eq, decide_eq_false_iff_not, row6_len]
  refine ⟨fun _ => rfl, fun h => ?_⟩
  have hl : rs.length ≤ 1000000 := by omega
  simp only [p18 hl, p19 hl, p20 hl, p21 hl, p16 hl, p22 hl, p17 hl, p23 hl, true_and]
  simp only [e18, e19, e20, e21, e16, e22, e17, e23, List.getD_cons_zero, List.getD_cons_succ, gi_int, gl_sl, gb_bool]
  have hm : (if allD rs = 0 then sel rs k lv else []).length ≤ 1000000 := by
    split
    · exact Nat.le_trans (sel_len _ _ _) hl
    · simp
  have hm2 : (if allD rs = 0 then nf (spansD rs) else []).length ≤ 1000000 := by
    split
    · exact Nat.le_trans (nf_len _) (by simp [spansD]; omega)
    · simp
  simp only [p15 hm, c23 hm2, implies_true, true_and]
  simp only [e15, q23, List.getD_cons_zero, gb_bool, e10]
  simp
end Go.Proofs.Ytkdapoipnkpbeaa.V
