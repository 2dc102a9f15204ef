/- Ledgers: a nil ledger. No conditions. -/
import Derived.Test.YtlmllogbaacoeaaGN
import Derived.Test.YtlmllogbaacoeaaAcc
import Derived.Test.YtlmllogbaacoeaaChkLaw
set_option linter.unusedVariables false
set_option linter.unusedSimpArgs false
namespace Go.Proofs.Ytlmllogbaacoeaa.V
open Go Go.Eng
set_option maxRecDepth 1000000
set_option maxHeartbeats 1000000
def S11 : List A → List C := fun _ => [.bool true]
def tbl11 : FuncId → List A → List C := fun f ds => match f with
  | 12 => S12 ds
  | _ => []
theorem pc11 (ce18 : PostC Try.prog 18) (ce21 : PgsC Try.prog 21) (ce24 : AccC Try.prog 24) (ce26 : BalC Try.prog 26) (ce28 : AtC Try.prog 28) (ce32 : CopyC Try.prog 32) {x1 : Int} {x2 : Int} {x3 : List (List C)} {x4 : Int} {x5 : Int} {row : List C} (hS : S11 [.agg [.c (.int .i64 x1), .c (.int .i64 x2), .c (.sl [.int .i64, .int .i64] x3)], .c (.int .i64 x4), .c (.int .i64 x5)] = row) (h : vc11 (stdE Try.prog tbl11) x1 x2 x3 x4 x5 fun c => c = row) : PCg Try.prog 11 S11 [(false, [.bool])] [.agg [.c (.int .i64 x1), .c (.int .i64 x2), .c (.sl [.int .i64, .int .i64] x3)], .c (.int .i64 x4), .c (.int .i64 x5)] := PureC_vc mo h11 (by kernel_rfl) hS (w11 ce18 ce21 ce24 ce26 ce28 ce32 h)
theorem p11 (a b : Int) (its : List I2) (k t : Int) : PureC Try.prog 11 [kB] [poA a b (row2 its), iC k, iC t] fun _ => .bool true := by
  refine PureC.one (get := fun i => (S11 [poA a b (row2 its), iC k, iC t]).getD i .nil) (pc11 c18 c21 c24 c26 c28 c32 (row := [.bool true]) rfl ?_) rfl
  unfold vc11 spPostN spNil1 spNil2 spNil0
  simp only [stdE, baseE, Br_iff, Imp_iff, tbl11, forall_eq]
  simp only [p12, implies_true, true_and]
  simp only [e12, List.getD_cons_zero, gb_bool]
  simp
end Go.Proofs.Ytlmllogbaacoeaa.V
