/- Ledgers: what the functions that look at a ledger make of it. No conditions. -/
import Derived.Test.YtlmllogbaacoeaaGB
set_option linter.unusedVariables false
set_option linter.unusedSimpArgs false
namespace Go.Proofs.Ytlmllogbaacoeaa.V
open Go Go.Eng
set_option maxRecDepth 1000000
set_option maxHeartbeats 1000000
def tbl15 : FuncId → List A → List C := fun f ds => match f with
  | _ => []
theorem ac15   {Q0 : Prop} (h : vc15 (stdE Try.prog tbl15)  Q0) : ACalls Try.prog 15 [] [] fun r H' => (Q0  ∧ r = .ptr 0 0 ∧ H' = [.box 54 [.gr 1, .map 2], .arr 24 [.int .i64, .int .i64, .sl [.int .i64, .int .i64]] [], .mp .i64 (.int .i64) []]) := ACalls_vc mo h15 (w15  h)
def tbl16 : FuncId → List A → List C := fun f ds => match f with
  | _ => []
theorem ac16   {Q0 : Prop} (h : vc16 (stdE Try.prog tbl16)  Q0) : ACalls Try.prog 16 [] [] fun r H' => (Q0  ∧ r = .ptr 0 0 ∧ H' = [.box 56 [.c (.sl [.int .i64, .int .i64, .sl [.int .i64, .int .i64]] [])]]) := ACalls_vc mo h16 (w16  h)
def tbl26 : FuncId → List A → List C := fun f ds => match f with
  | _ => []
theorem ac26 {x1 : List (List C)} {x2 : List (Int × C)} {x3 : Int}  {Q0 : (Int) → Prop} (h : vc26 (stdE Try.prog tbl26) x1 x2 x3 Q0) : ACalls Try.prog 26 [.ptr 0 0, .c (.int .i64 x3)] [.box 54 [.gr 1, .map 2], .arr 24 [.int .i64, .int .i64, .sl [.int .i64, .int .i64]] x1, .mp .i64 (.int .i64) x2] fun r H' => (∃ i1 : Int, Q0 i1 ∧ r = .c (.int .i64 i1) ∧ H' = [.box 54 [.gr 1, .map 2], .arr 24 [.int .i64, .int .i64, .sl [.int .i64, .int .i64]] x1, .mp .i64 (.int .i64) x2]) := ACalls_vc mo h26 (w26  h)
def tbl26N : FuncId → List A → List C := fun f ds => match f with
  | _ => []
theorem ac26N {x3 : Int}  {Q0 : Prop} (h : vc26N (stdE Try.prog tbl26N) x3 Q0) : ACalls Try.prog 26 [.np, .c (.int .i64 x3)] [] fun r H' => (Q0  ∧ r = .c (.int .i64 0) ∧ H' = []) := ACalls_vc mo h26 (w26N  h)
def tbl28N : FuncId → List A → List C := fun f ds => match f with
  | _ => []
theorem ac28N {x3 : Int} {x4 : Int}  {Q0 : Prop} (h : vc28N (stdE Try.prog tbl28N) x3 x4 Q0) : ACalls Try.prog 28 [.np, .c (.int .i64 x3), .c (.int .i64 x4)] [] fun r H' => (Q0  ∧ r = .c (.int .i64 0) ∧ H' = []) := ACalls_vc mo h28 (w28N  h)
def tbl21N : FuncId → List A → List C := fun f ds => match f with
  | _ => []
theorem ac21N   {Q0 : Prop} (h : vc21N (stdE Try.prog tbl21N)  Q0) : ACalls Try.prog 21 [.np] [] fun r H' => (Q0  ∧ r = .c (.nil) ∧ H' = []) := ACalls_vc mo h21 (w21N  h)
def tbl32N : FuncId → List A → List C := fun f ds => match f with
  | _ => []
theorem ac32N   {Q0 : Prop} (h : vc32N (stdE Try.prog tbl32N)  Q0) : ACalls Try.prog 32 [.np] [] fun r H' => (Q0  ∧ r = .np ∧ H' = []) := ACalls_vc mo h32 (w32N  h)
def tbl27 : FuncId → List A → List C := fun f ds => match f with
  | 42 => S42 ds
  | _ => []
theorem ac27 {x1 : List (List C)} {x3 : Int}  {Q0 : (Int) → Prop} (h : vc27 (stdE Try.prog tbl27) x1 x3 Q0) : ACalls Try.prog 27 [.ptr 0 0, .c (.int .i64 x3)] [.box 56 [.c (.sl [.int .i64, .int .i64, .sl [.int .i64, .int .i64]] x1)]] fun r H' => (∃ i1 : Int, Q0 i1 ∧ r = .c (.int .i64 i1) ∧ H' = [.box 56 [.c (.sl [.int .i64, .int .i64, .sl [.int .i64, .int .i64]] x1)]]) := ACalls_vc mo h27 (w27  h)
def tbl29 : FuncId → List A → List C := fun f ds => match f with
  | 43 => S43 ds
  | _ => []
theorem ac29 {x1 : List (List C)} {x3 : Int} {x4 : Int}  {Q0 : (Int) → Prop} (h : vc29 (stdE Try.prog tbl29) x1 x3 x4 Q0) : ACalls Try.prog 29 [.ptr 0 0, .c (.int .i64 x3), .c (.int .i64 x4)] [.box 56 [.c (.sl [.int .i64, .int .i64, .sl [.int .i64, .int .i64]] x1)]] fun r H' => (∃ i1 : Int, Q0 i1 ∧ r = .c (.int .i64 i1) ∧ H' = [.box 56 [.c (.sl [.int .i64, .int .i64, .sl [.int .i64, .int .i64]] x1)]]) := ACalls_vc mo h29 (w29  h)
theorem c15 : NewC Try.prog 15 := ⟨fnR_body h15 (by kernel_rfl), fun K h => ac15 (by unfold vc15; exact h)⟩
theorem c16 : RNewC Try.prog 16 := ⟨fnR_body h16 (by kernel_rfl), fun K h => ac16 (by unfold vc16; exact h)⟩
theorem c32 : CopyC Try.prog 32 := ⟨fnR_body h32 (by kernel_rfl), fun K h => ac32N (by unfold vc32N; exact ⟨rfl, h⟩)⟩
theorem c26 : BalC Try.prog 26 := ⟨fnR_body h26 (by kernel_rfl), fun x1 x2 k K h => ac26 (by unfold vc26; exact ⟨rfl, h⟩), fun k K h => ac26N (by unfold vc26N; exact ⟨rfl, h⟩)⟩
theorem c27 : RBalC Try.prog 27 := ⟨fnR_body h27 (by kernel_rfl), fun x1 k K ⟨ps, hx, hv, hl, h⟩ => ac27 (by
  subst hx
  unfold vc27
  simp only [stdE, baseE, tbl27, forall_eq]
  simp only [p42 hv (show ps.length ≤ 513 by omega), true_and]
  simp only [e42, List.getD_cons_zero, gi_int]
  exact h)⟩
theorem c29 : RAtC Try.prog 29 := ⟨fnR_body h29 (by kernel_rfl), fun x1 k t K ⟨ps, hx, hv, hl, h⟩ => ac29 (by
  subst hx
  unfold vc29
  simp only [stdE, baseE, tbl29, forall_eq]
  simp only [p43 hv (show ps.length ≤ 513 by omega), true_and]
  simp only [e43, List.getD_cons_zero, gi_int]
  exact h)⟩
end Go.Proofs.Ytlmllogbaacoeaa.V
