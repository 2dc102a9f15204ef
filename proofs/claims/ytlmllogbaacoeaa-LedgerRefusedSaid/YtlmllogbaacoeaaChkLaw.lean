/- Ledgers: what is said of checking a posting. No conditions. -/
import Derived.Test.YtlmllogbaacoeaaPostP
set_option linter.unusedVariables false
set_option linter.unusedSimpArgs false
namespace Go.Proofs.Ytlmllogbaacoeaa.V
open Go Go.Eng
set_option maxRecDepth 1000000
set_option maxHeartbeats 1000000
/-- papermill papermilllaw58.LedgerChecks -/
def rf3 : RFn := ⟨(.seq (.ops 1 [⟨(some 1), (.v (.box 0 24 (.t 0))), none, []⟩, ⟨(some 2), (.v (.mv (.k (.c (.bool false))))), none, []⟩]) (.seq (.seq (.ops 0 [⟨(some 3), (.v (.fa 2 (.t 1))), none, []⟩, ⟨(some 4), (.v (.ld (.t 3))), none, []⟩, ⟨(some 5), (.v (.lenS (.t 4))), none, []⟩, ⟨(some 6), (.v (.bin .gtr (.t 5) (.k (.c (.int .i64 40))))), none, []⟩]) (.cond (.t 6) (.seq (.ops 0 [⟨(some 7), (.v (.det 12 [⟨false, [.bool]⟩] [])), none, []⟩, ⟨(some 2), (.v (.mv (.t 7))), none, []⟩]) .ret) .skip)) (.seq (.any 0 [⟨0, ⟨[], ⟨(some 8), (.v (.lda 3 (.t 1))), none, []⟩⟩⟩, ⟨1, ⟨[0], ⟨(some 9), (.v (.det 13 [⟨false, [(.int .i64)]⟩] [(.t 8)])), none, []⟩⟩⟩, ⟨2, ⟨[], ⟨(some 10), (.v (.lda 3 (.t 1))), none, []⟩⟩⟩, ⟨3, ⟨[2, 1, 0], ⟨(some 11), (.v (.det 14 [⟨false, [(.int .i64)]⟩] [(.t 10)])), none, []⟩⟩⟩, ⟨4, ⟨[3, 2, 1, 0], ⟨(some 12), (.v (.bin .eql (.t 9) (.t 11))), none, []⟩⟩⟩, ⟨5, ⟨[4, 3, 2, 1, 0], ⟨(some 13), (.v (.mv (.t 12))), none, []⟩⟩⟩, ⟨6, ⟨[5, 4, 3, 2, 1, 0], ⟨(some 14), (.v (.det 12 [⟨false, [.bool]⟩] [])), (some ⟨13, true⟩), [(.k (.fn 12 []))]⟩⟩⟩, ⟨7, ⟨[6, 5, 4, 3, 2, 1, 0], ⟨(some 15), (.v (.pick (.t 13) (.t 14) (.k (.c (.bool false))))), none, []⟩⟩⟩, ⟨8, ⟨[7, 6, 5, 4, 3, 2, 1, 0], ⟨(some 2), (.v (.mv (.t 15))), none, []⟩⟩⟩]) .ret))), 16, [(.t 2)]⟩
theorem h3 : fnR Try.prog DD 3 = some rf3 := by kernel_rfl
def vc3 (E : Env) (x1 : Int) (x2 : Int) (x3 : List (List C)) (Q : List C → Prop) : Prop :=
  Br (E.lt 40 (E.len x3))
  ((E.pok 12 [(false, [.bool])] []) ∧ (∀ r4 : Nat → C, r4 = E.res 12 [] → 
    (Q [.bool (E.gb (r4 0))])))
  ((E.pok 13 [(false, [.int .i64])] [.agg [.c (.int .i64 x1), .c (.int .i64 x2), .c (.sl [.int .i64, .int .i64] x3)]]) ∧ (∀ r5 : Nat → C, r5 = E.res 13 [.agg [.c (.int .i64 x1), .c (.int .i64 x2), .c (.sl [.int .i64, .int .i64] x3)]] → 
    ((E.pok 14 [(false, [.int .i64])] [.agg [.c (.int .i64 x1), .c (.int .i64 x2), .c (.sl [.int .i64, .int .i64] x3)]]) ∧ (∀ r6 : Nat → C, r6 = E.res 14 [.agg [.c (.int .i64 x1), .c (.int .i64 x2), .c (.sl [.int .i64, .int .i64] x3)]] → 
    ((Imp (E.eq (E.gi (r5 0)) (E.gi (r6 0))) (E.pok 12 [(false, [.bool])] [])) ∧ (∀ r7 : Nat → C, r7 = E.res 12 [] → 
    (Q [.bool (E.bite (E.eq (E.gi (r5 0)) (E.gi (r6 0))) (E.gb (r7 0)) false)])))))))
theorem w3 {P : Program} {tbl : FuncId → List A → List C}  {x1 : Int} {x2 : Int} {x3 : List (List C)} {row : List C} (h : vc3 (stdE P tbl) x1 x2 x3 fun c => c = row) : WPg P tbl rf3 [(false, [.bool])] row [.agg [.c (.int .i64 x1), .c (.int .i64 x2), .c (.sl [.int .i64, .int .i64] x3)]] := by
  refine ⟨?_⟩
  revert h
  generalize hE : stdE P tbl = E
  intro h
  unfold vc3 at h
  cbv
  refine ⟨fun hb8 => ?_, fun hb8 => ?_⟩
  · replace h := h.t hb8
    have c9 := h.1
    refine ⟨c9, ?_⟩
    replace h := h.2 _ rfl
    have h : _ = row := h
    subst h
    repeat' (first | exact trivial | exact rfl | refine And.intro ?_ ?_)
  · replace h := h.f hb8
    have c10 := h.1
    refine ⟨c10, ?_⟩
    replace h := h.2 _ rfl
    have c11 := h.1
    refine ⟨c11, ?_⟩
    replace h := h.2 _ rfl
    have c12 := h.1
    refine ⟨c12, ?_⟩
    replace h := h.2 _ rfl
    refine ⟨⟨fun hh => hh⟩, ?_⟩
    have h : _ = row := h
    subst h
    repeat' (first | exact trivial | exact rfl | refine And.intro ?_ ?_)
def S12 : List A → List C := fun _ => [.bool true]
theorem p12 : PCg Try.prog 12 S12 [kB] [] := awake.one rfl
theorem e12 : S12 [] = [.bool true] := rfl
def S3 : List A → List C := fun _ => [.bool true]
def tbl3 : FuncId → List A → List C := fun f ds => match f with
  | 12 => S12 ds
  | 13 => S13 ds
  | 14 => S14 ds
  | _ => []
theorem pc3  {x1 : Int} {x2 : Int} {x3 : List (List C)} {row : List C} (hS : S3 [.agg [.c (.int .i64 x1), .c (.int .i64 x2), .c (.sl [.int .i64, .int .i64] x3)]] = row) (h : vc3 (stdE Try.prog tbl3) x1 x2 x3 fun c => c = row) : PCg Try.prog 3 S3 [(false, [.bool])] [.agg [.c (.int .i64 x1), .c (.int .i64 x2), .c (.sl [.int .i64, .int .i64] x3)]] := PureC_vc mo h3 (by kernel_rfl) hS (w3  h)
theorem p3 (a b : Int) (its : List I2) : PureC Try.prog 3 [kB] [poA a b (row2 its)] fun _ => .bool true := by
  refine PureC.one (get := fun i => (S3 [poA a b (row2 its)]).getD i .nil) (pc3 (row := [.bool true]) rfl ?_) rfl
  unfold vc3
  simp only [stdE, baseE, Br_iff, Imp_iff, tbl3, forall_eq]
  simp only [p12, p13, p14, implies_true, true_and]
  simp only [e12, e13, e14, List.getD_cons_zero, gb_bool]
  simp
end Go.Proofs.Ytlmllogbaacoeaa.V
