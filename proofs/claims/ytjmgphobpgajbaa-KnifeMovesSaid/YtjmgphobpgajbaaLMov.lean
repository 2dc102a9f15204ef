/- Knives: what Moves returns. No conditions. -/
import Derived.Test.YtjmgphobpgajbaaAw
set_option linter.unusedVariables false
set_option linter.unusedSimpArgs false
namespace Go.Proofs.Ytjmgphobpgajbaa.V
open Go Go.Eng
set_option maxRecDepth 1000000
set_option maxHeartbeats 4000000
/-- papermill papermilllaw49.KnifeMoves -/
def rf4 : RFn := ⟨(.seq (.ops 1 [⟨(some 3), (.v (.box 0 24 (.t 0))), none, []⟩, ⟨(some 6), (.v (.mv (.k (.c (.bool false))))), none, []⟩]) (.seq (.seq (.ops 1 [⟨(some 11), (.v (.lda 5 (.t 3))), none, []⟩, ⟨(some 12), (.v (.mv (.t 1))), none, []⟩, ⟨(some 13), (.v (.mv (.t 2))), none, []⟩, ⟨(some 14), (.v (.bsl 0 22 [(.sl [(.int .i64)])] [(.t 12), (.t 13)])), none, []⟩, ⟨(some 15), (.v (.det 10 [⟨false, [.bool]⟩] [(.t 11), (.t 14)])), none, []⟩, ⟨(some 16), (.v (.un .not (.t 15))), none, []⟩]) (.cond (.t 16) (.seq (.ops 0 [⟨(some 17), (.v (.det 11 [⟨false, [.bool]⟩] [])), none, []⟩, ⟨(some 6), (.v (.mv (.t 17))), none, []⟩]) .ret) .skip)) (.seq (.ops 0 [⟨(some 19), (.v (.lda 5 (.t 3))), none, []⟩, ⟨(some 20), (.v (.mv (.t 1))), none, []⟩, ⟨(some 21), (.v (.mv (.t 2))), none, []⟩, ⟨(some 22), (.v (.det 15 [⟨false, [(.int .i64)]⟩, ⟨false, [(.int .i64)]⟩] [(.t 19), (.t 20), (.t 21)])), none, []⟩, ⟨(some 18), (.v (.mv (.t 22))), none, []⟩, ⟨(some 23), (.v (.ext (.t 18) 0)), none, []⟩, ⟨(some 24), (.v (.ext (.t 18) 1)), none, []⟩, ⟨(some 7), (.v (.mv (.t 23))), none, []⟩, ⟨(some 8), (.v (.mv (.t 24))), none, []⟩]) (.seq (.ops 0 [⟨(some 26), (.v (.lda 5 (.t 3))), none, []⟩, ⟨(some 27), (.v (.mv (.t 1))), none, []⟩, ⟨(some 28), (.v (.mv (.t 2))), none, []⟩, ⟨(some 29), (.v (.det 16 [⟨false, [(.int .i64)]⟩, ⟨false, [(.int .i64)]⟩] [(.t 26), (.t 27), (.t 28)])), none, []⟩, ⟨(some 25), (.v (.mv (.t 29))), none, []⟩, ⟨(some 30), (.v (.ext (.t 25) 0)), none, []⟩, ⟨(some 31), (.v (.ext (.t 25) 1)), none, []⟩, ⟨(some 9), (.v (.mv (.t 30))), none, []⟩, ⟨(some 10), (.v (.mv (.t 31))), none, []⟩]) (.seq (.ops 0 [⟨(some 32), (.v (.mv (.t 7))), none, []⟩, ⟨(some 33), (.v (.mv (.t 9))), none, []⟩, ⟨(some 34), (.v (.bin .eql (.t 32) (.t 33))), none, []⟩, ⟨(some 35), (.v (.mv (.t 34))), none, []⟩, ⟨(some 36), (.v (.mv (.t 8))), (some ⟨35, true⟩), [(.t 8)]⟩, ⟨(some 37), (.v (.mv (.t 10))), (some ⟨35, true⟩), [(.t 10)]⟩, ⟨(some 38), (.v (.bin .eql (.t 36) (.t 37))), (some ⟨35, true⟩), [(.t 36), (.t 37)]⟩, ⟨(some 39), (.v (.pick (.t 35) (.t 38) (.k (.c (.bool false))))), none, []⟩, ⟨(some 40), (.v (.mv (.t 39))), none, []⟩, ⟨(some 41), (.v (.det 11 [⟨false, [.bool]⟩] [])), (some ⟨40, true⟩), [(.k (.fn 11 []))]⟩, ⟨(some 42), (.v (.pick (.t 40) (.t 41) (.k (.c (.bool false))))), none, []⟩, ⟨(some 6), (.v (.mv (.t 42))), none, []⟩]) .ret))))), 43, [(.t 6)]⟩
theorem h4 : fnR Try.prog DD 4 = some rf4 := by kernel_rfl
def vc4 (E : Env) (x1 : Int) (x2 : Int) (x3 : Int) (x4 : Int) (x5 : List (List C)) (x6 : List (List C)) (x7 : List (List C)) (Q : List C → Prop) : Prop :=
  (E.pok 10 [(false, [.bool])] [.agg [.c (.int .i64 x1), .c (.int .i64 x2), .c (.int .i64 x3), .c (.int .i64 x4), .c (.sl [.int .i64] x5)], .c (.sl [.sl [.int .i64]] [[.sl [.int .i64] x6], [.sl [.int .i64] x7]])]) ∧ (∀ r8 : Nat → C, r8 = E.res 10 [.agg [.c (.int .i64 x1), .c (.int .i64 x2), .c (.int .i64 x3), .c (.int .i64 x4), .c (.sl [.int .i64] x5)], .c (.sl [.sl [.int .i64]] [[.sl [.int .i64] x6], [.sl [.int .i64] x7]])] → 
  (Br (E.not (E.gb (r8 0)))
  ((E.pok 11 [(false, [.bool])] []) ∧ (∀ r9 : Nat → C, r9 = E.res 11 [] → 
    (Q [.bool (E.gb (r9 0))])))
  ((E.pok 15 [(false, [.int .i64]), (false, [.int .i64])] [.agg [.c (.int .i64 x1), .c (.int .i64 x2), .c (.int .i64 x3), .c (.int .i64 x4), .c (.sl [.int .i64] x5)], .c (.sl [.int .i64] x6), .c (.sl [.int .i64] x7)]) ∧ (∀ r10 : Nat → C, r10 = E.res 15 [.agg [.c (.int .i64 x1), .c (.int .i64 x2), .c (.int .i64 x3), .c (.int .i64 x4), .c (.sl [.int .i64] x5)], .c (.sl [.int .i64] x6), .c (.sl [.int .i64] x7)] → 
    ((E.pok 16 [(false, [.int .i64]), (false, [.int .i64])] [.agg [.c (.int .i64 x1), .c (.int .i64 x2), .c (.int .i64 x3), .c (.int .i64 x4), .c (.sl [.int .i64] x5)], .c (.sl [.int .i64] x6), .c (.sl [.int .i64] x7)]) ∧ (∀ r11 : Nat → C, r11 = E.res 16 [.agg [.c (.int .i64 x1), .c (.int .i64 x2), .c (.int .i64 x3), .c (.int .i64 x4), .c (.sl [.int .i64] x5)], .c (.sl [.int .i64] x6), .c (.sl [.int .i64] x7)] → 
    ((Imp (E.bite (E.eq (E.gi (r10 0)) (E.gi (r11 0))) (E.eq (E.gi (r10 1)) (E.gi (r11 1))) false) (E.pok 11 [(false, [.bool])] [])) ∧ (∀ r12 : Nat → C, r12 = E.res 11 [] → 
    (Q [.bool (E.bite (E.bite (E.eq (E.gi (r10 0)) (E.gi (r11 0))) (E.eq (E.gi (r10 1)) (E.gi (r11 1))) false) (E.gb (r12 0)) false)])))))))))
theorem w4 {P : Program} {tbl : FuncId → List A → List C}  {x1 : Int} {x2 : Int} {x3 : Int} {x4 : Int} {x5 : List (List C)} {x6 : List (List C)} {x7 : List (List C)} {row : List C} (h : vc4 (stdE P tbl) x1 x2 x3 x4 x5 x6 x7 fun c => c = row) : WPg P tbl rf4 [(false, [.bool])] row [.agg [.c (.int .i64 x1), .c (.int .i64 x2), .c (.int .i64 x3), .c (.int .i64 x4), .c (.sl [.int .i64] x5)], .c (.sl [.int .i64] x6), .c (.sl [.int .i64] x7)] := by
  refine ⟨?_⟩
  revert h
  generalize hE : stdE P tbl = E
  intro h
  unfold vc4 at h
  cbv
  have c13 := h.1
  refine ⟨c13, ?_⟩
  replace h := h.2 _ rfl
  refine ⟨fun hb14 => ?_, fun hb14 => ?_⟩
  · replace h := h.t hb14
    have c15 := h.1
    refine ⟨c15, ?_⟩
    replace h := h.2 _ rfl
    have h : _ = row := h
    subst h
    repeat' (first | exact trivial | exact rfl | refine And.intro ?_ ?_)
  · replace h := h.f hb14
    have c16 := h.1
    refine ⟨c16, ?_⟩
    replace h := h.2 _ rfl
    have c17 := h.1
    refine ⟨c17, ?_⟩
    replace h := h.2 _ rfl
    refine ⟨⟨fun hh => (by first | exact hh | trivial)⟩, ?_⟩
    refine ⟨⟨fun hh => (by first | exact hh | trivial)⟩, ?_⟩
    refine ⟨⟨fun hh => (by first | exact hh | trivial)⟩, ?_⟩
    have c18 := h.1
    refine ⟨c18, ?_⟩
    replace h := h.2 _ rfl
    refine ⟨⟨fun hh => (by first | exact hh | trivial)⟩, ?_⟩
    have h : _ = row := h
    subst h
    repeat' (first | exact trivial | exact rfl | refine And.intro ?_ ?_)
def S4 : List A → List C := fun _ => [.bool true]
def tbl4 : FuncId → List A → List C := fun f ds => match f with
  | 10 => S10 ds
  | 11 => S11 ds
  | 15 => S15 ds
  | 16 => S16 ds
  | _ => []
theorem pc4  {x1 : Int} {x2 : Int} {x3 : Int} {x4 : Int} {x5 : List (List C)} {x6 : List (List C)} {x7 : List (List C)} {row : List C} (hS : S4 [.agg [.c (.int .i64 x1), .c (.int .i64 x2), .c (.int .i64 x3), .c (.int .i64 x4), .c (.sl [.int .i64] x5)], .c (.sl [.int .i64] x6), .c (.sl [.int .i64] x7)] = row) (h : vc4 (stdE Try.prog tbl4) x1 x2 x3 x4 x5 x6 x7 fun c => c = row) : PCg Try.prog 4 S4 [(false, [.bool])] [.agg [.c (.int .i64 x1), .c (.int .i64 x2), .c (.int .i64 x3), .c (.int .i64 x4), .c (.sl [.int .i64] x5)], .c (.sl [.int .i64] x6), .c (.sl [.int .i64] x7)] := PureC_vc mo h4 (by kernel_rfl) hS (w4  h)
theorem p4 (w e t k : Int) (ss a b : List Int) : PureC Try.prog 4 [kB] [dk w e t k ss, sI (rowsI a), sI (rowsI b)] fun _ => .bool true := by
  refine PureC.one (get := fun i => (S4 [dk w e t k ss, sI (rowsI a), sI (rowsI b)]).getD i .nil) (pc4 (row := [.bool true]) rfl ?_) rfl
  unfold vc4
  have hrow : ([[C.sl [.int .i64] (rowsI a)], [C.sl [.int .i64] (rowsI b)]] : List (List C)) = rowL [a, b] := rfl
  simp only [stdE, baseE, Br_iff, Imp_iff, tbl4, forall_eq, hrow]
  simp only [p10, p11, implies_true, true_and]
  simp only [e10, e11, List.getD_cons_zero, gb_bool]
  cases h : lightB ss [a, b] with
  | false => simp
  | true =>
    have ha : a.length ≤ 20 := (light_spec h).2 a (by simp)
    have hb : b.length ≤ 20 := (light_spec h).2 b (by simp)
    refine ⟨fun q => by simp at q, fun _ => ⟨p15 w e t k ss (by omega) (by omega), p16 w e t k ss (by omega) (by omega), ?_⟩⟩
    simp only [e15, e16, mvV, List.getD_cons_zero, List.getD_cons_succ, gi_int]
    simp
end Go.Proofs.Ytjmgphobpgajbaa.V
