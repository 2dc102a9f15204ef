/- Knives: what Cost returns. No conditions. -/
import Derived.Test.YtjmgphobpgajbaaAw
set_option linter.unusedVariables false
set_option linter.unusedSimpArgs false
namespace Go.Proofs.Ytjmgphobpgajbaa.V
open Go Go.Eng
set_option maxRecDepth 1000000
set_option maxHeartbeats 4000000
/-- papermill papermilllaw49.KnifeCosts -/
def rf6 : RFn := ⟨(.seq (.ops 1 [⟨(some 3), (.v (.box 0 24 (.t 0))), none, []⟩, ⟨(some 6), (.v (.mv (.k (.c (.bool false))))), none, []⟩]) (.seq (.seq (.ops 0 [⟨(some 11), (.v (.lda 5 (.t 3))), none, []⟩, ⟨(some 12), (.v (.mv (.t 1))), none, []⟩, ⟨(some 13), (.v (.det 10 [⟨false, [.bool]⟩] [(.t 11), (.t 12)])), none, []⟩, ⟨(some 14), (.v (.un .not (.t 13))), none, []⟩, ⟨(some 15), (.v (.mv (.t 14))), none, []⟩, ⟨(some 16), (.v (.mv (.t 2))), (some ⟨15, false⟩), [(.t 2)]⟩, ⟨(some 17), (.v (.lenS (.t 16))), (some ⟨15, false⟩), [(.t 16)]⟩, ⟨(some 18), (.v (.bin .gtr (.t 17) (.k (.c (.int .i64 20))))), (some ⟨15, false⟩), [(.t 17), (.k (.c (.int .i64 20)))]⟩, ⟨(some 19), (.v (.pick (.t 15) (.k (.c (.bool true))) (.t 18))), none, []⟩]) (.cond (.t 19) (.seq (.ops 0 [⟨(some 20), (.v (.det 11 [⟨false, [.bool]⟩] [])), none, []⟩, ⟨(some 6), (.v (.mv (.t 20))), none, []⟩]) .ret) .skip)) (.seq (.ops 0 [⟨(some 22), (.v (.lda 5 (.t 3))), none, []⟩, ⟨(some 23), (.v (.mv (.t 1))), none, []⟩, ⟨(some 24), (.v (.mv (.t 2))), none, []⟩, ⟨(some 25), (.v (.det 19 [⟨false, [(.int .i64)]⟩, ⟨false, [(.int .i64)]⟩] [(.t 22), (.t 23), (.t 24)])), none, []⟩, ⟨(some 21), (.v (.mv (.t 25))), none, []⟩, ⟨(some 26), (.v (.ext (.t 21) 0)), none, []⟩, ⟨(some 27), (.v (.ext (.t 21) 1)), none, []⟩, ⟨(some 7), (.v (.mv (.t 26))), none, []⟩, ⟨(some 8), (.v (.mv (.t 27))), none, []⟩]) (.seq (.ops 0 [⟨(some 29), (.v (.lda 5 (.t 3))), none, []⟩, ⟨(some 30), (.v (.mv (.t 1))), none, []⟩, ⟨(some 31), (.v (.mv (.t 2))), none, []⟩, ⟨(some 32), (.v (.det 20 [⟨false, [(.int .i64)]⟩, ⟨false, [(.int .i64)]⟩] [(.t 29), (.t 30), (.t 31)])), none, []⟩, ⟨(some 28), (.v (.mv (.t 32))), none, []⟩, ⟨(some 33), (.v (.ext (.t 28) 0)), none, []⟩, ⟨(some 34), (.v (.ext (.t 28) 1)), none, []⟩, ⟨(some 9), (.v (.mv (.t 33))), none, []⟩, ⟨(some 10), (.v (.mv (.t 34))), none, []⟩]) (.seq (.ops 0 [⟨(some 35), (.v (.mv (.t 7))), none, []⟩, ⟨(some 36), (.v (.mv (.t 9))), none, []⟩, ⟨(some 37), (.v (.bin .eql (.t 35) (.t 36))), none, []⟩, ⟨(some 38), (.v (.mv (.t 37))), none, []⟩, ⟨(some 39), (.v (.mv (.t 8))), (some ⟨38, true⟩), [(.t 8)]⟩, ⟨(some 40), (.v (.mv (.t 10))), (some ⟨38, true⟩), [(.t 10)]⟩, ⟨(some 41), (.v (.bin .eql (.t 39) (.t 40))), (some ⟨38, true⟩), [(.t 39), (.t 40)]⟩, ⟨(some 42), (.v (.pick (.t 38) (.t 41) (.k (.c (.bool false))))), none, []⟩, ⟨(some 43), (.v (.mv (.t 42))), none, []⟩, ⟨(some 44), (.v (.det 11 [⟨false, [.bool]⟩] [])), (some ⟨43, true⟩), [(.k (.fn 11 []))]⟩, ⟨(some 45), (.v (.pick (.t 43) (.t 44) (.k (.c (.bool false))))), none, []⟩, ⟨(some 6), (.v (.mv (.t 45))), none, []⟩]) .ret))))), 46, [(.t 6)]⟩
theorem h6 : fnR Try.prog DD 6 = some rf6 := by kernel_rfl
def vc6 (E : Env) (x1 : Int) (x2 : Int) (x3 : Int) (x4 : Int) (x5 : List (List C)) (x6 : List (List C)) (x7 : List (List C)) (Q : List C → Prop) : Prop :=
  (E.pok 10 [(false, [.bool])] [.agg [.c (.int .i64 x1), .c (.int .i64 x2), .c (.int .i64 x3), .c (.int .i64 x4), .c (.sl [.int .i64] x5)], .c (.sl [.sl [.int .i64]] x6)]) ∧ (∀ r8 : Nat → C, r8 = E.res 10 [.agg [.c (.int .i64 x1), .c (.int .i64 x2), .c (.int .i64 x3), .c (.int .i64 x4), .c (.sl [.int .i64] x5)], .c (.sl [.sl [.int .i64]] x6)] → 
  (Br (E.bite (E.not (E.gb (r8 0))) true (E.lt 20 (E.len x7)))
  ((E.pok 11 [(false, [.bool])] []) ∧ (∀ r9 : Nat → C, r9 = E.res 11 [] → 
    (Q [.bool (E.gb (r9 0))])))
  ((E.pok 19 [(false, [.int .i64]), (false, [.int .i64])] [.agg [.c (.int .i64 x1), .c (.int .i64 x2), .c (.int .i64 x3), .c (.int .i64 x4), .c (.sl [.int .i64] x5)], .c (.sl [.sl [.int .i64]] x6), .c (.sl [.int .i64] x7)]) ∧ (∀ r10 : Nat → C, r10 = E.res 19 [.agg [.c (.int .i64 x1), .c (.int .i64 x2), .c (.int .i64 x3), .c (.int .i64 x4), .c (.sl [.int .i64] x5)], .c (.sl [.sl [.int .i64]] x6), .c (.sl [.int .i64] x7)] → 
    ((E.pok 20 [(false, [.int .i64]), (false, [.int .i64])] [.agg [.c (.int .i64 x1), .c (.int .i64 x2), .c (.int .i64 x3), .c (.int .i64 x4), .c (.sl [.int .i64] x5)], .c (.sl [.sl [.int .i64]] x6), .c (.sl [.int .i64] x7)]) ∧ (∀ r11 : Nat → C, r11 = E.res 20 [.agg [.c (.int .i64 x1), .c (.int .i64 x2), .c (.int .i64 x3), .c (.int .i64 x4), .c (.sl [.int .i64] x5)], .c (.sl [.sl [.int .i64]] x6), .c (.sl [.int .i64] x7)] → 
    ((Imp (E.bite (E.eq (E.gi (r10 0)) (E.gi (r11 0))) (E.eq (E.gi (r10 1)) (E.gi (r11 1))) false) (E.pok 11 [(false, [.bool])] [])) ∧ (∀ r12 : Nat → C, r12 = E.res 11 [] → 
    (Q [.bool (E.bite (E.bite (E.eq (E.gi (r10 0)) (E.gi (r11 0))) (E.eq (E.gi (r10 1)) (E.gi (r11 1))) false) (E.gb (r12 0)) false)])))))))))
theorem w6 {P : Program} {tbl : FuncId → List A → List C}  {x1 : Int} {x2 : Int} {x3 : Int} {x4 : Int} {x5 : List (List C)} {x6 : List (List C)} {x7 : List (List C)} {row : List C} (h : vc6 (stdE P tbl) x1 x2 x3 x4 x5 x6 x7 fun c => c = row) : WPg P tbl rf6 [(false, [.bool])] row [.agg [.c (.int .i64 x1), .c (.int .i64 x2), .c (.int .i64 x3), .c (.int .i64 x4), .c (.sl [.int .i64] x5)], .c (.sl [.sl [.int .i64]] x6), .c (.sl [.int .i64] x7)] := by
  refine ⟨?_⟩
  revert h
  generalize hE : stdE P tbl = E
  intro h
  unfold vc6 at h
  cbv
  have c13 := h.1
  refine ⟨c13, ?_⟩
  replace h := h.2 _ rfl
  refine ⟨⟨fun hh => (by first | exact hh | trivial)⟩, ?_⟩
  refine ⟨⟨fun hh => (by first | exact hh | trivial)⟩, ?_⟩
  refine ⟨⟨fun hh => (by first | exact hh | trivial)⟩, ?_⟩
  refine ⟨fun hb14 => ?_, fun hb14 => ?_⟩
  · replace h := h.t hb14
    have c15 := h.1
    refine ⟨c15, ?_⟩
    replace h := h.2 _ rfl
    have h : _ = row := h
    subst h
    repeat' (first | exact trivial | exact rfl | refine And.intro ?_ ?_)
  · replace h := h.f hb14
    have c16 := h.1
    refine ⟨c16, ?_⟩
    replace h := h.2 _ rfl
    have c17 := h.1
    refine ⟨c17, ?_⟩
    replace h := h.2 _ rfl
    refine ⟨⟨fun hh => (by first | exact hh | trivial)⟩, ?_⟩
    refine ⟨⟨fun hh => (by first | exact hh | trivial)⟩, ?_⟩
    refine ⟨⟨fun hh => (by first | exact hh | trivial)⟩, ?_⟩
    have c18 := h.1
    refine ⟨c18, ?_⟩
    replace h := h.2 _ rfl
    refine ⟨⟨fun hh => (by first | exact hh | trivial)⟩, ?_⟩
    have h : _ = row := h
    subst h
    repeat' (first | exact trivial | exact rfl | refine And.intro ?_ ?_)
def S6 : List A → List C := fun _ => [.bool true]
def tbl6 : FuncId → List A → List C := fun f ds => match f with
  | 10 => S10 ds
  | 11 => S11 ds
  | 19 => S19 ds
  | 20 => S20 ds
  | _ => []
theorem pc6  {x1 : Int} {x2 : Int} {x3 : Int} {x4 : Int} {x5 : List (List C)} {x6 : List (List C)} {x7 : List (List C)} {row : List C} (hS : S6 [.agg [.c (.int .i64 x1), .c (.int .i64 x2), .c (.int .i64 x3), .c (.int .i64 x4), .c (.sl [.int .i64] x5)], .c (.sl [.sl [.int .i64]] x6), .c (.sl [.int .i64] x7)] = row) (h : vc6 (stdE Try.prog tbl6) x1 x2 x3 x4 x5 x6 x7 fun c => c = row) : PCg Try.prog 6 S6 [(false, [.bool])] [.agg [.c (.int .i64 x1), .c (.int .i64 x2), .c (.int .i64 x3), .c (.int .i64 x4), .c (.sl [.int .i64] x5)], .c (.sl [.sl [.int .i64]] x6), .c (.sl [.int .i64] x7)] := PureC_vc mo h6 (by kernel_rfl) hS (w6  h)
theorem p6 (w e t k : Int) (ss : List Int) (l : List (List Int)) (o : List Int) : PureC Try.prog 6 [kB] [dk w e t k ss, sL (rowL l), sI (rowsI o)] fun _ => .bool true := by
  refine PureC.one (get := fun i => (S6 [dk w e t k ss, sL (rowL l), sI (rowsI o)]).getD i .nil) (pc6 (row := [.bool true]) rfl ?_) rfl
  unfold vc6
  simp only [stdE, baseE, Br_iff, Imp_iff, tbl6, forall_eq, rowL_len, rowsI_len]
  simp only [p10, p11, implies_true, true_and]
  simp only [e10, e11, List.getD_cons_zero, gb_bool]
  cases h : lightB ss l with
  | false => simp
  | true =>
    have hl : ∀ c ∈ l, c.length ≤ 1000000 := fun c hc => by have := (light_spec h).2 c hc; omega
    refine ⟨fun q => trivial, fun _ => ⟨p19 w e t k ss hl o, p20 w e t k ss hl o, ?_⟩⟩
    simp only [e19, e20]
    simp
end Go.Proofs.Ytjmgphobpgajbaa.V
