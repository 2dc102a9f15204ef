/- Knives: the order that Sequence returns is the best one. No conditions. -/
import Derived.Test.YtjmgphobpgajbaaAw
set_option linter.unusedVariables false
set_option linter.unusedSimpArgs false
namespace Go.Proofs.Ytjmgphobpgajbaa.V
open Go Go.Eng
set_option maxRecDepth 1000000
set_option maxHeartbeats 4000000
/-- papermill papermilllaw49.KnifeLeast -/
def rf7 : RFn := ⟨(.seq (.ops 1 [⟨(some 3), (.v (.box 0 24 (.t 0))), none, []⟩, ⟨(some 6), (.v (.mv (.k (.c (.bool false))))), none, []⟩]) (.seq (.seq (.ops 0 [⟨(some 14), (.v (.lda 5 (.t 3))), none, []⟩, ⟨(some 15), (.v (.mv (.t 1))), none, []⟩, ⟨(some 16), (.v (.det 10 [⟨false, [.bool]⟩] [(.t 14), (.t 15)])), none, []⟩, ⟨(some 17), (.v (.un .not (.t 16))), none, []⟩, ⟨(some 18), (.v (.mv (.t 17))), none, []⟩, ⟨(some 19), (.v (.mv (.t 2))), (some ⟨18, false⟩), [(.t 2)]⟩, ⟨(some 20), (.v (.lenS (.t 19))), (some ⟨18, false⟩), [(.t 19)]⟩, ⟨(some 21), (.v (.bin .gtr (.t 20) (.k (.c (.int .i64 20))))), (some ⟨18, false⟩), [(.t 20), (.k (.c (.int .i64 20)))]⟩, ⟨(some 22), (.v (.pick (.t 18) (.k (.c (.bool true))) (.t 21))), none, []⟩]) (.cond (.t 22) (.seq (.ops 0 [⟨(some 23), (.v (.det 11 [⟨false, [.bool]⟩] [])), none, []⟩, ⟨(some 6), (.v (.mv (.t 23))), none, []⟩]) .ret) .skip)) (.seq (.ops 0 [⟨(some 25), (.v (.lda 5 (.t 3))), none, []⟩, ⟨(some 26), (.v (.mv (.t 1))), none, []⟩, ⟨(some 27), (.v (.det 17 [⟨false, [(.sl [(.int .i64)])]⟩, ⟨false, [(.int .i64)]⟩, ⟨false, [(.int .i64)]⟩] [(.t 25), (.t 26)])), none, []⟩, ⟨(some 24), (.v (.mv (.t 27))), none, []⟩, ⟨(some 28), (.v (.ext (.t 24) 0)), none, []⟩, ⟨(some 29), (.v (.ext (.t 24) 1)), none, []⟩, ⟨(some 30), (.v (.ext (.t 24) 2)), none, []⟩, ⟨(some 7), (.v (.mv (.t 28))), none, []⟩, ⟨(some 8), (.v (.mv (.t 29))), none, []⟩, ⟨(some 9), (.v (.mv (.t 30))), none, []⟩]) (.seq (.seq (.ops 0 [⟨(some 31), (.v (.mv (.t 9))), none, []⟩, ⟨(some 32), (.v (.bin .neq (.t 31) (.k (.c (.int .i64 0))))), none, []⟩]) (.cond (.t 32) (.seq (.ops 0 [⟨(some 33), (.v (.mv (.t 7))), none, []⟩, ⟨(some 34), (.v (.lenS (.t 33))), none, []⟩, ⟨(some 35), (.v (.bin .eql (.t 34) (.k (.c (.int .i64 0))))), none, []⟩, ⟨(some 36), (.v (.mv (.t 35))), none, []⟩, ⟨(some 37), (.v (.mv (.t 8))), (some ⟨36, true⟩), [(.t 8)]⟩, ⟨(some 38), (.v (.bin .eql (.t 37) (.k (.c (.int .i64 0))))), (some ⟨36, true⟩), [(.t 37), (.k (.c (.int .i64 0)))]⟩, ⟨(some 39), (.v (.pick (.t 36) (.t 38) (.k (.c (.bool false))))), none, []⟩, ⟨(some 40), (.v (.mv (.t 39))), none, []⟩, ⟨(some 41), (.v (.det 11 [⟨false, [.bool]⟩] [])), (some ⟨40, true⟩), [(.k (.fn 11 []))]⟩, ⟨(some 42), (.v (.pick (.t 40) (.t 41) (.k (.c (.bool false))))), none, []⟩, ⟨(some 6), (.v (.mv (.t 42))), none, []⟩]) .ret) .skip)) (.seq (.ops 0 [⟨(some 44), (.v (.lda 5 (.t 3))), none, []⟩, ⟨(some 45), (.v (.mv (.t 1))), none, []⟩, ⟨(some 46), (.v (.mv (.t 7))), none, []⟩, ⟨(some 47), (.v (.det 19 [⟨false, [(.int .i64)]⟩, ⟨false, [(.int .i64)]⟩] [(.t 44), (.t 45), (.t 46)])), none, []⟩, ⟨(some 43), (.v (.mv (.t 47))), none, []⟩, ⟨(some 48), (.v (.ext (.t 43) 0)), none, []⟩, ⟨(some 49), (.v (.ext (.t 43) 1)), none, []⟩, ⟨(some 10), (.v (.mv (.t 48))), none, []⟩, ⟨(some 11), (.v (.mv (.t 49))), none, []⟩]) (.seq (.seq (.ops 0 [⟨(some 50), (.v (.mv (.t 11))), none, []⟩, ⟨(some 51), (.v (.bin .neq (.t 50) (.k (.c (.int .i64 0))))), none, []⟩, ⟨(some 52), (.v (.mv (.t 51))), none, []⟩, ⟨(some 53), (.v (.mv (.t 10))), (some ⟨52, false⟩), [(.t 10)]⟩, ⟨(some 54), (.v (.mv (.t 8))), (some ⟨52, false⟩), [(.t 8)]⟩, ⟨(some 55), (.v (.bin .neq (.t 53) (.t 54))), (some ⟨52, false⟩), [(.t 53), (.t 54)]⟩, ⟨(some 56), (.v (.pick (.t 52) (.k (.c (.bool true))) (.t 55))), none, []⟩, ⟨(some 57), (.v (.mv (.t 56))), none, []⟩, ⟨(some 58), (.v (.mv (.t 7))), (some ⟨57, false⟩), [(.t 7)]⟩, ⟨(some 59), (.v (.lenS (.t 58))), (some ⟨57, false⟩), [(.t 58)]⟩, ⟨(some 60), (.v (.mv (.t 1))), (some ⟨57, false⟩), [(.t 1)]⟩, ⟨(some 61), (.v (.lenS (.t 60))), (some ⟨57, false⟩), [(.t 60)]⟩, ⟨(some 62), (.v (.bin .neq (.t 59) (.t 61))), (some ⟨57, false⟩), [(.t 59), (.t 61)]⟩, ⟨(some 63), (.v (.pick (.t 57) (.k (.c (.bool true))) (.t 62))), none, []⟩]) (.cond (.t 63) (.seq (.ops 0 [⟨(some 6), (.v (.mv (.k (.c (.bool false))))), none, []⟩]) .ret) .skip)) (.seq (.ops 0 [⟨(some 65), (.v (.lda 5 (.t 3))), none, []⟩, ⟨(some 66), (.v (.mv (.t 1))), none, []⟩, ⟨(some 67), (.v (.mv (.t 2))), none, []⟩, ⟨(some 68), (.v (.det 19 [⟨false, [(.int .i64)]⟩, ⟨false, [(.int .i64)]⟩] [(.t 65), (.t 66), (.t 67)])), none, []⟩, ⟨(some 64), (.v (.mv (.t 68))), none, []⟩, ⟨(some 69), (.v (.ext (.t 64) 0)), none, []⟩, ⟨(some 70), (.v (.ext (.t 64) 1)), none, []⟩, ⟨(some 12), (.v (.mv (.t 69))), none, []⟩, ⟨(some 13), (.v (.mv (.t 70))), none, []⟩]) (.seq (.seq (.ops 0 [⟨(some 71), (.v (.mv (.t 13))), none, []⟩, ⟨(some 72), (.v (.bin .neq (.t 71) (.k (.c (.int .i64 0))))), none, []⟩]) (.cond (.t 72) (.seq (.ops 0 [⟨(some 73), (.v (.mv (.t 12))), none, []⟩, ⟨(some 74), (.v (.bin .eql (.t 73) (.k (.c (.int .i64 0))))), none, []⟩, ⟨(some 75), (.v (.mv (.t 74))), none, []⟩, ⟨(some 76), (.v (.det 11 [⟨false, [.bool]⟩] [])), (some ⟨75, true⟩), [(.k (.fn 11 []))]⟩, ⟨(some 77), (.v (.pick (.t 75) (.t 76) (.k (.c (.bool false))))), none, []⟩, ⟨(some 6), (.v (.mv (.t 77))), none, []⟩]) .ret) .skip)) (.seq (.ops 0 [⟨(some 78), (.v (.mv (.t 12))), none, []⟩, ⟨(some 79), (.v (.mv (.t 8))), none, []⟩, ⟨(some 80), (.v (.bin .gtr (.t 78) (.t 79))), none, []⟩, ⟨(some 81), (.v (.mv (.t 80))), none, []⟩, ⟨(some 82), (.v (.mv (.t 12))), (some ⟨81, false⟩), [(.t 12)]⟩, ⟨(some 83), (.v (.mv (.t 8))), (some ⟨81, false⟩), [(.t 8)]⟩, ⟨(some 84), (.v (.bin .eql (.t 82) (.t 83))), (some ⟨81, false⟩), [(.t 82), (.t 83)]⟩, ⟨(some 85), (.v (.mv (.t 84))), (some ⟨81, false⟩), [(.t 84)]⟩, ⟨(some 86), (.v (.mv (.t 2))), (some ⟨85, true⟩), [(.t 2)]⟩, ⟨(some 87), (.v (.mv (.t 7))), (some ⟨85, true⟩), [(.t 7)]⟩, ⟨(some 88), (.v (.det 21 [⟨false, [.bool]⟩] [(.t 86), (.t 87)])), (some ⟨85, true⟩), [(.k (.fn 21 [])), (.t 86), (.t 87)]⟩, ⟨(some 89), (.v (.un .not (.t 88))), (some ⟨85, true⟩), [(.t 88)]⟩, ⟨(some 90), (.v (.pick (.t 85) (.t 89) (.k (.c (.bool false))))), (some ⟨81, false⟩), [(.t 85), (.t 89), (.k (.c (.bool false)))]⟩, ⟨(some 91), (.v (.pick (.t 81) (.k (.c (.bool true))) (.t 90))), none, []⟩, ⟨(some 92), (.v (.mv (.t 91))), none, []⟩, ⟨(some 93), (.v (.det 11 [⟨false, [.bool]⟩] [])), (some ⟨92, true⟩), [(.k (.fn 11 []))]⟩, ⟨(some 94), (.v (.pick (.t 92) (.t 93) (.k (.c (.bool false))))), none, []⟩, ⟨(some 6), (.v (.mv (.t 94))), none, []⟩]) .ret))))))))), 95, [(.t 6)]⟩
theorem h7 : fnR Try.prog DD 7 = some rf7 := by kernel_rfl
def vc7 (E : Env) (x1 : Int) (x2 : Int) (x3 : Int) (x4 : Int) (x5 : List (List C)) (x6 : List (List C)) (x7 : List (List C)) (Q : List C → Prop) : Prop :=
  (E.pok 10 [(false, [.bool])] [.agg [.c (.int .i64 x1), .c (.int .i64 x2), .c (.int .i64 x3), .c (.int .i64 x4), .c (.sl [.int .i64] x5)], .c (.sl [.sl [.int .i64]] x6)]) ∧ (∀ r8 : Nat → C, r8 = E.res 10 [.agg [.c (.int .i64 x1), .c (.int .i64 x2), .c (.int .i64 x3), .c (.int .i64 x4), .c (.sl [.int .i64] x5)], .c (.sl [.sl [.int .i64]] x6)] → 
  (Br (E.bite (E.not (E.gb (r8 0))) true (E.lt 20 (E.len x7)))
  ((E.pok 11 [(false, [.bool])] []) ∧ (∀ r9 : Nat → C, r9 = E.res 11 [] → 
    (Q [.bool (E.gb (r9 0))])))
  ((E.pok 17 [(false, [.sl [.int .i64]]), (false, [.int .i64]), (false, [.int .i64])] [.agg [.c (.int .i64 x1), .c (.int .i64 x2), .c (.int .i64 x3), .c (.int .i64 x4), .c (.sl [.int .i64] x5)], .c (.sl [.sl [.int .i64]] x6)]) ∧ (∀ r10 : Nat → C, r10 = E.res 17 [.agg [.c (.int .i64 x1), .c (.int .i64 x2), .c (.int .i64 x3), .c (.int .i64 x4), .c (.sl [.int .i64] x5)], .c (.sl [.sl [.int .i64]] x6)] → 
    (Br (E.not (E.eq (E.gi (r10 2)) 0))
    ((Imp (E.bite (E.eq (E.len (E.gl (r10 0))) 0) (E.eq (E.gi (r10 1)) 0) false) (E.pok 11 [(false, [.bool])] [])) ∧ (∀ r11 : Nat → C, r11 = E.res 11 [] → 
      (Q [.bool (E.bite (E.bite (E.eq (E.len (E.gl (r10 0))) 0) (E.eq (E.gi (r10 1)) 0) false) (E.gb (r11 0)) false)])))
    ((E.pok 19 [(false, [.int .i64]), (false, [.int .i64])] [.agg [.c (.int .i64 x1), .c (.int .i64 x2), .c (.int .i64 x3), .c (.int .i64 x4), .c (.sl [.int .i64] x5)], .c (.sl [.sl [.int .i64]] x6), .c (.sl [.int .i64] (E.gl (r10 0)))]) ∧ (∀ r12 : Nat → C, r12 = E.res 19 [.agg [.c (.int .i64 x1), .c (.int .i64 x2), .c (.int .i64 x3), .c (.int .i64 x4), .c (.sl [.int .i64] x5)], .c (.sl [.sl [.int .i64]] x6), .c (.sl [.int .i64] (E.gl (r10 0)))] → 
      (Br (E.bite (E.bite (E.not (E.eq (E.gi (r12 1)) 0)) true (E.not (E.eq (E.gi (r12 0)) (E.gi (r10 1))))) true (E.not (E.eq (E.len (E.gl (r10 0))) (E.len x6))))
      (Q [.bool false])
      ((E.pok 19 [(false, [.int .i64]), (false, [.int .i64])] [.agg [.c (.int .i64 x1), .c (.int .i64 x2), .c (.int .i64 x3), .c (.int .i64 x4), .c (.sl [.int .i64] x5)], .c (.sl [.sl [.int .i64]] x6), .c (.sl [.int .i64] x7)]) ∧ (∀ r13 : Nat → C, r13 = E.res 19 [.agg [.c (.int .i64 x1), .c (.int .i64 x2), .c (.int .i64 x3), .c (.int .i64 x4), .c (.sl [.int .i64] x5)], .c (.sl [.sl [.int .i64]] x6), .c (.sl [.int .i64] x7)] → 
        (Br (E.not (E.eq (E.gi (r13 1)) 0))
        ((Imp (E.eq (E.gi (r13 0)) 0) (E.pok 11 [(false, [.bool])] [])) ∧ (∀ r14 : Nat → C, r14 = E.res 11 [] → 
          (Q [.bool (E.bite (E.eq (E.gi (r13 0)) 0) (E.gb (r14 0)) false)])))
        ((Imp (E.and (E.not (E.lt (E.gi (r10 1)) (E.gi (r13 0)))) (E.eq (E.gi (r13 0)) (E.gi (r10 1)))) (E.pok 21 [(false, [.bool])] [.c (.sl [.int .i64] x7), .c (.sl [.int .i64] (E.gl (r10 0)))])) ∧ (∀ r15 : Nat → C, r15 = E.res 21 [.c (.sl [.int .i64] x7), .c (.sl [.int .i64] (E.gl (r10 0)))] → 
          ((Imp (E.not (E.lt (E.gi (r10 1)) (E.gi (r13 0)))) (Imp (E.eq (E.gi (r13 0)) (E.gi (r10 1))) ((E.and (E.not (E.lt (E.gi (r10 1)) (E.gi (r13 0)))) (E.eq (E.gi (r13 0)) (E.gi (r10 1)))) = true))) ∧ 
          ((Imp (E.bite (E.lt (E.gi (r10 1)) (E.gi (r13 0))) true (E.bite (E.eq (E.gi (r13 0)) (E.gi (r10 1))) (E.not (E.gb (r15 0))) false)) (E.pok 11 [(false, [.bool])] [])) ∧ (∀ r16 : Nat → C, r16 = E.res 11 [] → 
          (Q [.bool (E.bite (E.bite (E.lt (E.gi (r10 1)) (E.gi (r13 0))) true (E.bite (E.eq (E.gi (r13 0)) (E.gi (r10 1))) (E.not (E.gb (r15 0))) false)) (E.gb (r16 0)) false)])))))))))))))))))
theorem w7 {P : Program} {tbl : FuncId → List A → List C}  {x1 : Int} {x2 : Int} {x3 : Int} {x4 : Int} {x5 : List (List C)} {x6 : List (List C)} {x7 : List (List C)} {row : List C} (h : vc7 (stdE P tbl) x1 x2 x3 x4 x5 x6 x7 fun c => c = row) : WPg P tbl rf7 [(false, [.bool])] row [.agg [.c (.int .i64 x1), .c (.int .i64 x2), .c (.int .i64 x3), .c (.int .i64 x4), .c (.sl [.int .i64] x5)], .c (.sl [.sl [.int .i64]] x6), .c (.sl [.int .i64] x7)] := by
  refine ⟨?_⟩
  revert h
  generalize hE : stdE P tbl = E
  intro h
  unfold vc7 at h
  cbv
  have c17 := h.1
  refine ⟨c17, ?_⟩
  replace h := h.2 _ rfl
  refine ⟨⟨fun hh => (by first | exact hh | trivial)⟩, ?_⟩
  refine ⟨⟨fun hh => (by first | exact hh | trivial)⟩, ?_⟩
  refine ⟨⟨fun hh => (by first | exact hh | trivial)⟩, ?_⟩
  refine ⟨fun hb18 => ?_, fun hb18 => ?_⟩
  · replace h := h.t hb18
    have c19 := h.1
    refine ⟨c19, ?_⟩
    replace h := h.2 _ rfl
    have h : _ = row := h
    subst h
    repeat' (first | exact trivial | exact rfl | refine And.intro ?_ ?_)
  · replace h := h.f hb18
    have c20 := h.1
    refine ⟨c20, ?_⟩
    replace h := h.2 _ rfl
    refine ⟨fun hb21 => ?_, fun hb21 => ?_⟩
    · replace h := h.t hb21
      refine ⟨⟨fun hh => (by first | exact hh | trivial)⟩, ?_⟩
      refine ⟨⟨fun hh => (by first | exact hh | trivial)⟩, ?_⟩
      have c22 := h.1
      refine ⟨c22, ?_⟩
      replace h := h.2 _ rfl
      refine ⟨⟨fun hh => (by first | exact hh | trivial)⟩, ?_⟩
      have h : _ = row := h
      subst h
      repeat' (first | exact trivial | exact rfl | refine And.intro ?_ ?_)
    · replace h := h.f hb21
      have c23 := h.1
      refine ⟨c23, ?_⟩
      replace h := h.2 _ rfl
      refine ⟨⟨fun hh => (by first | exact hh | trivial)⟩, ?_⟩
      refine ⟨⟨fun hh => (by first | exact hh | trivial)⟩, ?_⟩
      refine ⟨⟨fun hh => (by first | exact hh | trivial)⟩, ?_⟩
      refine ⟨⟨fun hh => (by first | exact hh | trivial)⟩, ?_⟩
      refine ⟨⟨fun hh => (by first | exact hh | trivial)⟩, ?_⟩
      refine ⟨⟨fun hh => (by first | exact hh | trivial)⟩, ?_⟩
      refine ⟨⟨fun hh => (by first | exact hh | trivial)⟩, ?_⟩
      refine ⟨⟨fun hh => (by first | exact hh | trivial)⟩, ?_⟩
      refine ⟨fun hb24 => ?_, fun hb24 => ?_⟩
      · replace h := h.t hb24
        have h : _ = row := h
        subst h
        repeat' (first | exact trivial | exact rfl | refine And.intro ?_ ?_)
      · replace h := h.f hb24
        have c25 := h.1
        refine ⟨c25, ?_⟩
        replace h := h.2 _ rfl
        refine ⟨fun hb26 => ?_, fun hb26 => ?_⟩
        · replace h := h.t hb26
          have c27 := h.1
          refine ⟨c27, ?_⟩
          replace h := h.2 _ rfl
          refine ⟨⟨fun hh => (by first | exact hh | trivial)⟩, ?_⟩
          have h : _ = row := h
          subst h
          repeat' (first | exact trivial | exact rfl | refine And.intro ?_ ?_)
        · replace h := h.f hb26
          refine ⟨⟨fun hh => (by first | exact hh | trivial)⟩, ?_⟩
          refine ⟨⟨fun hh => (by first | exact hh | trivial)⟩, ?_⟩
          refine ⟨⟨fun hh => (by first | exact hh | trivial)⟩, ?_⟩
          refine ⟨⟨fun hh => (by first | exact hh | trivial)⟩, ?_⟩
          refine ⟨⟨fun hh => (by first | exact hh | trivial)⟩, ?_⟩
          have c28 := h.1
          refine ⟨c28, ?_⟩
          replace h := h.2 _ rfl
          refine ⟨⟨fun hh => (by first | exact hh | trivial)⟩, ?_⟩
          refine ⟨⟨fun hh => (by first | exact hh | trivial)⟩, ?_⟩
          have c29 := h.1
          refine ⟨c29, ?_⟩
          replace h := h.2
          refine ⟨⟨fun hh => (by first | exact hh | trivial)⟩, ?_⟩
          have c30 := h.1
          refine ⟨c30, ?_⟩
          replace h := h.2 _ rfl
          refine ⟨⟨fun hh => (by first | exact hh | trivial)⟩, ?_⟩
          have h : _ = row := h
          subst h
          repeat' (first | exact trivial | exact rfl | refine And.intro ?_ ?_)
def S7 : List A → List C := fun _ => [.bool true]
def tbl7 : FuncId → List A → List C := fun f ds => match f with
  | 10 => S10 ds
  | 11 => S11 ds
  | 17 => S17 ds
  | 19 => S19 ds
  | 21 => S21 ds
  | _ => []
theorem pc7  {x1 : Int} {x2 : Int} {x3 : Int} {x4 : Int} {x5 : List (List C)} {x6 : List (List C)} {x7 : List (List C)} {row : List C} (hS : S7 [.agg [.c (.int .i64 x1), .c (.int .i64 x2), .c (.int .i64 x3), .c (.int .i64 x4), .c (.sl [.int .i64] x5)], .c (.sl [.sl [.int .i64]] x6), .c (.sl [.int .i64] x7)] = row) (h : vc7 (stdE Try.prog tbl7) x1 x2 x3 x4 x5 x6 x7 fun c => c = row) : PCg Try.prog 7 S7 [(false, [.bool])] [.agg [.c (.int .i64 x1), .c (.int .i64 x2), .c (.int .i64 x3), .c (.int .i64 x4), .c (.sl [.int .i64] x5)], .c (.sl [.sl [.int .i64]] x6), .c (.sl [.int .i64] x7)] := PureC_vc mo h7 (by kernel_rfl) hS (w7  h)
theorem perm_of_sub : ∀ {w v : List Int}, w.Nodup → (∀ z ∈ w, z ∈ v) → v.length ≤ w.length → w.Perm v
  | [], v, _, _, h => by rw [List.length_eq_zero_iff.1 (Nat.le_zero.1 h)]
  | a :: w, v, hn, hs, h => by
    rw [List.nodup_cons] at hn
    have ha := hs a (by simp)
    have hp := List.perm_cons_erase ha
    have hl := hp.length_eq
    simp only [List.length_cons] at hl h
    exact ((perm_of_sub hn.2 (fun z hz => (List.mem_erase_of_ne (fun e => hn.1 (by rw [← e]; exact hz))).2 (hs z (by simp [hz]))) (by omega)).cons a).trans hp.symm
theorem vO_perm {n : Nat} {w : List Int} (h : vO n w) (hl : w.length = n) : w.Perm (rgI n) := by
  have hsub : ∀ z ∈ w, z ∈ rgI n := fun z hz => rgI_mem.2 (h.1 z hz)
  have hnd : (rgI n).Nodup := (rgI_lt n).imp fun h => by omega
  exact perm_of_sub h.2 hsub (by rw [rgI_len]; omega)
theorem perm_vO {n : Nat} {w : List Int} (h : w.Perm (rgI n)) : vO n w := ⟨fun z hz => rgI_mem.1 (h.subset hz), h.nodup_iff.2 ((rgI_lt n).imp fun h => by omega)⟩
theorem p7 (w e t k : Int) (ss : List Int) (l : List (List Int)) (o : List Int) : PureC Try.prog 7 [kB] [dk w e t k ss, sL (rowL l), sI (rowsI o)] fun _ => .bool true := by
  refine PureC.one (get := fun i => (S7 [dk w e t k ss, sL (rowL l), sI (rowsI o)]).getD i .nil) (pc7 (row := [.bool true]) rfl ?_) rfl
  unfold vc7
  simp only [stdE, baseE, Br_iff, Imp_iff, tbl7, forall_eq, rowL_len, rowsI_len]
  simp only [p10, p11, implies_true, true_and]
  simp only [e10, e11, List.getD_cons_zero, gb_bool]
  cases h : lightB ss l with
  | false => simp
  | true =>
    have hl : ∀ c ∈ l, c.length ≤ 1000000 := fun c hc => by have := (light_spec h).2 c hc; omega
    refine ⟨fun q => trivial, fun q0 => ⟨p17 w e t k ss hl, ?_⟩⟩
    have ho : o.length ≤ 20 := by simp at q0; omega
    simp only [e17]
    by_cases hA : allE w e t k ss l = 0
    · obtain ⟨P, hPe⟩ : ∃ P, allP w e t k ss l = P := ⟨_, rfl⟩
      have hPl : P.length = l.length := by rw [← hPe, allP_len]
      have hP : okG P := by rw [← hPe]; exact (allP_ok w e t k ss l).2
      have h8 := allE_ok hA
      obtain ⟨r, t1, t2, t3, t4, t5⟩ := sqT_spec hP
      have hrl := t2.length_eq
      rw [rgI_len] at hrl
      have hv : sqV w e t k ss l = [.sl [.int .i64] (rowsI r), .int .i64 (lenL P (-1 :: r)), .int .i64 0] := by rw [sqV, if_pos hA, hPe, t1]; rfl
      simp only [hv, List.getD_cons_zero, List.getD_cons_succ, gi_int, gl_sl, rowsI_len]
      refine ⟨fun q => by simp at q, fun _ => ⟨p19 w e t k ss hl r, ?_⟩⟩
      have hvr : vO l.length r := by rw [← hPl]; exact perm_vO t2
      have hcr : csV w e t k ss l r = [.int .i64 (lenL P (-1 :: r)), .int .i64 0] := by rw [csV, if_neg (fun z => z hA), if_neg (by omega), if_pos hvr, hPe]
      simp only [e19, hcr, List.getD_cons_zero, List.getD_cons_succ, gi_int]
      have hrle : ((r.length : Int) == (l.length : Int)) = true := by simp; omega
      simp only [hrle, beq_self_eq_true, Bool.not_true, Bool.false_eq_true, if_false]
      refine ⟨(fun q => by cases q), fun _ => ⟨PureC.cg (p19 w e t k ss hl o) (e19 ..), ?_⟩⟩
      by_cases hvo : o.length = l.length ∧ vO l.length o
      · have hco : csV w e t k ss l o = [.int .i64 (lenL P (-1 :: o)), .int .i64 0] := by rw [csV, if_neg (fun z => z hA), if_neg (fun z => z hvo.1), if_pos hvo.2, hPe]
        have hop : o.Perm (rgI P.length) := by rw [hPl]; exact vO_perm hvo.2 hvo.1
        have hmin := t3 o hop
        have hlex := best_lex (g := P) P.length [-1] (rgI P.length) (rgI_len _) (by simp) (rgI_lt _) o hop
        rw [show best P P.length [-1] (rgI P.length) = sqT P from rfl, t1] at hlex
        simp only [hco, List.getD_cons_zero, List.getD_cons_succ, gi_int]
        refine ⟨fun q => by simp at q, fun _ => ⟨fun _ => p21 (by omega) r, fun q1 q2 => by simp at q1 q2 ⊢; omega, ?_⟩⟩
        simp only [e21, List.getD_cons_zero, gb_bool]
        by_cases c1 : lenL P (-1 :: r) < lenL P (-1 :: o)
        · simp [c1]
        · have c2 : lenL P (-1 :: o) = lenL P (-1 :: r) := by omega
          have c3 := hlex (by simpa using c2)
          have c4 : lx o r = false := by
            cases hb : lx o r with
            | false => rfl
            | true =>
              refine absurd ?_ c3
              have := (lx_iff o r).1 hb
              exact (lexB_app [-1] o r).2 this
          simp [c2, c4]
      · have hco : csV w e t k ss l o = [.int .i64 0, .int .i64 3] := by
          rw [csV, if_neg (fun z => z hA)]
          by_cases c1 : o.length = l.length
          · rw [if_neg (fun z => z c1), if_neg (fun z => hvo ⟨c1, z⟩)]
          · rw [if_pos c1]
        simp only [hco, List.getD_cons_zero, List.getD_cons_succ, gi_int]
        simp
    · have hv : sqV w e t k ss l = [.sl [.int .i64] [], .int .i64 0, .int .i64 (allE w e t k ss l)] := by rw [sqV, if_neg hA]
      have hA' : (allE w e t k ss l == 0) = false := by simpa using hA
      simp only [hv, List.getD_cons_zero, List.getD_cons_succ, gi_int, gl_sl, hA']
      simp
end Go.Proofs.Ytjmgphobpgajbaa.V
