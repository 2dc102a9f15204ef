/- Defects: the walk of DefectSelects. No conditions. -/
import Derived.Test.YtkdapoipnkpbeaaPairs
set_option linter.unusedVariables false
set_option linter.unusedSimpArgs false
namespace Go.Proofs.Ytkdapoipnkpbeaa.V
open Go Go.Eng
set_option maxRecDepth 1000000
set_option maxHeartbeats 1000000
/-- papermill papermilllaw36.DefectSelects -/
def rf5 : RFn := ⟨(.seq (.ops 0 [⟨(some 6), (.v (.mv (.k (.c (.bool false))))), none, []⟩]) (.seq (.seq (.ops 0 [⟨(some 23), (.v (.mv (.t 0))), none, []⟩, ⟨(some 24), (.v (.lenS (.t 23))), none, []⟩, ⟨(some 25), (.v (.bin .gtr (.t 24) (.k (.c (.int .i64 140))))), none, []⟩]) (.cond (.t 25) (.seq (.ops 0 [⟨(some 26), (.v (.det 10 [⟨false, [.bool]⟩] [])), none, []⟩, ⟨(some 6), (.v (.mv (.t 26))), none, []⟩]) .ret) .skip)) (.seq (.ops 0 [⟨(some 28), (.v (.mv (.t 0))), none, []⟩, ⟨(some 29), (.v (.mv (.t 1))), none, []⟩, ⟨(some 30), (.v (.mv (.t 2))), none, []⟩, ⟨(some 31), (.v (.det 18 [⟨false, [(.sl [(.int .i64), (.int .i64), (.int .i64), (.int .i64), (.int .i64), (.int .i64)])]⟩, ⟨false, [(.int .i64)]⟩] [(.t 28), (.t 29), (.t 30)])), none, []⟩, ⟨(some 27), (.v (.mv (.t 31))), none, []⟩, ⟨(some 32), (.v (.ext (.t 27) 0)), none, []⟩, ⟨(some 33), (.v (.ext (.t 27) 1)), none, []⟩, ⟨(some 7), (.v (.mv (.t 32))), none, []⟩, ⟨(some 8), (.v (.mv (.t 33))), none, []⟩]) (.seq (.ops 0 [⟨(some 35), (.v (.mv (.t 0))), none, []⟩, ⟨(some 36), (.v (.mv (.t 1))), none, []⟩, ⟨(some 37), (.v (.mv (.t 2))), none, []⟩, ⟨(some 38), (.v (.det 19 [⟨false, [(.sl [(.int .i64), (.int .i64), (.int .i64), (.int .i64), (.int .i64), (.int .i64)])]⟩, ⟨false, [(.int .i64)]⟩] [(.t 35), (.t 36), (.t 37)])), none, []⟩, ⟨(some 34), (.v (.mv (.t 38))), none, []⟩, ⟨(some 39), (.v (.ext (.t 34) 0)), none, []⟩, ⟨(some 40), (.v (.ext (.t 34) 1)), none, []⟩, ⟨(some 9), (.v (.mv (.t 39))), none, []⟩, ⟨(some 10), (.v (.mv (.t 40))), none, []⟩]) (.seq (.ops 0 [⟨(some 42), (.v (.mv (.t 0))), none, []⟩, ⟨(some 43), (.v (.det 20 [⟨false, [(.int .i64)]⟩, ⟨false, [(.int .i64)]⟩] [(.t 42)])), none, []⟩, ⟨(some 41), (.v (.mv (.t 43))), none, []⟩, ⟨(some 44), (.v (.ext (.t 41) 0)), none, []⟩, ⟨(some 45), (.v (.ext (.t 41) 1)), none, []⟩, ⟨(some 11), (.v (.mv (.t 44))), none, []⟩, ⟨(some 12), (.v (.mv (.t 45))), none, []⟩]) (.seq (.ops 0 [⟨(some 47), (.v (.mv (.t 0))), none, []⟩, ⟨(some 48), (.v (.det 21 [⟨false, [(.int .i64)]⟩, ⟨false, [(.int .i64)]⟩] [(.t 47)])), none, []⟩, ⟨(some 46), (.v (.mv (.t 48))), none, []⟩, ⟨(some 49), (.v (.ext (.t 46) 0)), none, []⟩, ⟨(some 50), (.v (.ext (.t 46) 1)), none, []⟩, ⟨(some 13), (.v (.mv (.t 49))), none, []⟩, ⟨(some 14), (.v (.mv (.t 50))), none, []⟩]) (.seq (.ops 0 [⟨(some 52), (.v (.mv (.t 0))), none, []⟩, ⟨(some 53), (.v (.det 16 [⟨false, [(.sl [(.int .i64), (.int .i64)])]⟩, ⟨false, [(.int .i64)]⟩] [(.t 52)])), none, []⟩, ⟨(some 51), (.v (.mv (.t 53))), none, []⟩, ⟨(some 54), (.v (.ext (.t 51) 0)), none, []⟩, ⟨(some 55), (.v (.ext (.t 51) 1)), none, []⟩, ⟨(some 15), (.v (.mv (.t 54))), none, []⟩, ⟨(some 16), (.v (.mv (.t 55))), none, []⟩]) (.seq (.ops 0 [⟨(some 57), (.v (.mv (.t 0))), none, []⟩, ⟨(some 58), (.v (.det 22 [⟨false, [(.sl [(.int .i64), (.int .i64)])]⟩, ⟨false, [(.int .i64)]⟩] [(.t 57)])), none, []⟩, ⟨(some 56), (.v (.mv (.t 58))), none, []⟩, ⟨(some 59), (.v (.ext (.t 56) 0)), none, []⟩, ⟨(some 60), (.v (.ext (.t 56) 1)), none, []⟩, ⟨(some 17), (.v (.mv (.t 59))), none, []⟩, ⟨(some 18), (.v (.mv (.t 60))), none, []⟩]) (.seq (.ops 0 [⟨(some 62), (.v (.mv (.t 0))), none, []⟩, ⟨(some 63), (.v (.mv (.t 1))), none, []⟩, ⟨(some 64), (.v (.det 17 [⟨false, [(.int .i64)]⟩, ⟨false, [(.int .i64)]⟩] [(.t 62), (.t 63)])), none, []⟩, ⟨(some 61), (.v (.mv (.t 64))), none, []⟩, ⟨(some 65), (.v (.ext (.t 61) 0)), none, []⟩, ⟨(some 66), (.v (.ext (.t 61) 1)), none, []⟩, ⟨(some 19), (.v (.mv (.t 65))), none, []⟩, ⟨(some 20), (.v (.mv (.t 66))), none, []⟩]) (.seq (.ops 0 [⟨(some 68), (.v (.mv (.t 0))), none, []⟩, ⟨(some 69), (.v (.mv (.t 1))), none, []⟩, ⟨(some 70), (.v (.det 23 [⟨false, [(.int .i64)]⟩, ⟨false, [(.int .i64)]⟩] [(.t 68), (.t 69)])), none, []⟩, ⟨(some 67), (.v (.mv (.t 70))), none, []⟩, ⟨(some 71), (.v (.ext (.t 67) 0)), none, []⟩, ⟨(some 72), (.v (.ext (.t 67) 1)), none, []⟩, ⟨(some 21), (.v (.mv (.t 71))), none, []⟩, ⟨(some 22), (.v (.mv (.t 72))), none, []⟩]) (.seq (.ops 0 [⟨(some 73), (.v (.mv (.t 7))), none, []⟩, ⟨(some 74), (.v (.mv (.t 9))), none, []⟩, ⟨(some 75), (.v (.det 15 [⟨false, [.bool]⟩] [(.t 73), (.t 74)])), none, []⟩, ⟨(some 76), (.v (.mv (.t 75))), none, []⟩, ⟨(some 77), (.v (.mv (.t 8))), (some ⟨76, true⟩), [(.t 8)]⟩, ⟨(some 78), (.v (.mv (.t 10))), (some ⟨76, true⟩), [(.t 10)]⟩, ⟨(some 79), (.v (.bin .eql (.t 77) (.t 78))), (some ⟨76, true⟩), [(.t 77), (.t 78)]⟩, ⟨(some 80), (.v (.pick (.t 76) (.t 79) (.k (.c (.bool false))))), none, []⟩, ⟨(some 81), (.v (.mv (.t 80))), none, []⟩, ⟨(some 82), (.v (.mv (.t 11))), (some ⟨81, true⟩), [(.t 11)]⟩, ⟨(some 83), (.v (.mv (.t 13))), (some ⟨81, true⟩), [(.t 13)]⟩, ⟨(some 84), (.v (.bin .eql (.t 82) (.t 83))), (some ⟨81, true⟩), [(.t 82), (.t 83)]⟩, ⟨(some 85), (.v (.pick (.t 81) (.t 84) (.k (.c (.bool false))))), none, []⟩, ⟨(some 86), (.v (.mv (.t 85))), none, []⟩, ⟨(some 87), (.v (.mv (.t 12))), (some ⟨86, true⟩), [(.t 12)]⟩, ⟨(some 88), (.v (.mv (.t 14))), (some ⟨86, true⟩), [(.t 14)]⟩, ⟨(some 89), (.v (.bin .eql (.t 87) (.t 88))), (some ⟨86, true⟩), [(.t 87), (.t 88)]⟩, ⟨(some 90), (.v (.pick (.t 86) (.t 89) (.k (.c (.bool false))))), none, []⟩, ⟨(some 91), (.v (.mv (.t 90))), none, []⟩, ⟨(some 92), (.v (.mv (.t 15))), (some ⟨91, true⟩), [(.t 15)]⟩, ⟨(some 93), (.v (.mv (.t 17))), (some ⟨91, true⟩), [(.t 17)]⟩, ⟨(some 94), (.v (.det 24 [⟨false, [.bool]⟩] [(.t 92), (.t 93)])), (some ⟨91, true⟩), [(.k (.fn 24 [])), (.t 92), (.t 93)]⟩, ⟨(some 95), (.v (.pick (.t 91) (.t 94) (.k (.c (.bool false))))), none, []⟩, ⟨(some 96), (.v (.mv (.t 95))), none, []⟩, ⟨(some 97), (.v (.mv (.t 16))), (some ⟨96, true⟩), [(.t 16)]⟩, ⟨(some 98), (.v (.mv (.t 18))), (some ⟨96, true⟩), [(.t 18)]⟩, ⟨(some 99), (.v (.bin .eql (.t 97) (.t 98))), (some ⟨96, true⟩), [(.t 97), (.t 98)]⟩, ⟨(some 100), (.v (.pick (.t 96) (.t 99) (.k (.c (.bool false))))), none, []⟩, ⟨(some 101), (.v (.mv (.t 100))), none, []⟩, ⟨(some 102), (.v (.mv (.t 19))), (some ⟨101, true⟩), [(.t 19)]⟩, ⟨(some 103), (.v (.mv (.t 21))), (some ⟨101, true⟩), [(.t 21)]⟩, ⟨(some 104), (.v (.bin .eql (.t 102) (.t 103))), (some ⟨101, true⟩), [(.t 102), (.t 103)]⟩, ⟨(some 105), (.v (.pick (.t 101) (.t 104) (.k (.c (.bool false))))), none, []⟩, ⟨(some 106), (.v (.mv (.t 105))), none, []⟩, ⟨(some 107), (.v (.mv (.t 20))), (some ⟨106, true⟩), [(.t 20)]⟩, ⟨(some 108), (.v (.mv (.t 22))), (some ⟨106, true⟩), [(.t 22)]⟩, ⟨(some 109), (.v (.bin .eql (.t 107) (.t 108))), (some ⟨106, true⟩), [(.t 107), (.t 108)]⟩, ⟨(some 110), (.v (.pick (.t 106) (.t 109) (.k (.c (.bool false))))), none, []⟩, ⟨(some 111), (.v (.mv (.t 110))), none, []⟩, ⟨(some 112), (.v (.det 10 [⟨false, [.bool]⟩] [])), (some ⟨111, true⟩), [(.k (.fn 10 []))]⟩, ⟨(some 113), (.v (.pick (.t 111) (.t 112) (.k (.c (.bool false))))), none, []⟩, ⟨(some 6), (.v (.mv (.t 113))), none, []⟩]) .ret))))))))))), 114, [(.t 6)]⟩
theorem h5 : fnR Try.prog DD 5 = some rf5 := by kernel_rfl
def vc5 (E : Env) (x1 : List (List C)) (x2 : Int) (x3 : Int) (Q : List C → Prop) : Prop :=
  Br (E.lt 140 (E.len x1))
  ((E.pok 10 [(false, [.bool])] []) ∧ (∀ r4 : Nat → C, r4 = E.res 10 [] → 
    (Q [.bool (E.gb (r4 0))])))
  ((E.pok 18 [(false, [.sl [.int .i64, .int .i64, .int .i64, .int .i64, .int .i64, .int .i64]]), (false, [.int .i64])] [.c (.sl [.int .i64, .int .i64, .int .i64, .int .i64, .int .i64, .int .i64] x1), .c (.int .i64 x2), .c (.int .i64 x3)]) ∧ (∀ r5 : Nat → C, r5 = E.res 18 [.c (.sl [.int .i64, .int .i64, .int .i64, .int .i64, .int .i64, .int .i64] x1), .c (.int .i64 x2), .c (.int .i64 x3)] → 
    ((E.pok 19 [(false, [.sl [.int .i64, .int .i64, .int .i64, .int .i64, .int .i64, .int .i64]]), (false, [.int .i64])] [.c (.sl [.int .i64, .int .i64, .int .i64, .int .i64, .int .i64, .int .i64] x1), .c (.int .i64 x2), .c (.int .i64 x3)]) ∧ (∀ r6 : Nat → C, r6 = E.res 19 [.c (.sl [.int .i64, .int .i64, .int .i64, .int .i64, .int .i64, .int .i64] x1), .c (.int .i64 x2), .c (.int .i64 x3)] → 
    ((E.pok 20 [(false, [.int .i64]), (false, [.int .i64])] [.c (.sl [.int .i64, .int .i64, .int .i64, .int .i64, .int .i64, .int .i64] x1)]) ∧ (∀ r7 : Nat → C, r7 = E.res 20 [.c (.sl [.int .i64, .int .i64, .int .i64, .int .i64, .int .i64, .int .i64] x1)] → 
    ((E.pok 21 [(false, [.int .i64]), (false, [.int .i64])] [.c (.sl [.int .i64, .int .i64, .int .i64, .int .i64, .int .i64, .int .i64] x1)]) ∧ (∀ r8 : Nat → C, r8 = E.res 21 [.c (.sl [.int .i64, .int .i64, .int .i64, .int .i64, .int .i64, .int .i64] x1)] → 
    ((E.pok 16 [(false, [.sl [.int .i64, .int .i64]]), (false, [.int .i64])] [.c (.sl [.int .i64, .int .i64, .int .i64, .int .i64, .int .i64, .int .i64] x1)]) ∧ (∀ r9 : Nat → C, r9 = E.res 16 [.c (.sl [.int .i64, .int .i64, .int .i64, .int .i64, .int .i64, .int .i64] x1)] → 
    ((E.pok 22 [(false, [.sl [.int .i64, .int .i64]]), (false, [.int .i64])] [.c (.sl [.int .i64, .int .i64, .int .i64, .int .i64, .int .i64, .int .i64] x1)]) ∧ (∀ r10 : Nat → C, r10 = E.res 22 [.c (.sl [.int .i64, .int .i64, .int .i64, .int .i64, .int .i64, .int .i64] x1)] → 
    ((E.pok 17 [(false, [.int .i64]), (false, [.int .i64])] [.c (.sl [.int .i64, .int .i64, .int .i64, .int .i64, .int .i64, .int .i64] x1), .c (.int .i64 x2)]) ∧ (∀ r11 : Nat → C, r11 = E.res 17 [.c (.sl [.int .i64, .int .i64, .int .i64, .int .i64, .int .i64, .int .i64] x1), .c (.int .i64 x2)] → 
    ((E.pok 23 [(false, [.int .i64]), (false, [.int .i64])] [.c (.sl [.int .i64, .int .i64, .int .i64, .int .i64, .int .i64, .int .i64] x1), .c (.int .i64 x2)]) ∧ (∀ r12 : Nat → C, r12 = E.res 23 [.c (.sl [.int .i64, .int .i64, .int .i64, .int .i64, .int .i64, .int .i64] x1), .c (.int .i64 x2)] → 
    ((E.pok 15 [(false, [.bool])] [.c (.sl [.int .i64, .int .i64, .int .i64, .int .i64, .int .i64, .int .i64] (E.gl (r5 0))), .c (.sl [.int .i64, .int .i64, .int .i64, .int .i64, .int .i64, .int .i64] (E.gl (r6 0)))]) ∧ (∀ r13 : Nat → C, r13 = E.res 15 [.c (.sl [.int .i64, .int .i64, .int .i64, .int .i64, .int .i64, .int .i64] (E.gl (r5 0))), .c (.sl [.int .i64, .int .i64, .int .i64, .int .i64, .int .i64, .int .i64] (E.gl (r6 0)))] → 
    ((Imp (E.bite (E.bite (E.bite (E.gb (r13 0)) (E.eq (E.gi (r5 1)) (E.gi (r6 1))) false) (E.eq (E.gi (r7 0)) (E.gi (r8 0))) false) (E.eq (E.gi (r7 1)) (E.gi (r8 1))) false) (E.pok 24 [(false, [.bool])] [.c (.sl [.int .i64, .int .i64] (E.gl (r9 0))), .c (.sl [.int .i64, .int .i64] (E.gl (r10 0)))])) ∧ (∀ r14 : Nat → C, r14 = E.res 24 [.c (.sl [.int .i64, .int .i64] (E.gl (r9 0))), .c (.sl [.int .i64, .int .i64] (E.gl (r10 0)))] → 
    ((Imp (E.bite (E.bite (E.bite (E.bite (E.bite (E.bite (E.bite (E.gb (r13 0)) (E.eq (E.gi (r5 1)) (E.gi (r6 1))) false) (E.eq (E.gi (r7 0)) (E.gi (r8 0))) false) (E.eq (E.gi (r7 1)) (E.gi (r8 1))) false) (E.gb (r14 0)) false) (E.eq (E.gi (r9 1)) (E.gi (r10 1))) false) (E.eq (E.gi (r11 0)) (E.gi (r12 0))) false) (E.eq (E.gi (r11 1)) (E.gi (r12 1))) false) (E.pok 10 [(false, [.bool])] [])) ∧ (∀ r15 : Nat → C, r15 = E.res 10 [] → 
    (Q [.bool (E.bite (E.bite (E.bite (E.bite (E.bite (E.bite (E.bite (E.bite (E.gb (r13 0)) (E.eq (E.gi (r5 1)) (E.gi (r6 1))) false) (E.eq (E.gi (r7 0)) (E.gi (r8 0))) false) (E.eq (E.gi (r7 1)) (E.gi (r8 1))) false) (E.gb (r14 0)) false) (E.eq (E.gi (r9 1)) (E.gi (r10 1))) false) (E.eq (E.gi (r11 0)) (E.gi (r12 0))) false) (E.eq (E.gi (r11 1)) (E.gi (r12 1))) false) (E.gb (r15 0)) false)])))))))))))))))))))))))
theorem w5 {P : Program} {tbl : FuncId → List A → List C}  {x1 : List (List C)} {x2 : Int} {x3 : Int} {row : List C} (h : vc5 (stdE P tbl) x1 x2 x3 fun c => c = row) : WPg P tbl rf5 [(false, [.bool])] row [.c (.sl [.int .i64, .int .i64, .int .i64, .int .i64, .int .i64, .int .i64] x1), .c (.int .i64 x2), .c (.int .i64 x3)] := by
  refine ⟨?_⟩
  revert h
  generalize hE : stdE P tbl = E
  intro h
  unfold vc5 at h
  cbv
  refine ⟨fun hb16 => ?_, fun hb16 => ?_⟩
  · replace h := h.t hb16
    have c17 := h.1
    refine ⟨c17, ?_⟩
    replace h := h.2 _ rfl
    have h : _ = row := h
    subst h
    repeat' (first | exact trivial | exact rfl | refine And.intro ?_ ?_)
  · replace h := h.f hb16
    have c18 := h.1
    refine ⟨c18, ?_⟩
    replace h := h.2 _ rfl
    have c19 := h.1
    refine ⟨c19, ?_⟩
    replace h := h.2 _ rfl
    have c20 := h.1
    refine ⟨c20, ?_⟩
    replace h := h.2 _ rfl
    have c21 := h.1
    refine ⟨c21, ?_⟩
    replace h := h.2 _ rfl
    have c22 := h.1
    refine ⟨c22, ?_⟩
    replace h := h.2 _ rfl
    have c23 := h.1
    refine ⟨c23, ?_⟩
    replace h := h.2 _ rfl
    have c24 := h.1
    refine ⟨c24, ?_⟩
    replace h := h.2 _ rfl
    have c25 := h.1
    refine ⟨c25, ?_⟩
    replace h := h.2 _ rfl
    have c26 := h.1
    refine ⟨c26, ?_⟩
    replace h := h.2 _ rfl
    refine ⟨⟨fun hh => hh⟩, ?_⟩
    refine ⟨⟨fun hh => hh⟩, ?_⟩
    refine ⟨⟨fun hh => hh⟩, ?_⟩
    refine ⟨⟨fun hh => hh⟩, ?_⟩
    refine ⟨⟨fun hh => hh⟩, ?_⟩
    refine ⟨⟨fun hh => hh⟩, ?_⟩
    refine ⟨⟨fun hh => hh⟩, ?_⟩
    refine ⟨⟨fun hh => hh⟩, ?_⟩
    refine ⟨⟨fun hh => hh⟩, ?_⟩
    refine ⟨⟨fun hh => hh⟩, ?_⟩
    refine ⟨⟨fun hh => hh⟩, ?_⟩
    have c27 := h.1
    refine ⟨c27, ?_⟩
    replace h := h.2 _ rfl
    refine ⟨⟨fun hh => hh⟩, ?_⟩
    refine ⟨⟨fun hh => hh⟩, ?_⟩
    refine ⟨⟨fun hh => hh⟩, ?_⟩
    refine ⟨⟨fun hh => hh⟩, ?_⟩
    refine ⟨⟨fun hh => hh⟩, ?_⟩
    refine ⟨⟨fun hh => hh⟩, ?_⟩
    refine ⟨⟨fun hh => hh⟩, ?_⟩
    refine ⟨⟨fun hh => hh⟩, ?_⟩
    refine ⟨⟨fun hh => hh⟩, ?_⟩
    refine ⟨⟨fun hh => hh⟩, ?_⟩
    have c28 := h.1
    refine ⟨c28, ?_⟩
    replace h := h.2 _ rfl
    refine ⟨⟨fun hh => hh⟩, ?_⟩
    have h : _ = row := h
    subst h
    repeat' (first | exact trivial | exact rfl | refine And.intro ?_ ?_)
end Go.Proofs.Ytkdapoipnkpbeaa.V
