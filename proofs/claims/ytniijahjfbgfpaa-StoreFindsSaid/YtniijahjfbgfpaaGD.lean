/- Warehouses: the walk of what is said of them: finds. No conditions. -/
import Derived.Test.YtniijahjfbgfpaaGB
set_option linter.unusedVariables false
set_option linter.unusedSimpArgs false
namespace Go.Proofs.Ytniijahjfbgfpaa.V
open Go Go.Eng
set_option maxRecDepth 1000000
set_option maxHeartbeats 4000000
/-- papermill papermilllaw54.StoreFinds -/
def rf4 : RFn := ⟨(.seq (.ops 0 [⟨(some 6), (.v (.mv (.k (.c (.bool false))))), none, []⟩]) (.seq (.ops 0 [⟨(some 24), (.v (.mv (.t 0))), none, []⟩, ⟨(some 25), (.v (.mv (.t 1))), none, []⟩, ⟨(some 26), (.h (.call 10 [(.t 24), (.t 25)])), none, []⟩, ⟨(some 23), (.v (.mv (.t 26))), none, []⟩, ⟨(some 27), (.v (.ext (.t 23) 0)), none, []⟩, ⟨(some 28), (.v (.ext (.t 23) 1)), none, []⟩, ⟨(some 29), (.v (.ext (.t 23) 2)), none, []⟩, ⟨(some 7), (.v (.mv (.t 27))), none, []⟩, ⟨(some 8), (.v (.mv (.t 28))), none, []⟩, ⟨(some 9), (.v (.mv (.t 29))), none, []⟩]) (.seq (.seq (.ops 0 [⟨(some 30), (.v (.mv (.t 9))), none, []⟩, ⟨(some 31), (.v (.un .not (.t 30))), none, []⟩, ⟨(some 32), (.v (.mv (.t 31))), none, []⟩, ⟨(some 33), (.v (.mv (.t 7))), (some ⟨32, false⟩), [(.t 7)]⟩, ⟨(some 34), (.v (.eqn 1 false (.t 33))), (some ⟨32, false⟩), [(.t 33), (.k .np)]⟩, ⟨(some 35), (.v (.pick (.t 32) (.k (.c (.bool true))) (.t 34))), none, []⟩, ⟨(some 36), (.v (.mv (.t 35))), none, []⟩, ⟨(some 37), (.v (.mv (.t 2))), (some ⟨36, false⟩), [(.t 2)]⟩, ⟨(some 38), (.v (.lenS (.t 37))), (some ⟨36, false⟩), [(.t 37)]⟩, ⟨(some 39), (.v (.bin .eql (.t 38) (.k (.c (.int .i64 0))))), (some ⟨36, false⟩), [(.t 38), (.k (.c (.int .i64 0)))]⟩, ⟨(some 40), (.v (.pick (.t 36) (.k (.c (.bool true))) (.t 39))), none, []⟩, ⟨(some 41), (.v (.mv (.t 40))), none, []⟩, ⟨(some 42), (.v (.mv (.t 2))), (some ⟨41, false⟩), [(.t 2)]⟩, ⟨(some 43), (.v (.lenS (.t 42))), (some ⟨41, false⟩), [(.t 42)]⟩, ⟨(some 44), (.v (.bin .gtr (.t 43) (.k (.c (.int .i64 60))))), (some ⟨41, false⟩), [(.t 43), (.k (.c (.int .i64 60)))]⟩, ⟨(some 45), (.v (.pick (.t 41) (.k (.c (.bool true))) (.t 44))), none, []⟩]) (.cond (.t 45) (.seq (.ops 0 [⟨(some 46), (.v (.mv (.t 9))), none, []⟩, ⟨(some 47), (.v (.mv (.t 46))), none, []⟩, ⟨(some 48), (.v (.det 11 [⟨false, [.bool]⟩] [])), (some ⟨47, true⟩), [(.k (.fn 11 []))]⟩, ⟨(some 49), (.v (.pick (.t 47) (.t 48) (.k (.c (.bool false))))), none, []⟩, ⟨(some 6), (.v (.mv (.t 49))), none, []⟩]) .ret) .skip)) (.seq (.seq (.ops 0 [⟨(some 10), (.v (.mv (.k (.c (.int .i64 0))))), none, []⟩]) (.block 0 (.loop (.seq (.seq (.ops 0 [⟨(some 50), (.v (.mv (.t 10))), none, []⟩, ⟨(some 51), (.v (.mv (.t 1))), none, []⟩, ⟨(some 52), (.v (.lenS (.t 51))), none, []⟩, ⟨(some 53), (.v (.bin .lss (.t 50) (.t 52))), none, []⟩]) (.cond (.t 53) .skip (.exit 0))) (.seq (.block 1 (.seq (.ops 0 [⟨(some 56), (.v (.mv (.t 7))), none, []⟩, ⟨(some 57), (.v (.mv (.t 1))), none, []⟩, ⟨(some 58), (.v (.mv (.t 10))), none, []⟩, ⟨(some 59), (.v (.ia 5 (.t 57) (.t 58))), none, []⟩, ⟨(some 60), (.v (.lda 5 (.t 59))), none, []⟩, ⟨(some 61), (.h (.call 12 [(.t 56), (.t 60)])), none, []⟩]) (.ops 0 [⟨(some 62), (.v (.mv (.t 8))), none, []⟩, ⟨(some 63), (.v (.mv (.t 1))), none, []⟩, ⟨(some 64), (.v (.mv (.t 10))), none, []⟩, ⟨(some 65), (.v (.ia 5 (.t 63) (.t 64))), none, []⟩, ⟨(some 66), (.v (.lda 5 (.t 65))), none, []⟩, ⟨(some 67), (.h (.call 13 [(.t 62), (.t 66)])), none, []⟩]))) (.ops 0 [⟨(some 54), (.v (.mv (.t 10))), none, []⟩, ⟨(some 55), (.v (.bin .add (.t 54) (.k (.c (.int .i64 1))))), none, []⟩, ⟨(some 10), (.v (.mv (.t 55))), none, []⟩])))))) (.seq (.ops 1 [⟨(some 69), (.v (.mv (.t 7))), none, []⟩, ⟨(some 70), (.v (.mv (.t 2))), none, []⟩, ⟨(some 71), (.v (.ia 1 (.t 70) (.k (.c (.int .i64 0))))), none, []⟩, ⟨(some 72), (.v (.ld (.t 71))), none, []⟩, ⟨(some 73), (.v (.det 20 [⟨true, [(.int .i64), (.int .i64), (.int .i64)]⟩, ⟨false, [.bool]⟩] [(.t 69), (.t 72)])), none, []⟩, ⟨(some 68), (.v (.mv (.t 73))), none, []⟩, ⟨(some 74), (.v (.ext (.t 68) 0)), none, []⟩, ⟨(some 75), (.v (.ext (.t 68) 1)), none, []⟩, ⟨(some 11), (.v (.alloc 0 44 [(.c (.int .i64 0)), (.c (.int .i64 0)), (.c (.int .i64 0))])), none, []⟩, ⟨none, (.v (.st 3 (.t 11) (.t 74))), none, []⟩, ⟨(some 12), (.v (.mv (.t 75))), none, []⟩]) (.seq (.ops 1 [⟨(some 77), (.v (.mv (.t 8))), none, []⟩, ⟨(some 78), (.v (.mv (.t 2))), none, []⟩, ⟨(some 79), (.v (.ia 1 (.t 78) (.k (.c (.int .i64 0))))), none, []⟩, ⟨(some 80), (.v (.ld (.t 79))), none, []⟩, ⟨(some 81), (.v (.det 21 [⟨true, [(.int .i64), (.int .i64), (.int .i64)]⟩, ⟨false, [.bool]⟩] [(.t 77), (.t 80)])), none, []⟩, ⟨(some 76), (.v (.mv (.t 81))), none, []⟩, ⟨(some 82), (.v (.ext (.t 76) 0)), none, []⟩, ⟨(some 83), (.v (.ext (.t 76) 1)), none, []⟩, ⟨(some 13), (.v (.alloc 0 44 [(.c (.int .i64 0)), (.c (.int .i64 0)), (.c (.int .i64 0))])), none, []⟩, ⟨none, (.v (.st 3 (.t 13) (.t 82))), none, []⟩, ⟨(some 14), (.v (.mv (.t 83))), none, []⟩]) (.seq (.ops 0 [⟨(some 85), (.v (.mv (.t 7))), none, []⟩, ⟨(some 86), (.v (.mv (.t 2))), none, []⟩, ⟨(some 87), (.v (.ia 1 (.t 86) (.k (.c (.int .i64 0))))), none, []⟩, ⟨(some 88), (.v (.ld (.t 87))), none, []⟩, ⟨(some 89), (.h (.call 17 [(.t 85), (.t 88)])), none, []⟩, ⟨(some 84), (.v (.mv (.t 89))), none, []⟩, ⟨(some 90), (.v (.ext (.t 84) 0)), none, []⟩, ⟨(some 91), (.v (.ext (.t 84) 1)), none, []⟩, ⟨(some 15), (.v (.mv (.t 90))), none, []⟩, ⟨(some 16), (.v (.mv (.t 91))), none, []⟩]) (.seq (.ops 0 [⟨(some 93), (.v (.mv (.t 8))), none, []⟩, ⟨(some 94), (.v (.mv (.t 2))), none, []⟩, ⟨(some 95), (.v (.ia 1 (.t 94) (.k (.c (.int .i64 0))))), none, []⟩, ⟨(some 96), (.v (.ld (.t 95))), none, []⟩, ⟨(some 97), (.h (.call 18 [(.t 93), (.t 96)])), none, []⟩, ⟨(some 92), (.v (.mv (.t 97))), none, []⟩, ⟨(some 98), (.v (.ext (.t 92) 0)), none, []⟩, ⟨(some 99), (.v (.ext (.t 92) 1)), none, []⟩, ⟨(some 17), (.v (.mv (.t 98))), none, []⟩, ⟨(some 18), (.v (.mv (.t 99))), none, []⟩]) (.seq (.ops 0 [⟨(some 101), (.v (.mv (.t 7))), none, []⟩, ⟨(some 102), (.v (.mv (.t 2))), none, []⟩, ⟨(some 103), (.v (.det 22 [⟨false, [(.int .i64)]⟩, ⟨false, [(.int .i64)]⟩] [(.t 101), (.t 102)])), none, []⟩, ⟨(some 100), (.v (.mv (.t 103))), none, []⟩, ⟨(some 104), (.v (.ext (.t 100) 0)), none, []⟩, ⟨(some 105), (.v (.ext (.t 100) 1)), none, []⟩, ⟨(some 19), (.v (.mv (.t 104))), none, []⟩, ⟨(some 20), (.v (.mv (.t 105))), none, []⟩]) (.seq (.ops 0 [⟨(some 107), (.v (.mv (.t 8))), none, []⟩, ⟨(some 108), (.v (.mv (.t 2))), none, []⟩, ⟨(some 109), (.v (.det 23 [⟨false, [(.int .i64)]⟩, ⟨false, [(.int .i64)]⟩] [(.t 107), (.t 108)])), none, []⟩, ⟨(some 106), (.v (.mv (.t 109))), none, []⟩, ⟨(some 110), (.v (.ext (.t 106) 0)), none, []⟩, ⟨(some 111), (.v (.ext (.t 106) 1)), none, []⟩, ⟨(some 21), (.v (.mv (.t 110))), none, []⟩, ⟨(some 22), (.v (.mv (.t 111))), none, []⟩]) (.seq (.ops 0 [⟨(some 112), (.v (.lda 3 (.t 11))), none, []⟩, ⟨(some 113), (.v (.lda 3 (.t 13))), none, []⟩, ⟨(some 114), (.v (.eqs [(.int .i64), (.int .i64), (.int .i64)] false (.t 112) (.t 113))), none, []⟩, ⟨(some 115), (.v (.mv (.t 114))), none, []⟩, ⟨(some 116), (.v (.mv (.t 12))), (some ⟨115, true⟩), [(.t 12)]⟩, ⟨(some 117), (.v (.mv (.t 14))), (some ⟨115, true⟩), [(.t 14)]⟩, ⟨(some 118), (.v (.eqb false (.t 116) (.t 117))), (some ⟨115, true⟩), [(.t 116), (.t 117)]⟩, ⟨(some 119), (.v (.pick (.t 115) (.t 118) (.k (.c (.bool false))))), none, []⟩, ⟨(some 120), (.v (.mv (.t 119))), none, []⟩, ⟨(some 121), (.v (.mv (.t 15))), (some ⟨120, true⟩), [(.t 15)]⟩, ⟨(some 122), (.v (.mv (.t 17))), (some ⟨120, true⟩), [(.t 17)]⟩, ⟨(some 123), (.v (.det 19 [⟨false, [.bool]⟩] [(.t 121), (.t 122)])), (some ⟨120, true⟩), [(.k (.fn 19 [])), (.t 121), (.t 122)]⟩, ⟨(some 124), (.v (.pick (.t 120) (.t 123) (.k (.c (.bool false))))), none, []⟩, ⟨(some 125), (.v (.mv (.t 124))), none, []⟩, ⟨(some 126), (.v (.mv (.t 16))), (some ⟨125, true⟩), [(.t 16)]⟩, ⟨(some 127), (.v (.mv (.t 18))), (some ⟨125, true⟩), [(.t 18)]⟩, ⟨(some 128), (.v (.bin .eql (.t 126) (.t 127))), (some ⟨125, true⟩), [(.t 126), (.t 127)]⟩, ⟨(some 129), (.v (.pick (.t 125) (.t 128) (.k (.c (.bool false))))), none, []⟩, ⟨(some 130), (.v (.mv (.t 129))), none, []⟩, ⟨(some 131), (.v (.mv (.t 19))), (some ⟨130, true⟩), [(.t 19)]⟩, ⟨(some 132), (.v (.mv (.t 21))), (some ⟨130, true⟩), [(.t 21)]⟩, ⟨(some 133), (.v (.bin .eql (.t 131) (.t 132))), (some ⟨130, true⟩), [(.t 131), (.t 132)]⟩, ⟨(some 134), (.v (.pick (.t 130) (.t 133) (.k (.c (.bool false))))), none, []⟩, ⟨(some 135), (.v (.mv (.t 134))), none, []⟩, ⟨(some 136), (.v (.mv (.t 20))), (some ⟨135, true⟩), [(.t 20)]⟩, ⟨(some 137), (.v (.mv (.t 22))), (some ⟨135, true⟩), [(.t 22)]⟩, ⟨(some 138), (.v (.bin .eql (.t 136) (.t 137))), (some ⟨135, true⟩), [(.t 136), (.t 137)]⟩, ⟨(some 139), (.v (.pick (.t 135) (.t 138) (.k (.c (.bool false))))), none, []⟩, ⟨(some 140), (.v (.mv (.t 139))), none, []⟩, ⟨(some 141), (.v (.det 11 [⟨false, [.bool]⟩] [])), (some ⟨140, true⟩), [(.k (.fn 11 []))]⟩, ⟨(some 142), (.v (.pick (.t 140) (.t 141) (.k (.c (.bool false))))), none, []⟩, ⟨(some 6), (.v (.mv (.t 142))), none, []⟩]) .ret))))))))))), 143, [(.t 6)]⟩
theorem h4 : fnR Try.prog DD 4 = some rf4 := by kernel_rfl
def vc4 (E : Env) (x1 : List (List C)) (x2 : List (List C)) (x3 : List (List C)) (Q : List C → Prop) : Prop :=
  spBegin (x1) (x2) (
  Br (E.bite (E.bite (E.bite (E.not true) true true) true (E.eq (E.len x3) 0)) true (E.lt 60 (E.len x3)))
    ((Imp true (E.pok 11 [(false, [.bool])] [])) ∧ (∀ r4 : Nat → C, r4 = E.res 11 [] → 
      (Q [.bool (E.bite true (E.gb (r4 0)) false)])))
    (False)) (
  Br (E.bite (E.bite (E.bite (E.not true) true false) true (E.eq (E.len x3) 0)) true (E.lt 60 (E.len x3)))
    ((Imp true (E.pok 11 [(false, [.bool])] [])) ∧ (∀ r5 : Nat → C, r5 = E.res 11 [] → 
      (Q [.bool (E.bite true (E.gb (r5 0)) false)])))
    (LoopP6 (fun (m6 : List (Int × List C)) (i7 : Int) (i8 : Int) (l9 : List (List C)) (i10 : Int) (i11 : Int) (K12 : (List (Int × List C)) → (Int) → (Int) → (List (List C)) → (Int) → (Int) → Prop) =>
      Br (E.lt i11 (E.len x2))
        (((E.le 0 i11) = true) ∧ 
          (spDo (x1) (m6) (i7) (i8) ((E.gi (E.cell x2 i11 0))) ((E.gi (E.cell x2 i11 1))) ((E.gi (E.cell x2 i11 2))) ((E.gi (E.cell x2 i11 3))) ((E.gi (E.cell x2 i11 4))) (fun (m13 : List (Int × List C)) (i14 : Int) (i15 : Int) (i16 : Int) (i17 : Int) => 
          spMust (x1) (l9) (i10) ((E.gi (E.cell x2 i11 0))) ((E.gi (E.cell x2 i11 1))) ((E.gi (E.cell x2 i11 2))) ((E.gi (E.cell x2 i11 3))) ((E.gi (E.cell x2 i11 4))) (fun (l18 : List (List C)) (i19 : Int) (i20 : Int) (i21 : Int) => 
            K12 (m13) (i14) (i15) (l18) (i19) ((E.add .i64 i11 1))))))
        (((E.le 0 0) = true) ∧ ((E.lt 0 (E.len x3)) = true) ∧ 
          ((E.pok 20 [(true, [.int .i64, .int .i64, .int .i64]), (false, [.bool])] [.el [.sl [.int .i64, .int .i64], .mp .i64 true [.int .i64, .int .i64, .int .i64, .int .i64, .int .i64], .int .i64, .int .i64] [[.sl [.int .i64, .int .i64] x1, .mp .i64 true [.int .i64, .int .i64, .int .i64, .int .i64, .int .i64] m6, .int .i64 i7, .int .i64 i8]] 0 0, .c (.int .i64 (E.gi (E.cell x3 0 0)))]) ∧ (∀ r22 : Nat → C, r22 = E.res 20 [.el [.sl [.int .i64, .int .i64], .mp .i64 true [.int .i64, .int .i64, .int .i64, .int .i64, .int .i64], .int .i64, .int .i64] [[.sl [.int .i64, .int .i64] x1, .mp .i64 true [.int .i64, .int .i64, .int .i64, .int .i64, .int .i64] m6, .int .i64 i7, .int .i64 i8]] 0 0, .c (.int .i64 (E.gi (E.cell x3 0 0)))] → 
          ((E.pok 21 [(true, [.int .i64, .int .i64, .int .i64]), (false, [.bool])] [.el [.sl [.int .i64, .int .i64], .sl [.int .i64, .int .i64, .int .i64, .int .i64], .int .i64] [[.sl [.int .i64, .int .i64] x1, .sl [.int .i64, .int .i64, .int .i64, .int .i64] l9, .int .i64 i10]] 0 0, .c (.int .i64 (E.gi (E.cell x3 0 0)))]) ∧ (∀ r23 : Nat → C, r23 = E.res 21 [.el [.sl [.int .i64, .int .i64], .sl [.int .i64, .int .i64, .int .i64, .int .i64], .int .i64] [[.sl [.int .i64, .int .i64] x1, .sl [.int .i64, .int .i64, .int .i64, .int .i64] l9, .int .i64 i10]] 0 0, .c (.int .i64 (E.gi (E.cell x3 0 0)))] → 
          (spBay (x1) (m6) (i7) (i8) ((E.gi (E.cell x3 0 0))) (fun (l24 : List (List C)) (i25 : Int) => 
          spRBay (x1) (l9) (i10) ((E.gi (E.cell x3 0 0))) (fun (l26 : List (List C)) (i27 : Int) => 
            (E.pok 22 [(false, [.int .i64]), (false, [.int .i64])] [.el [.sl [.int .i64, .int .i64], .mp .i64 true [.int .i64, .int .i64, .int .i64, .int .i64, .int .i64], .int .i64, .int .i64] [[.sl [.int .i64, .int .i64] x1, .mp .i64 true [.int .i64, .int .i64, .int .i64, .int .i64, .int .i64] m6, .int .i64 i7, .int .i64 i8]] 0 0, .c (.sl [.int .i64] x3)]) ∧ (∀ r28 : Nat → C, r28 = E.res 22 [.el [.sl [.int .i64, .int .i64], .mp .i64 true [.int .i64, .int .i64, .int .i64, .int .i64, .int .i64], .int .i64, .int .i64] [[.sl [.int .i64, .int .i64] x1, .mp .i64 true [.int .i64, .int .i64, .int .i64, .int .i64, .int .i64] m6, .int .i64 i7, .int .i64 i8]] 0 0, .c (.sl [.int .i64] x3)] → 
              ((E.pok 23 [(false, [.int .i64]), (false, [.int .i64])] [.el [.sl [.int .i64, .int .i64], .sl [.int .i64, .int .i64, .int .i64, .int .i64], .int .i64] [[.sl [.int .i64, .int .i64] x1, .sl [.int .i64, .int .i64, .int .i64, .int .i64] l9, .int .i64 i10]] 0 0, .c (.sl [.int .i64] x3)]) ∧ (∀ r29 : Nat → C, r29 = E.res 23 [.el [.sl [.int .i64, .int .i64], .sl [.int .i64, .int .i64, .int .i64, .int .i64], .int .i64] [[.sl [.int .i64, .int .i64] x1, .sl [.int .i64, .int .i64, .int .i64, .int .i64] l9, .int .i64 i10]] 0 0, .c (.sl [.int .i64] x3)] → 
              ((Imp (E.bite (E.and (E.eq (E.gi (r22 0)) (E.gi (r23 0))) (E.and (E.eq (E.gi (r22 1)) (E.gi (r23 1))) (E.and (E.eq (E.gi (r22 2)) (E.gi (r23 2))) true))) (E.beq (E.gb (r22 3)) (E.gb (r23 3))) false) (E.pok 19 [(false, [.bool])] [.c (.sl [.int .i64, .int .i64, .int .i64] l24), .c (.sl [.int .i64, .int .i64, .int .i64] l26)])) ∧ (∀ r30 : Nat → C, r30 = E.res 19 [.c (.sl [.int .i64, .int .i64, .int .i64] l24), .c (.sl [.int .i64, .int .i64, .int .i64] l26)] → 
              ((Imp (E.bite (E.bite (E.bite (E.bite (E.bite (E.and (E.eq (E.gi (r22 0)) (E.gi (r23 0))) (E.and (E.eq (E.gi (r22 1)) (E.gi (r23 1))) (E.and (E.eq (E.gi (r22 2)) (E.gi (r23 2))) true))) (E.beq (E.gb (r22 3)) (E.gb (r23 3))) false) (E.gb (r30 0)) false) (E.eq i25 i27) false) (E.eq (E.gi (r28 0)) (E.gi (r29 0))) false) (E.eq (E.gi (r28 1)) (E.gi (r29 1))) false) (E.pok 11 [(false, [.bool])] [])) ∧ (∀ r31 : Nat → C, r31 = E.res 11 [] → 
              (Q [.bool (E.bite (E.bite (E.bite (E.bite (E.bite (E.bite (E.and (E.eq (E.gi (r22 0)) (E.gi (r23 0))) (E.and (E.eq (E.gi (r22 1)) (E.gi (r23 1))) (E.and (E.eq (E.gi (r22 2)) (E.gi (r23 2))) true))) (E.beq (E.gb (r22 3)) (E.gb (r23 3))) false) (E.gb (r30 0)) false) (E.eq i25 i27) false) (E.eq (E.gi (r28 0)) (E.gi (r29 0))) false) (E.eq (E.gi (r28 1)) (E.gi (r29 1))) false) (E.gb (r31 0)) false)])))))))))))))))))
      ([]) (0) (0) ([]) (0) (0)))
theorem w4 {P : Program} {tbl : FuncId → List A → List C} (ce10 : BeginC P 10) (ce12 : DoC P 12) (ce13 : MustC P 13) (ce17 : BayC P 17) (ce18 : RBayC P 18) {x1 : List (List C)} {x2 : List (List C)} {x3 : List (List C)} {row : List C} (h : vc4 (stdE P tbl) x1 x2 x3 fun c => c = row) : WPg P tbl rf4 [(false, [.bool])] row [.c (.sl [.int .i64, .int .i64] x1), .c (.sl [.int .i64, .int .i64, .int .i64, .int .i64, .int .i64] x2), .c (.sl [.int .i64] x3)] := by
  refine ⟨?_⟩
  revert h
  generalize hE : stdE P tbl = E
  intro h
  unfold vc4 at h
  cbv
  refine HCall.mk ce10.1 ((ACalls.frame (ce10.2 _ _ _ _ h) (H := _) (tgt := []) rfl (by decide) ?_).mono fun r H' hq => ?_)
  · intro i o ho
    cases ho
  obtain ⟨r1, H1', hd, _, hr1, hr2⟩ := hq
  rcases hd with ⟨h, rfl, rfl⟩ | ⟨h, rfl, rfl⟩
  · subst hr1 hr2
    cbv
    refine ⟨⟨fun hh => (by first | exact hh | trivial)⟩, ?_⟩
    refine ⟨⟨fun hh => (by first | exact hh | trivial)⟩, ?_⟩
    refine ⟨⟨fun hh => (by first | exact hh | trivial)⟩, ?_⟩
    refine ⟨⟨fun hh => (by first | exact hh | trivial)⟩, ?_⟩
    refine ⟨⟨fun hh => (by first | exact hh | trivial)⟩, ?_⟩
    refine ⟨⟨fun hh => (by first | exact hh | trivial)⟩, ?_⟩
    refine ⟨⟨fun hh => (by first | exact hh | trivial)⟩, ?_⟩
    refine ⟨⟨fun hh => (by first | exact hh | trivial)⟩, ?_⟩
    refine ⟨fun hb32 => ?_, fun hb32 => ?_⟩
    · replace h := h.t hb32
      have c33 := h.1
      refine ⟨c33, ?_⟩
      replace h := h.2 _ rfl
      refine ⟨⟨fun hh => (by first | exact hh | trivial)⟩, ?_⟩
      have h : _ = row := h
      subst h
      repeat' (first | exact trivial | exact rfl | refine And.intro ?_ ?_)
    · replace h := h.f hb32
      exact h.elim
  · subst hr1 hr2
    cbv
    refine ⟨⟨fun hh => (by first | exact hh | trivial)⟩, ?_⟩
    refine ⟨⟨fun hh => (by first | exact hh | trivial)⟩, ?_⟩
    refine ⟨⟨fun hh => (by first | exact hh | trivial)⟩, ?_⟩
    refine ⟨⟨fun hh => (by first | exact hh | trivial)⟩, ?_⟩
    refine ⟨⟨fun hh => (by first | exact hh | trivial)⟩, ?_⟩
    refine ⟨⟨fun hh => (by first | exact hh | trivial)⟩, ?_⟩
    refine ⟨⟨fun hh => (by first | exact hh | trivial)⟩, ?_⟩
    refine ⟨⟨fun hh => (by first | exact hh | trivial)⟩, ?_⟩
    refine ⟨fun hb34 => ?_, fun hb34 => ?_⟩
    · replace h := h.t hb34
      have c35 := h.1
      refine ⟨c35, ?_⟩
      replace h := h.2 _ rfl
      refine ⟨⟨fun hh => (by first | exact hh | trivial)⟩, ?_⟩
      have h : _ = row := h
      subst h
      repeat' (first | exact trivial | exact rfl | refine And.intro ?_ ?_)
    · replace h := h.f hb34
      obtain ⟨I, μ, h0, hI⟩ := h
      refine LoopW.inv (fun R R' s h k => RCode.wp_mono _ R R' s h k) (fun p : List (Int × List C) × Int × Int × List (List C) × Int × Int => (fun (m6 : List (Int × List C)) (i7 : Int) (i8 : Int) (l9 : List (List C)) (i10 : Int) (i11 : Int) => (⟨[.u, .c (.sl [.int .i64, .int .i64, .int .i64, .int .i64, .int .i64] x2), .c (.sl [.int .i64] x3), .u, .u, .u, .u, .ptr 0 0, .ptr 2 0, .u, .c (.int .i64 i11), .u, .u, .u, .u, .u, .u, .u, .u, .u, .u, .u, .u, .u, .u, .u, .u, .u, .u, .u, .u, .u, .u, .u, .u, .u, .u, .u, .u, .u, .u, .u, .u, .u, .u, .u, .u, .u, .u, .u, .u, .u, .u, .u, .u, .u, .u, .u, .u, .u, .u, .u, .u, .u, .u, .u, .u, .u, .u, .u, .u, .u, .u, .u, .u, .u, .u, .u, .u, .u, .u, .u, .u, .u, .u, .u, .u, .u, .u, .u, .u, .u, .u, .u, .u, .u, .u, .u, .u, .u, .u, .u, .u, .u, .u, .u, .u, .u, .u, .u, .u, .u, .u, .u, .u, .u, .u, .u, .u, .u, .u, .u, .u, .u, .u, .u, .u, .u, .u, .u, .u, .u, .u, .u, .u, .u, .u, .u, .u, .u, .u, .u, .u], [.box 64 [.c (.sl [.int .i64, .int .i64] x1), .map 1, .c (.int .i64 i7), .c (.int .i64 i8)], .mp .i64 true [.int .i64, .int .i64, .int .i64, .int .i64, .int .i64] m6, .box 68 [.c (.sl [.int .i64, .int .i64] x1), .c (.sl [.int .i64, .int .i64, .int .i64, .int .i64] l9), .c (.int .i64 i10)]]⟩ : St)) p.1 p.2.1 p.2.2.1 p.2.2.2.1 p.2.2.2.2.1 p.2.2.2.2.2) (fun p => I p.1 p.2.1 p.2.2.1 p.2.2.2.1 p.2.2.2.2.1 p.2.2.2.2.2) (fun p => μ p.1 p.2.1 p.2.2.1 p.2.2.2.1 p.2.2.2.2.1 p.2.2.2.2.2) (_, _, _, _, _, _) h0 ?_ ?_
      · refine GSt.ren [0, 1, 2] rfl rfl rfl (fun i hi => absurd hi (Nat.not_lt_zero i)) (Nat.zero_le _) ?_ ?_
        all_goals (repeat' (first | exact trivial | exact Or.inl rfl | exact Or.inr rfl | refine And.intro ?_ ?_))
      · rintro ⟨m6, i7, i8, l9, i10, i11⟩ h
        replace h := hI m6 i7 i8 l9 i10 i11 h
        cbv
        refine ⟨fun hb36 => ?_, fun hb36 => ?_⟩
        · replace h := h.t hb36
          have c37 := h.1
          refine ⟨c37, ?_⟩
          replace h := h.2
          refine ⟨hb36, ?_⟩
          refine HCall.mk ce12.1 ((ACalls.frame (ce12.2.1 _ _ _ _ _ _ _ _ _ _ h) (H := _) (tgt := [0, 1]) rfl (by decide) ?_).mono fun r H' hq => ?_)
          · intro i o ho
            match i, ho with
            | 0, ho => cases ho; rfl
            | 1, ho => cases ho; rfl
          obtain ⟨r1, H1', ⟨m13, i14, i15, i16, i17, h, rfl, rfl⟩, _, rfl, rfl⟩ := hq
          cbv
          refine ⟨c37, ?_⟩
          refine ⟨hb36, ?_⟩
          refine HCall.mk ce13.1 ((ACalls.frame (ce13.2 _ _ _ _ _ _ _ _ _ h) (H := _) (tgt := [2]) rfl (by decide) ?_).mono fun r H' hq => ?_)
          · intro i o ho
            match i, ho with
            | 0, ho => cases ho; rfl
          obtain ⟨r1, H1', ⟨l18, i19, i20, i21, h, rfl, rfl⟩, _, rfl, rfl⟩ := hq
          cbv
          refine ⟨(_, _, _, _, _, _), h.1, GSt.ren [0, 1, 2] rfl rfl rfl (fun i hi => absurd hi (Nat.not_lt_zero i)) (Nat.zero_le _) ?_ ?_, h.2⟩
          all_goals (repeat' (first | exact trivial | exact Or.inl rfl | exact Or.inr rfl | refine And.intro ?_ ?_))
        · replace h := h.f hb36
          have c38 := h.1
          refine ⟨c38, ?_⟩
          replace h := h.2
          have c39 := h.1
          refine ⟨c39, ?_⟩
          replace h := h.2
          have c40 := h.1
          refine ⟨c40, ?_⟩
          replace h := h.2 _ rfl
          refine ⟨c38, ?_⟩
          refine ⟨c39, ?_⟩
          have c41 := h.1
          refine ⟨c41, ?_⟩
          replace h := h.2 _ rfl
          refine ⟨c38, ?_⟩
          refine ⟨c39, ?_⟩
          refine HCall.mk ce17.1 ((ACalls.frame (ce17.2.1 _ _ _ _ _ _ h) (H := _) (tgt := [0, 1]) rfl (by decide) ?_).mono fun r H' hq => ?_)
          · intro i o ho
            match i, ho with
            | 0, ho => cases ho; rfl
            | 1, ho => cases ho; rfl
          obtain ⟨r1, H1', ⟨l24, i25, h, rfl, rfl⟩, _, rfl, rfl⟩ := hq
          cbv
          refine ⟨c38, ?_⟩
          refine ⟨c39, ?_⟩
          refine HCall.mk ce18.1 ((ACalls.frame (ce18.2 _ _ _ _ _ h) (H := _) (tgt := [2]) rfl (by decide) ?_).mono fun r H' hq => ?_)
          · intro i o ho
            match i, ho with
            | 0, ho => cases ho; rfl
          obtain ⟨r1, H1', ⟨l26, i27, h, rfl, rfl⟩, _, rfl, rfl⟩ := hq
          cbv
          have c42 := h.1
          refine ⟨c42, ?_⟩
          replace h := h.2 _ rfl
          have c43 := h.1
          refine ⟨c43, ?_⟩
          replace h := h.2 _ rfl
          refine ⟨⟨fun hh => (by first | exact hh | trivial)⟩, ?_⟩
          refine ⟨⟨fun hh => (by first | exact hh | trivial)⟩, ?_⟩
          refine ⟨⟨fun hh => (by first | exact hh | trivial)⟩, ?_⟩
          refine ⟨⟨fun hh => (by first | exact hh | trivial)⟩, ?_⟩
          refine ⟨⟨fun hh => (by first | exact hh | trivial)⟩, ?_⟩
          have c44 := h.1
          refine ⟨c44, ?_⟩
          replace h := h.2 _ rfl
          refine ⟨⟨fun hh => (by first | exact hh | trivial)⟩, ?_⟩
          refine ⟨⟨fun hh => (by first | exact hh | trivial)⟩, ?_⟩
          refine ⟨⟨fun hh => (by first | exact hh | trivial)⟩, ?_⟩
          refine ⟨⟨fun hh => (by first | exact hh | trivial)⟩, ?_⟩
          refine ⟨⟨fun hh => (by first | exact hh | trivial)⟩, ?_⟩
          refine ⟨⟨fun hh => (by first | exact hh | trivial)⟩, ?_⟩
          refine ⟨⟨fun hh => (by first | exact hh | trivial)⟩, ?_⟩
          refine ⟨⟨fun hh => (by first | exact hh | trivial)⟩, ?_⟩
          refine ⟨⟨fun hh => (by first | exact hh | trivial)⟩, ?_⟩
          refine ⟨⟨fun hh => (by first | exact hh | trivial)⟩, ?_⟩
          have c45 := h.1
          refine ⟨c45, ?_⟩
          replace h := h.2 _ rfl
          refine ⟨⟨fun hh => (by first | exact hh | trivial)⟩, ?_⟩
          have h : _ = row := h
          subst h
          repeat' (first | exact trivial | exact rfl | refine And.intro ?_ ?_)
end Go.Proofs.Ytniijahjfbgfpaa.V
