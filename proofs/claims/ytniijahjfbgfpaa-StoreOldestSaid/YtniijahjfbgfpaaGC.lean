/- Warehouses: the walk of what is said of them: calls. No conditions. -/
import Derived.Test.YtniijahjfbgfpaaGB
set_option linter.unusedVariables false
set_option linter.unusedSimpArgs false
namespace Go.Proofs.Ytniijahjfbgfpaa.V
open Go Go.Eng
set_option maxRecDepth 1000000
set_option maxHeartbeats 4000000
/-- papermill papermilllaw54.StoreCalls -/
def rf3 : RFn := ⟨(.seq (.ops 0 [⟨(some 4), (.v (.mv (.k (.c (.bool false))))), none, []⟩]) (.seq (.ops 0 [⟨(some 19), (.v (.mv (.t 0))), none, []⟩, ⟨(some 20), (.v (.mv (.t 1))), none, []⟩, ⟨(some 21), (.h (.call 10 [(.t 19), (.t 20)])), none, []⟩, ⟨(some 18), (.v (.mv (.t 21))), none, []⟩, ⟨(some 22), (.v (.ext (.t 18) 0)), none, []⟩, ⟨(some 23), (.v (.ext (.t 18) 1)), none, []⟩, ⟨(some 24), (.v (.ext (.t 18) 2)), none, []⟩, ⟨(some 5), (.v (.mv (.t 22))), none, []⟩, ⟨(some 6), (.v (.mv (.t 23))), none, []⟩, ⟨(some 7), (.v (.mv (.t 24))), none, []⟩]) (.seq (.seq (.ops 0 [⟨(some 25), (.v (.mv (.t 7))), none, []⟩, ⟨(some 26), (.v (.un .not (.t 25))), none, []⟩, ⟨(some 27), (.v (.mv (.t 26))), none, []⟩, ⟨(some 28), (.v (.mv (.t 5))), (some ⟨27, false⟩), [(.t 5)]⟩, ⟨(some 29), (.v (.eqn 1 false (.t 28))), (some ⟨27, false⟩), [(.t 28), (.k .np)]⟩, ⟨(some 30), (.v (.pick (.t 27) (.k (.c (.bool true))) (.t 29))), none, []⟩]) (.cond (.t 30) (.seq (.ops 0 [⟨(some 31), (.v (.mv (.t 7))), none, []⟩, ⟨(some 32), (.v (.mv (.t 31))), none, []⟩, ⟨(some 33), (.v (.det 11 [⟨false, [.bool]⟩] [])), (some ⟨32, true⟩), [(.k (.fn 11 []))]⟩, ⟨(some 34), (.v (.pick (.t 32) (.t 33) (.k (.c (.bool false))))), none, []⟩, ⟨(some 4), (.v (.mv (.t 34))), none, []⟩]) .ret) .skip)) (.seq (.seq (.ops 0 [⟨(some 8), (.v (.mv (.k (.c (.int .i64 0))))), none, []⟩]) (.block 0 (.loop (.seq (.seq (.ops 0 [⟨(some 35), (.v (.mv (.t 8))), none, []⟩, ⟨(some 36), (.v (.mv (.t 1))), none, []⟩, ⟨(some 37), (.v (.lenS (.t 36))), none, []⟩, ⟨(some 38), (.v (.bin .lss (.t 35) (.t 37))), none, []⟩]) (.cond (.t 38) .skip (.exit 0))) (.seq (.block 1 (.seq (.ops 0 [⟨(some 42), (.v (.mv (.t 5))), none, []⟩, ⟨(some 43), (.v (.mv (.t 1))), none, []⟩, ⟨(some 44), (.v (.mv (.t 8))), none, []⟩, ⟨(some 45), (.v (.ia 5 (.t 43) (.t 44))), none, []⟩, ⟨(some 46), (.v (.lda 5 (.t 45))), none, []⟩, ⟨(some 47), (.h (.call 12 [(.t 42), (.t 46)])), none, []⟩, ⟨(some 41), (.v (.mv (.t 47))), none, []⟩, ⟨(some 48), (.v (.ext (.t 41) 0)), none, []⟩, ⟨(some 49), (.v (.ext (.t 41) 1)), none, []⟩, ⟨(some 9), (.v (.mv (.t 48))), none, []⟩, ⟨(some 10), (.v (.mv (.t 49))), none, []⟩]) (.seq (.ops 0 [⟨(some 51), (.v (.mv (.t 6))), none, []⟩, ⟨(some 52), (.v (.mv (.t 1))), none, []⟩, ⟨(some 53), (.v (.mv (.t 8))), none, []⟩, ⟨(some 54), (.v (.ia 5 (.t 52) (.t 53))), none, []⟩, ⟨(some 55), (.v (.lda 5 (.t 54))), none, []⟩, ⟨(some 56), (.h (.call 13 [(.t 51), (.t 55)])), none, []⟩, ⟨(some 50), (.v (.mv (.t 56))), none, []⟩, ⟨(some 57), (.v (.ext (.t 50) 0)), none, []⟩, ⟨(some 58), (.v (.ext (.t 50) 1)), none, []⟩, ⟨(some 11), (.v (.mv (.t 57))), none, []⟩, ⟨(some 12), (.v (.mv (.t 58))), none, []⟩]) (.seq (.ops 0 [⟨(some 59), (.v (.mv (.t 9))), none, []⟩, ⟨(some 60), (.v (.mv (.t 11))), none, []⟩, ⟨(some 61), (.v (.bin .neq (.t 59) (.t 60))), none, []⟩, ⟨(some 62), (.v (.mv (.t 61))), none, []⟩, ⟨(some 63), (.v (.mv (.t 10))), (some ⟨62, false⟩), [(.t 10)]⟩, ⟨(some 64), (.v (.mv (.t 12))), (some ⟨62, false⟩), [(.t 12)]⟩, ⟨(some 65), (.v (.bin .neq (.t 63) (.t 64))), (some ⟨62, false⟩), [(.t 63), (.t 64)]⟩, ⟨(some 66), (.v (.pick (.t 62) (.k (.c (.bool true))) (.t 65))), none, []⟩, ⟨(some 67), (.v (.mv (.t 66))), none, []⟩, ⟨(some 68), (.v (.mv (.t 5))), (some ⟨67, false⟩), [(.t 5)]⟩, ⟨(some 69), (.h (.call 15 [(.t 68)])), (some ⟨67, false⟩), [(.k (.fn 15 [])), (.t 68)]⟩, ⟨(some 70), (.v (.mv (.t 6))), (some ⟨67, false⟩), [(.t 6)]⟩, ⟨(some 71), (.h (.call 16 [(.t 70)])), (some ⟨67, false⟩), [(.k (.fn 16 [])), (.t 70)]⟩, ⟨(some 72), (.v (.det 14 [⟨false, [.bool]⟩] [(.t 69), (.t 71)])), (some ⟨67, false⟩), [(.k (.fn 14 [])), (.t 69), (.t 71)]⟩, ⟨(some 73), (.v (.un .not (.t 72))), (some ⟨67, false⟩), [(.t 72)]⟩, ⟨(some 74), (.v (.pick (.t 67) (.k (.c (.bool true))) (.t 73))), none, []⟩]) (.cond (.t 74) (.seq (.ops 0 [⟨(some 4), (.v (.mv (.k (.c (.bool false))))), none, []⟩]) .ret) .skip))))) (.ops 0 [⟨(some 39), (.v (.mv (.t 8))), none, []⟩, ⟨(some 40), (.v (.bin .add (.t 39) (.k (.c (.int .i64 1))))), none, []⟩, ⟨(some 8), (.v (.mv (.t 40))), none, []⟩])))))) (.seq (.seq (.ops 0 [⟨(some 13), (.v (.mv (.k (.c (.int .i64 0))))), none, []⟩]) (.block 2 (.loop (.seq (.seq (.ops 0 [⟨(some 75), (.v (.mv (.t 13))), none, []⟩, ⟨(some 76), (.v (.mv (.t 0))), none, []⟩, ⟨(some 77), (.v (.lenS (.t 76))), none, []⟩, ⟨(some 78), (.v (.bin .lss (.t 75) (.t 77))), none, []⟩]) (.cond (.t 78) .skip (.exit 2))) (.seq (.block 3 (.seq (.ops 0 [⟨(some 82), (.v (.mv (.t 5))), none, []⟩, ⟨(some 83), (.v (.mv (.t 13))), none, []⟩, ⟨(some 84), (.h (.call 17 [(.t 82), (.t 83)])), none, []⟩, ⟨(some 81), (.v (.mv (.t 84))), none, []⟩, ⟨(some 85), (.v (.ext (.t 81) 0)), none, []⟩, ⟨(some 86), (.v (.ext (.t 81) 1)), none, []⟩, ⟨(some 14), (.v (.mv (.t 85))), none, []⟩, ⟨(some 15), (.v (.mv (.t 86))), none, []⟩]) (.seq (.ops 0 [⟨(some 88), (.v (.mv (.t 6))), none, []⟩, ⟨(some 89), (.v (.mv (.t 13))), none, []⟩, ⟨(some 90), (.h (.call 18 [(.t 88), (.t 89)])), none, []⟩, ⟨(some 87), (.v (.mv (.t 90))), none, []⟩, ⟨(some 91), (.v (.ext (.t 87) 0)), none, []⟩, ⟨(some 92), (.v (.ext (.t 87) 1)), none, []⟩, ⟨(some 16), (.v (.mv (.t 91))), none, []⟩, ⟨(some 17), (.v (.mv (.t 92))), none, []⟩]) (.seq (.ops 0 [⟨(some 93), (.v (.mv (.t 14))), none, []⟩, ⟨(some 94), (.v (.mv (.t 16))), none, []⟩, ⟨(some 95), (.v (.det 19 [⟨false, [.bool]⟩] [(.t 93), (.t 94)])), none, []⟩, ⟨(some 96), (.v (.un .not (.t 95))), none, []⟩, ⟨(some 97), (.v (.mv (.t 96))), none, []⟩, ⟨(some 98), (.v (.mv (.t 15))), (some ⟨97, false⟩), [(.t 15)]⟩, ⟨(some 99), (.v (.mv (.t 17))), (some ⟨97, false⟩), [(.t 17)]⟩, ⟨(some 100), (.v (.bin .neq (.t 98) (.t 99))), (some ⟨97, false⟩), [(.t 98), (.t 99)]⟩, ⟨(some 101), (.v (.pick (.t 97) (.k (.c (.bool true))) (.t 100))), none, []⟩]) (.cond (.t 101) (.seq (.ops 0 [⟨(some 4), (.v (.mv (.k (.c (.bool false))))), none, []⟩]) .ret) .skip))))) (.ops 0 [⟨(some 79), (.v (.mv (.t 13))), none, []⟩, ⟨(some 80), (.v (.bin .add (.t 79) (.k (.c (.int .i64 1))))), none, []⟩, ⟨(some 13), (.v (.mv (.t 80))), none, []⟩])))))) (.seq (.ops 0 [⟨(some 102), (.v (.det 11 [⟨false, [.bool]⟩] [])), none, []⟩, ⟨(some 4), (.v (.mv (.t 102))), none, []⟩]) .ret)))))), 103, [(.t 4)]⟩
theorem h3 : fnR Try.prog DD 3 = some rf3 := by kernel_rfl
/-- papermill papermilllaw54.StoreNil -/
def rf9 : RFn := ⟨(.seq (.ops 1 [⟨(some 1), (.v (.box 0 33 (.t 0))), none, []⟩, ⟨(some 2), (.v (.mv (.k (.c (.bool false))))), none, []⟩]) (.seq (.ops 0 [⟨(some 3), (.v (.mv (.k .np))), none, []⟩]) (.seq (.ops 0 [⟨(some 13), (.v (.mv (.t 3))), none, []⟩, ⟨(some 14), (.v (.lda 5 (.t 1))), none, []⟩, ⟨(some 15), (.h (.call 12 [(.t 13), (.t 14)])), none, []⟩, ⟨(some 12), (.v (.mv (.t 15))), none, []⟩, ⟨(some 16), (.v (.ext (.t 12) 0)), none, []⟩, ⟨(some 17), (.v (.ext (.t 12) 1)), none, []⟩, ⟨(some 4), (.v (.mv (.t 16))), none, []⟩, ⟨(some 5), (.v (.mv (.t 17))), none, []⟩]) (.seq (.ops 1 [⟨(some 19), (.v (.mv (.t 3))), none, []⟩, ⟨(some 20), (.v (.fa 1 (.t 1))), none, []⟩, ⟨(some 21), (.v (.ld (.t 20))), none, []⟩, ⟨(some 22), (.v (.det 20 [⟨true, [(.int .i64), (.int .i64), (.int .i64)]⟩, ⟨false, [.bool]⟩] [(.t 19), (.t 21)])), none, []⟩, ⟨(some 18), (.v (.mv (.t 22))), none, []⟩, ⟨(some 23), (.v (.ext (.t 18) 0)), none, []⟩, ⟨(some 24), (.v (.ext (.t 18) 1)), none, []⟩, ⟨(some 6), (.v (.alloc 0 44 [(.c (.int .i64 0)), (.c (.int .i64 0)), (.c (.int .i64 0))])), none, []⟩, ⟨none, (.v (.st 3 (.t 6) (.t 23))), none, []⟩, ⟨(some 7), (.v (.mv (.t 24))), none, []⟩]) (.seq (.ops 0 [⟨(some 26), (.v (.mv (.t 3))), none, []⟩, ⟨(some 27), (.v (.fa 3 (.t 1))), none, []⟩, ⟨(some 28), (.v (.ld (.t 27))), none, []⟩, ⟨(some 29), (.h (.call 17 [(.t 26), (.t 28)])), none, []⟩, ⟨(some 25), (.v (.mv (.t 29))), none, []⟩, ⟨(some 30), (.v (.ext (.t 25) 0)), none, []⟩, ⟨(some 31), (.v (.ext (.t 25) 1)), none, []⟩, ⟨(some 8), (.v (.mv (.t 30))), none, []⟩, ⟨(some 9), (.v (.mv (.t 31))), none, []⟩]) (.seq (.ops 1 [⟨(some 33), (.v (.mv (.t 3))), none, []⟩, ⟨(some 34), (.v (.fa 1 (.t 1))), none, []⟩, ⟨(some 35), (.v (.ld (.t 34))), none, []⟩, ⟨(some 36), (.v (.bsl 0 3 [(.int .i64)] [(.t 35)])), none, []⟩, ⟨(some 37), (.v (.det 22 [⟨false, [(.int .i64)]⟩, ⟨false, [(.int .i64)]⟩] [(.t 33), (.t 36)])), none, []⟩, ⟨(some 32), (.v (.mv (.t 37))), none, []⟩, ⟨(some 38), (.v (.ext (.t 32) 0)), none, []⟩, ⟨(some 39), (.v (.ext (.t 32) 1)), none, []⟩, ⟨(some 10), (.v (.mv (.t 38))), none, []⟩, ⟨(some 11), (.v (.mv (.t 39))), none, []⟩]) (.seq (.ops 0 [⟨(some 40), (.v (.mv (.t 4))), none, []⟩, ⟨(some 41), (.v (.bin .eql (.t 40) (.k (.c (.int .i64 0))))), none, []⟩, ⟨(some 42), (.v (.mv (.t 41))), none, []⟩, ⟨(some 43), (.v (.mv (.t 5))), (some ⟨42, true⟩), [(.t 5)]⟩, ⟨(some 44), (.v (.bin .eql (.t 43) (.k (.c (.int .i64 14))))), (some ⟨42, true⟩), [(.t 43), (.k (.c (.int .i64 14)))]⟩, ⟨(some 45), (.v (.pick (.t 42) (.t 44) (.k (.c (.bool false))))), none, []⟩, ⟨(some 46), (.v (.mv (.t 45))), none, []⟩, ⟨(some 47), (.v (.lda 3 (.t 6))), (some ⟨46, true⟩), [(.t 6)]⟩, ⟨(some 48), (.v (.build [(.c (.int .i64 0)), (.c (.int .i64 0)), (.c (.int .i64 0))] [])), (some ⟨46, true⟩), []⟩, ⟨(some 49), (.v (.eqs [(.int .i64), (.int .i64), (.int .i64)] false (.t 47) (.t 48))), (some ⟨46, true⟩), [(.t 47), (.t 48)]⟩, ⟨(some 50), (.v (.pick (.t 46) (.t 49) (.k (.c (.bool false))))), none, []⟩, ⟨(some 51), (.v (.mv (.t 50))), none, []⟩, ⟨(some 52), (.v (.mv (.t 7))), (some ⟨51, true⟩), [(.t 7)]⟩, ⟨(some 53), (.v (.un .not (.t 52))), (some ⟨51, true⟩), [(.t 52)]⟩, ⟨(some 54), (.v (.pick (.t 51) (.t 53) (.k (.c (.bool false))))), none, []⟩, ⟨(some 55), (.v (.mv (.t 54))), none, []⟩, ⟨(some 56), (.v (.mv (.t 8))), (some ⟨55, true⟩), [(.t 8)]⟩, ⟨(some 57), (.v (.lenS (.t 56))), (some ⟨55, true⟩), [(.t 56)]⟩, ⟨(some 58), (.v (.bin .eql (.t 57) (.k (.c (.int .i64 0))))), (some ⟨55, true⟩), [(.t 57), (.k (.c (.int .i64 0)))]⟩, ⟨(some 59), (.v (.pick (.t 55) (.t 58) (.k (.c (.bool false))))), none, []⟩, ⟨(some 60), (.v (.mv (.t 59))), none, []⟩, ⟨(some 61), (.v (.mv (.t 9))), (some ⟨60, true⟩), [(.t 9)]⟩, ⟨(some 62), (.v (.bin .eql (.t 61) (.k (.c (.int .i64 14))))), (some ⟨60, true⟩), [(.t 61), (.k (.c (.int .i64 14)))]⟩, ⟨(some 63), (.v (.pick (.t 60) (.t 62) (.k (.c (.bool false))))), none, []⟩, ⟨(some 64), (.v (.mv (.t 63))), none, []⟩, ⟨(some 65), (.v (.mv (.t 10))), (some ⟨64, true⟩), [(.t 10)]⟩, ⟨(some 66), (.v (.bin .eql (.t 65) (.k (.c (.int .i64 0))))), (some ⟨64, true⟩), [(.t 65), (.k (.c (.int .i64 0)))]⟩, ⟨(some 67), (.v (.pick (.t 64) (.t 66) (.k (.c (.bool false))))), none, []⟩, ⟨(some 68), (.v (.mv (.t 67))), none, []⟩, ⟨(some 69), (.v (.mv (.t 11))), (some ⟨68, true⟩), [(.t 11)]⟩, ⟨(some 70), (.v (.bin .eql (.t 69) (.k (.c (.int .i64 14))))), (some ⟨68, true⟩), [(.t 69), (.k (.c (.int .i64 14)))]⟩, ⟨(some 71), (.v (.pick (.t 68) (.t 70) (.k (.c (.bool false))))), none, []⟩, ⟨(some 72), (.v (.mv (.t 71))), none, []⟩, ⟨(some 73), (.v (.mv (.t 3))), (some ⟨72, true⟩), [(.t 3)]⟩, ⟨(some 74), (.h (.call 15 [(.t 73)])), (some ⟨72, true⟩), [(.k (.fn 15 [])), (.t 73)]⟩, ⟨(some 75), (.v (.lenS (.t 74))), (some ⟨72, true⟩), [(.t 74)]⟩, ⟨(some 76), (.v (.bin .eql (.t 75) (.k (.c (.int .i64 0))))), (some ⟨72, true⟩), [(.t 75), (.k (.c (.int .i64 0)))]⟩, ⟨(some 77), (.v (.pick (.t 72) (.t 76) (.k (.c (.bool false))))), none, []⟩, ⟨(some 78), (.v (.mv (.t 77))), none, []⟩, ⟨(some 79), (.v (.det 11 [⟨false, [.bool]⟩] [])), (some ⟨78, true⟩), [(.k (.fn 11 []))]⟩, ⟨(some 80), (.v (.pick (.t 78) (.t 79) (.k (.c (.bool false))))), none, []⟩, ⟨(some 2), (.v (.mv (.t 80))), none, []⟩]) .ret))))))), 81, [(.t 2)]⟩
theorem h9 : fnR Try.prog DD 9 = some rf9 := by kernel_rfl
def vc3 (E : Env) (x1 : List (List C)) (x2 : List (List C)) (Q : List C → Prop) : Prop :=
  spBegin (x1) (x2) (
  Br (E.bite (E.not true) true true)
    ((Imp true (E.pok 11 [(false, [.bool])] [])) ∧ (∀ r3 : Nat → C, r3 = E.res 11 [] → 
      (Q [.bool (E.bite true (E.gb (r3 0)) false)])))
    (False)) (
  Br (E.bite (E.not true) true false)
    (False)
    (LoopP6 (fun (m4 : List (Int × List C)) (i5 : Int) (i6 : Int) (l7 : List (List C)) (i8 : Int) (i9 : Int) (K10 : (List (Int × List C)) → (Int) → (Int) → (List (List C)) → (Int) → (Int) → Prop) =>
      Br (E.lt i9 (E.len x2))
        (((E.le 0 i9) = true) ∧ 
          (spDo (x1) (m4) (i5) (i6) ((E.gi (E.cell x2 i9 0))) ((E.gi (E.cell x2 i9 1))) ((E.gi (E.cell x2 i9 2))) ((E.gi (E.cell x2 i9 3))) ((E.gi (E.cell x2 i9 4))) (fun (m11 : List (Int × List C)) (i12 : Int) (i13 : Int) (i14 : Int) (i15 : Int) => 
          spMust (x1) (l7) (i8) ((E.gi (E.cell x2 i9 0))) ((E.gi (E.cell x2 i9 1))) ((E.gi (E.cell x2 i9 2))) ((E.gi (E.cell x2 i9 3))) ((E.gi (E.cell x2 i9 4))) (fun (l16 : List (List C)) (i17 : Int) (i18 : Int) (i19 : Int) => 
            ((E.not (E.bite (E.not (E.eq i14 i18)) true (E.not (E.eq i15 i19)))) = true) ∧ 
              (spFree (x1) (m11) (i12) (i13) (fun (l20 : List (List C)) => 
              ((E.not (E.bite (E.not (E.eq i14 i18)) true (E.not (E.eq i15 i19)))) = true) ∧ 
                (spRFree (x1) (l16) (i17) (fun (l21 : List (List C)) => 
                (Imp (E.not (E.bite (E.not (E.eq i14 i18)) true (E.not (E.eq i15 i19)))) (E.pok 14 [(false, [.bool])] [.c (.sl [.int .i64] l20), .c (.sl [.int .i64] l21)])) ∧ (∀ r22 : Nat → C, r22 = E.res 14 [.c (.sl [.int .i64] l20), .c (.sl [.int .i64] l21)] → 
                  (Br (E.bite (E.bite (E.not (E.eq i14 i18)) true (E.not (E.eq i15 i19))) true (E.not (E.gb (r22 0))))
                  (Q [.bool false])
                  (K10 (m11) (i12) (i13) (l16) (i17) ((E.add .i64 i9 1)))))))))))))
        (LoopP1 (fun (i23 : Int) (K24 : (Int) → Prop) =>
          Br (E.lt i23 (E.len x1))
            (spBay (x1) (m4) (i5) (i6) (i23) (fun (l25 : List (List C)) (i26 : Int) => 
              spRBay (x1) (l7) (i8) (i23) (fun (l27 : List (List C)) (i28 : Int) => 
                (E.pok 19 [(false, [.bool])] [.c (.sl [.int .i64, .int .i64, .int .i64] l25), .c (.sl [.int .i64, .int .i64, .int .i64] l27)]) ∧ (∀ r29 : Nat → C, r29 = E.res 19 [.c (.sl [.int .i64, .int .i64, .int .i64] l25), .c (.sl [.int .i64, .int .i64, .int .i64] l27)] → 
                  (Br (E.bite (E.not (E.gb (r29 0))) true (E.not (E.eq i26 i28)))
                  (Q [.bool false])
                  (K24 ((E.add .i64 i23 1))))))))
            ((E.pok 11 [(false, [.bool])] []) ∧ (∀ r30 : Nat → C, r30 = E.res 11 [] → 
              (Q [.bool (E.gb (r30 0))]))))
          (0)))
      ([]) (0) (0) ([]) (0) (0)))
theorem w3 {P : Program} {tbl : FuncId → List A → List C} (ce10 : BeginC P 10) (ce12 : DoC P 12) (ce13 : MustC P 13) (ce15 : FreeC P 15) (ce16 : RFreeC P 16) (ce17 : BayC P 17) (ce18 : RBayC P 18) {x1 : List (List C)} {x2 : List (List C)} {row : List C} (h : vc3 (stdE P tbl) x1 x2 fun c => c = row) : WPg P tbl rf3 [(false, [.bool])] row [.c (.sl [.int .i64, .int .i64] x1), .c (.sl [.int .i64, .int .i64, .int .i64, .int .i64, .int .i64] x2)] := by
  refine ⟨?_⟩
  revert h
  generalize hE : stdE P tbl = E
  intro h
  unfold vc3 at h
  cbv
  refine HCall.mk ce10.1 ((ACalls.frame (ce10.2 _ _ _ _ h) (H := _) (tgt := []) rfl (by decide) ?_).mono fun r H' hq => ?_)
  · intro i o ho
    cases ho
  obtain ⟨r1, H1', hd, _, hr1, hr2⟩ := hq
  rcases hd with ⟨h, rfl, rfl⟩ | ⟨h, rfl, rfl⟩
  · subst hr1 hr2
    cbv
    refine ⟨⟨fun hh => (by first | exact hh | trivial)⟩, ?_⟩
    refine ⟨⟨fun hh => (by first | exact hh | trivial)⟩, ?_⟩
    refine ⟨fun hb31 => ?_, fun hb31 => ?_⟩
    · replace h := h.t hb31
      have c32 := h.1
      refine ⟨c32, ?_⟩
      replace h := h.2 _ rfl
      refine ⟨⟨fun hh => (by first | exact hh | trivial)⟩, ?_⟩
      have h : _ = row := h
      subst h
      repeat' (first | exact trivial | exact rfl | refine And.intro ?_ ?_)
    · replace h := h.f hb31
      exact h.elim
  · subst hr1 hr2
    cbv
    refine ⟨⟨fun hh => (by first | exact hh | trivial)⟩, ?_⟩
    refine ⟨⟨fun hh => (by first | exact hh | trivial)⟩, ?_⟩
    refine ⟨fun hb33 => ?_, fun hb33 => ?_⟩
    · replace h := h.t hb33
      exact h.elim
    · replace h := h.f hb33
      obtain ⟨I, μ, h0, hI⟩ := h
      refine LoopW.inv (fun R R' s h k => RCode.wp_mono _ R R' s h k) (fun p : List (Int × List C) × Int × Int × List (List C) × Int × Int => (fun (m4 : List (Int × List C)) (i5 : Int) (i6 : Int) (l7 : List (List C)) (i8 : Int) (i9 : Int) => (⟨[.c (.sl [.int .i64, .int .i64] x1), .c (.sl [.int .i64, .int .i64, .int .i64, .int .i64, .int .i64] x2), .u, .u, .u, .ptr 0 0, .ptr 2 0, .u, .c (.int .i64 i9), .u, .u, .u, .u, .u, .u, .u, .u, .u, .u, .u, .u, .u, .u, .u, .u, .u, .u, .u, .u, .u, .u, .u, .u, .u, .u, .u, .u, .u, .u, .u, .u, .u, .u, .u, .u, .u, .u, .u, .u, .u, .u, .u, .u, .u, .u, .u, .u, .u, .u, .u, .u, .u, .u, .u, .u, .u, .u, .u, .u, .u, .u, .u, .u, .u, .u, .u, .u, .u, .u, .u, .u, .u, .u, .u, .u, .u, .u, .u, .u, .u, .u, .u, .u, .u, .u, .u, .u, .u, .u, .u, .u, .u, .u], [.box 64 [.c (.sl [.int .i64, .int .i64] x1), .map 1, .c (.int .i64 i5), .c (.int .i64 i6)], .mp .i64 true [.int .i64, .int .i64, .int .i64, .int .i64, .int .i64] m4, .box 68 [.c (.sl [.int .i64, .int .i64] x1), .c (.sl [.int .i64, .int .i64, .int .i64, .int .i64] l7), .c (.int .i64 i8)]]⟩ : St)) p.1 p.2.1 p.2.2.1 p.2.2.2.1 p.2.2.2.2.1 p.2.2.2.2.2) (fun p => I p.1 p.2.1 p.2.2.1 p.2.2.2.1 p.2.2.2.2.1 p.2.2.2.2.2) (fun p => μ p.1 p.2.1 p.2.2.1 p.2.2.2.1 p.2.2.2.2.1 p.2.2.2.2.2) (_, _, _, _, _, _) h0 ?_ ?_
      · refine GSt.ren [0, 1, 2] rfl rfl rfl (fun i hi => absurd hi (Nat.not_lt_zero i)) (Nat.zero_le _) ?_ ?_
        all_goals (repeat' (first | exact trivial | exact Or.inl rfl | exact Or.inr rfl | refine And.intro ?_ ?_))
      · rintro ⟨m4, i5, i6, l7, i8, i9⟩ h
        replace h := hI m4 i5 i6 l7 i8 i9 h
        cbv
        refine ⟨fun hb34 => ?_, fun hb34 => ?_⟩
        · replace h := h.t hb34
          have c35 := h.1
          refine ⟨c35, ?_⟩
          replace h := h.2
          refine ⟨hb34, ?_⟩
          refine HCall.mk ce12.1 ((ACalls.frame (ce12.2.1 _ _ _ _ _ _ _ _ _ _ h) (H := _) (tgt := [0, 1]) rfl (by decide) ?_).mono fun r H' hq => ?_)
          · intro i o ho
            match i, ho with
            | 0, ho => cases ho; rfl
            | 1, ho => cases ho; rfl
          obtain ⟨r1, H1', ⟨m11, i12, i13, i14, i15, h, rfl, rfl⟩, _, rfl, rfl⟩ := hq
          cbv
          refine ⟨c35, ?_⟩
          refine ⟨hb34, ?_⟩
          refine HCall.mk ce13.1 ((ACalls.frame (ce13.2 _ _ _ _ _ _ _ _ _ h) (H := _) (tgt := [2]) rfl (by decide) ?_).mono fun r H' hq => ?_)
          · intro i o ho
            match i, ho with
            | 0, ho => cases ho; rfl
          obtain ⟨r1, H1', ⟨l16, i17, i18, i19, h, rfl, rfl⟩, _, rfl, rfl⟩ := hq
          cbv
          refine ⟨⟨fun hh => (by first | exact hh | trivial)⟩, ?_⟩
          refine ⟨⟨fun hh => (by first | exact hh | trivial)⟩, ?_⟩
          refine ⟨⟨fun hh => (by first | exact hh | trivial)⟩, ?_⟩
          refine ⟨⟨fun hh => (by first | exact hh | trivial)⟩, ?_⟩
          have hb36 := h.1
          refine ⟨fun _ => ?_, fun hb => absurd (hb.symm.trans hb36) Bool.false_ne_true⟩
          replace h := h.2
          refine HCall.mk ce15.1 ((ACalls.frame (ce15.2.1 _ _ _ _ _ h) (H := _) (tgt := [0, 1]) rfl (by decide) ?_).mono fun r H' hq => ?_)
          · intro i o ho
            match i, ho with
            | 0, ho => cases ho; rfl
            | 1, ho => cases ho; rfl
          obtain ⟨r1, H1', ⟨l20, h, rfl, rfl⟩, _, rfl, rfl⟩ := hq
          cbv
          refine ⟨⟨fun _ => hb36⟩, ?_⟩
          have hb37 := h.1
          refine ⟨fun _ => ?_, fun hb => absurd (hb.symm.trans hb37) Bool.false_ne_true⟩
          replace h := h.2
          refine HCall.mk ce16.1 ((ACalls.frame (ce16.2 _ _ _ _ h) (H := _) (tgt := [2]) rfl (by decide) ?_).mono fun r H' hq => ?_)
          · intro i o ho
            match i, ho with
            | 0, ho => cases ho; rfl
          obtain ⟨r1, H1', ⟨l21, h, rfl, rfl⟩, _, rfl, rfl⟩ := hq
          cbv
          have c38 := h.1
          refine ⟨c38, ?_⟩
          replace h := h.2 _ rfl
          refine ⟨⟨fun _ => hb37⟩, ?_⟩
          refine ⟨⟨fun _ => hb37⟩, ?_⟩
          refine ⟨fun hb39 => ?_, fun hb39 => ?_⟩
          · replace h := h.t hb39
            have h : _ = row := h
            subst h
            repeat' (first | exact trivial | exact rfl | refine And.intro ?_ ?_)
          · replace h := h.f hb39
            refine ⟨(_, _, _, _, _, _), h.1, GSt.ren [0, 1, 2] rfl rfl rfl (fun i hi => absurd hi (Nat.not_lt_zero i)) (Nat.zero_le _) ?_ ?_, h.2⟩
            all_goals (repeat' (first | exact trivial | exact Or.inl rfl | exact Or.inr rfl | refine And.intro ?_ ?_))
        · replace h := h.f hb34
          obtain ⟨I, μ, h0, hI⟩ := h
          refine LoopW.inv (fun R R' s h k => RCode.wp_mono _ R R' s h k) (fun p : Int => (fun (i23 : Int) => (⟨[.c (.sl [.int .i64, .int .i64] x1), .u, .u, .u, .u, .ptr 0 0, .ptr 2 0, .u, .u, .u, .u, .u, .u, .c (.int .i64 i23), .u, .u, .u, .u, .u, .u, .u, .u, .u, .u, .u, .u, .u, .u, .u, .u, .u, .u, .u, .u, .u, .u, .u, .u, .u, .u, .u, .u, .u, .u, .u, .u, .u, .u, .u, .u, .u, .u, .u, .u, .u, .u, .u, .u, .u, .u, .u, .u, .u, .u, .u, .u, .u, .u, .u, .u, .u, .u, .u, .u, .u, .u, .u, .u, .u, .u, .u, .u, .u, .u, .u, .u, .u, .u, .u, .u, .u, .u, .u, .u, .u, .u, .u, .u, .u, .u, .u, .u, .u], [.box 64 [.c (.sl [.int .i64, .int .i64] x1), .map 1, .c (.int .i64 i5), .c (.int .i64 i6)], .mp .i64 true [.int .i64, .int .i64, .int .i64, .int .i64, .int .i64] m4, .box 68 [.c (.sl [.int .i64, .int .i64] x1), .c (.sl [.int .i64, .int .i64, .int .i64, .int .i64] l7), .c (.int .i64 i8)]]⟩ : St)) p) (fun p => I p) (fun p => μ p) _ h0 ?_ ?_
          · refine GSt.ren [0, 1, 2] rfl rfl rfl (fun i hi => absurd hi (Nat.not_lt_zero i)) (Nat.zero_le _) ?_ ?_
            all_goals (repeat' (first | exact trivial | exact Or.inl rfl | exact Or.inr rfl | refine And.intro ?_ ?_))
          · rintro i23 h
            replace h := hI i23 h
            cbv
            refine ⟨fun hb40 => ?_, fun hb40 => ?_⟩
            · replace h := h.t hb40
              refine HCall.mk ce17.1 ((ACalls.frame (ce17.2.1 _ _ _ _ _ _ h) (H := _) (tgt := [0, 1]) rfl (by decide) ?_).mono fun r H' hq => ?_)
              · intro i o ho
                match i, ho with
                | 0, ho => cases ho; rfl
                | 1, ho => cases ho; rfl
              obtain ⟨r1, H1', ⟨l25, i26, h, rfl, rfl⟩, _, rfl, rfl⟩ := hq
              cbv
              refine HCall.mk ce18.1 ((ACalls.frame (ce18.2 _ _ _ _ _ h) (H := _) (tgt := [2]) rfl (by decide) ?_).mono fun r H' hq => ?_)
              · intro i o ho
                match i, ho with
                | 0, ho => cases ho; rfl
              obtain ⟨r1, H1', ⟨l27, i28, h, rfl, rfl⟩, _, rfl, rfl⟩ := hq
              cbv
              have c41 := h.1
              refine ⟨c41, ?_⟩
              replace h := h.2 _ rfl
              refine ⟨⟨fun hh => (by first | exact hh | trivial)⟩, ?_⟩
              refine ⟨⟨fun hh => (by first | exact hh | trivial)⟩, ?_⟩
              refine ⟨⟨fun hh => (by first | exact hh | trivial)⟩, ?_⟩
              refine ⟨fun hb42 => ?_, fun hb42 => ?_⟩
              · replace h := h.t hb42
                have h : _ = row := h
                subst h
                repeat' (first | exact trivial | exact rfl | refine And.intro ?_ ?_)
              · replace h := h.f hb42
                refine ⟨_, h.1, GSt.ren [0, 1, 2] rfl rfl rfl (fun i hi => absurd hi (Nat.not_lt_zero i)) (Nat.zero_le _) ?_ ?_, h.2⟩
                all_goals (repeat' (first | exact trivial | exact Or.inl rfl | exact Or.inr rfl | refine And.intro ?_ ?_))
            · replace h := h.f hb40
              have c43 := h.1
              refine ⟨c43, ?_⟩
              replace h := h.2 _ rfl
              have h : _ = row := h
              subst h
              repeat' (first | exact trivial | exact rfl | refine And.intro ?_ ?_)
def vc9 (E : Env) (x1 : Int) (x2 : Int) (x3 : Int) (x4 : Int) (x5 : Int) (Q : List C → Prop) : Prop :=
  spNil5 (x1) (x2) (x3) (x4) (x5) (
  (E.pok 20 [(true, [.int .i64, .int .i64, .int .i64]), (false, [.bool])] [.np, .c (.int .i64 x2)]) ∧ (∀ r6 : Nat → C, r6 = E.res 20 [.np, .c (.int .i64 x2)] → 
    (spNil1 (x4) (
    (E.pok 22 [(false, [.int .i64]), (false, [.int .i64])] [.np, .c (.sl [.int .i64] [[.int .i64 x2]])]) ∧ (∀ r7 : Nat → C, r7 = E.res 22 [.np, .c (.sl [.int .i64] [[.int .i64 x2]])] → 
      (((E.bite (E.bite (E.bite (E.bite (E.bite (E.bite (E.bite (E.eq 0 0) (E.eq 14 14) false) (E.and (E.eq (E.gi (r6 0)) 0) (E.and (E.eq (E.gi (r6 1)) 0) (E.and (E.eq (E.gi (r6 2)) 0) true))) false) (E.not (E.gb (r6 3))) false) (E.eq 0 0) false) (E.eq 14 14) false) (E.eq (E.gi (r7 0)) 0) false) (E.eq (E.gi (r7 1)) 14) false) = true) ∧ 
      (spNil0  (
      (Imp (E.bite (E.bite (E.bite (E.bite (E.bite (E.bite (E.bite (E.bite (E.eq 0 0) (E.eq 14 14) false) (E.and (E.eq (E.gi (r6 0)) 0) (E.and (E.eq (E.gi (r6 1)) 0) (E.and (E.eq (E.gi (r6 2)) 0) true))) false) (E.not (E.gb (r6 3))) false) (E.eq 0 0) false) (E.eq 14 14) false) (E.eq (E.gi (r7 0)) 0) false) (E.eq (E.gi (r7 1)) 14) false) (E.eq 0 0) false) (E.pok 11 [(false, [.bool])] [])) ∧ (∀ r8 : Nat → C, r8 = E.res 11 [] → 
        (Q [.bool (E.bite (E.bite (E.bite (E.bite (E.bite (E.bite (E.bite (E.bite (E.bite (E.eq 0 0) (E.eq 14 14) false) (E.and (E.eq (E.gi (r6 0)) 0) (E.and (E.eq (E.gi (r6 1)) 0) (E.and (E.eq (E.gi (r6 2)) 0) true))) false) (E.not (E.gb (r6 3))) false) (E.eq 0 0) false) (E.eq 14 14) false) (E.eq (E.gi (r7 0)) 0) false) (E.eq (E.gi (r7 1)) 14) false) (E.eq 0 0) false) (E.gb (r8 0)) false)]))))))))))
theorem w9 {P : Program} {tbl : FuncId → List A → List C} (ce12 : DoC P 12) (ce15 : FreeC P 15) (ce17 : BayC P 17) {x1 : Int} {x2 : Int} {x3 : Int} {x4 : Int} {x5 : Int} {row : List C} (h : vc9 (stdE P tbl) x1 x2 x3 x4 x5 fun c => c = row) : WPg P tbl rf9 [(false, [.bool])] row [.agg [.c (.int .i64 x1), .c (.int .i64 x2), .c (.int .i64 x3), .c (.int .i64 x4), .c (.int .i64 x5)]] := by
  refine ⟨?_⟩
  revert h
  generalize hE : stdE P tbl = E
  intro h
  unfold vc9 at h
  cbv
  refine HCall.mk ce12.1 ((ACalls.frame (ce12.2.2 _ _ _ _ _ _ h) (H := _) (tgt := []) rfl (by decide) ?_).mono fun r H' hq => ?_)
  · intro i o ho
    cases ho
  obtain ⟨r1, H1', ⟨h, rfl, rfl⟩, _, rfl, rfl⟩ := hq
  cbv
  have c9 := h.1
  refine ⟨c9, ?_⟩
  replace h := h.2 _ rfl
  refine HCall.mk ce17.1 ((ACalls.frame (ce17.2.2 _ _ h) (H := _) (tgt := []) rfl (by decide) ?_).mono fun r H' hq => ?_)
  · intro i o ho
    cases ho
  obtain ⟨r1, H1', ⟨h, rfl, rfl⟩, _, rfl, rfl⟩ := hq
  cbv
  have c10 := h.1
  refine ⟨c10, ?_⟩
  replace h := h.2 _ rfl
  refine ⟨⟨fun hh => (by first | exact hh | trivial)⟩, ?_⟩
  refine ⟨⟨fun hh => (by first | exact hh | trivial)⟩, ?_⟩
  refine ⟨⟨fun hh => (by first | exact hh | trivial)⟩, ?_⟩
  refine ⟨⟨fun hh => (by first | exact hh | trivial)⟩, ?_⟩
  refine ⟨⟨fun hh => (by first | exact hh | trivial)⟩, ?_⟩
  refine ⟨⟨fun hh => (by first | exact hh | trivial)⟩, ?_⟩
  refine ⟨⟨fun hh => (by first | exact hh | trivial)⟩, ?_⟩
  refine ⟨⟨fun hh => (by first | exact hh | trivial)⟩, ?_⟩
  refine ⟨⟨fun hh => (by first | exact hh | trivial)⟩, ?_⟩
  refine ⟨⟨fun hh => (by first | exact hh | trivial)⟩, ?_⟩
  refine ⟨⟨fun hh => (by first | exact hh | trivial)⟩, ?_⟩
  refine ⟨⟨fun hh => (by first | exact hh | trivial)⟩, ?_⟩
  refine ⟨⟨fun hh => (by first | exact hh | trivial)⟩, ?_⟩
  refine ⟨⟨fun hh => (by first | exact hh | trivial)⟩, ?_⟩
  refine ⟨⟨fun hh => (by first | exact hh | trivial)⟩, ?_⟩
  refine ⟨⟨fun hh => (by first | exact hh | trivial)⟩, ?_⟩
  refine ⟨⟨fun hh => (by first | exact hh | trivial)⟩, ?_⟩
  have hb11 := h.1
  refine ⟨fun _ => ?_, fun hb => absurd (hb.symm.trans hb11) Bool.false_ne_true⟩
  replace h := h.2
  refine HCall.mk ce15.1 ((ACalls.frame (ce15.2.2  _ h) (H := _) (tgt := []) rfl (by decide) ?_).mono fun r H' hq => ?_)
  · intro i o ho
    cases ho
  obtain ⟨r1, H1', ⟨h, rfl, rfl⟩, _, rfl, rfl⟩ := hq
  cbv
  refine ⟨⟨fun _ => hb11⟩, ?_⟩
  refine ⟨⟨fun _ => hb11⟩, ?_⟩
  have c12 := h.1
  refine ⟨c12, ?_⟩
  replace h := h.2 _ rfl
  refine ⟨⟨fun hh => (by first | exact hh | trivial)⟩, ?_⟩
  have h : _ = row := h
  subst h
  repeat' (first | exact trivial | exact rfl | refine And.intro ?_ ?_)
end Go.Proofs.Ytniijahjfbgfpaa.V
