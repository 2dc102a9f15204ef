/- Grades: the walks of the functions that check and find them. No conditions. -/
import Derived.Test.YtljnpioekbdcaaaAwake
set_option linter.unusedVariables false
set_option linter.unusedSimpArgs false
namespace Go.Proofs.Ytljnpioekbdcaaa.V
open Go Go.Eng
set_option maxRecDepth 1000000
set_option maxHeartbeats 1000000
/-- papermill papermilllaw31.light -/
def rf10 : RFn := ⟨(.seq (.ops 0 [⟨(some 2), (.v (.mv (.k (.c (.bool false))))), none, []⟩]) (.seq (.seq (.ops 0 [⟨(some 4), (.v (.mv (.t 0))), none, []⟩, ⟨(some 5), (.v (.lenS (.t 4))), none, []⟩, ⟨(some 6), (.v (.bin .gtr (.t 5) (.k (.c (.int .i64 30))))), none, []⟩]) (.cond (.t 6) (.seq (.ops 0 [⟨(some 2), (.v (.mv (.k (.c (.bool false))))), none, []⟩]) .ret) .skip)) (.seq (.seq (.ops 0 [⟨(some 3), (.v (.mv (.k (.c (.int .i64 0))))), none, []⟩]) (.block 0 (.loop (.seq (.seq (.ops 0 [⟨(some 7), (.v (.mv (.t 3))), none, []⟩, ⟨(some 8), (.v (.mv (.t 0))), none, []⟩, ⟨(some 9), (.v (.lenS (.t 8))), none, []⟩, ⟨(some 10), (.v (.bin .lss (.t 7) (.t 9))), none, []⟩]) (.cond (.t 10) .skip (.exit 0))) (.seq (.block 1 (.seq (.ops 0 [⟨(some 13), (.v (.mv (.t 0))), none, []⟩, ⟨(some 14), (.v (.mv (.t 3))), none, []⟩, ⟨(some 15), (.v (.ia 8 (.t 13) (.t 14))), none, []⟩, ⟨(some 16), (.v (.fa 0 (.t 15))), none, []⟩, ⟨(some 17), (.v (.ld (.t 16))), none, []⟩, ⟨(some 18), (.v (.lenT (.t 17))), none, []⟩, ⟨(some 19), (.v (.bin .gtr (.t 18) (.k (.c (.int .i64 100))))), none, []⟩, ⟨(some 20), (.v (.mv (.t 19))), none, []⟩, ⟨(some 21), (.v (.mv (.t 0))), (some ⟨20, false⟩), [(.t 0)]⟩, ⟨(some 22), (.v (.mv (.t 3))), (some ⟨20, false⟩), [(.t 3)]⟩, ⟨(some 23), (.v (.ia 8 (.t 21) (.t 22))), (some ⟨20, false⟩), [(.t 21), (.t 22)]⟩, ⟨(some 24), (.v (.fa 6 (.t 23))), (some ⟨20, false⟩), [(.t 23)]⟩, ⟨(some 25), (.v (.ld (.t 24))), (some ⟨20, false⟩), [(.t 24)]⟩, ⟨(some 26), (.v (.lenS (.t 25))), (some ⟨20, false⟩), [(.t 25)]⟩, ⟨(some 27), (.v (.bin .gtr (.t 26) (.k (.c (.int .i64 20))))), (some ⟨20, false⟩), [(.t 26), (.k (.c (.int .i64 20)))]⟩, ⟨(some 28), (.v (.pick (.t 20) (.k (.c (.bool true))) (.t 27))), none, []⟩]) (.cond (.t 28) (.seq (.ops 0 [⟨(some 2), (.v (.mv (.k (.c (.bool false))))), none, []⟩]) .ret) .skip))) (.ops 0 [⟨(some 11), (.v (.mv (.t 3))), none, []⟩, ⟨(some 12), (.v (.bin .add (.t 11) (.k (.c (.int .i64 1))))), none, []⟩, ⟨(some 3), (.v (.mv (.t 12))), none, []⟩])))))) (.seq (.ops 0 [⟨(some 2), (.v (.mv (.k (.c (.bool true))))), none, []⟩]) .ret)))), 29, [(.t 2)]⟩
theorem h10 : fnR Try.prog DD 10 = some rf10 := by kernel_rfl
/-- papermill papermillref31.Check -/
def rf13 : RFn := ⟨(.seq (.ops 0 [⟨(some 4), (.v (.mv (.k (.c (.int .i64 0))))), none, []⟩]) (.seq (.seq (.ops 0 [⟨(some 10), (.v (.mv (.t 1))), none, []⟩, ⟨(some 11), (.v (.bin .lss (.t 10) (.k (.c (.int .i64 1))))), none, []⟩, ⟨(some 12), (.v (.mv (.t 11))), none, []⟩, ⟨(some 13), (.v (.mv (.t 1))), (some ⟨12, false⟩), [(.t 1)]⟩, ⟨(some 14), (.v (.bin .gtr (.t 13) (.k (.c (.int .i64 8))))), (some ⟨12, false⟩), [(.t 13), (.k (.c (.int .i64 8)))]⟩, ⟨(some 15), (.v (.pick (.t 12) (.k (.c (.bool true))) (.t 14))), none, []⟩]) (.cond (.t 15) (.seq (.ops 0 [⟨(some 4), (.v (.mv (.k (.c (.int .i64 17))))), none, []⟩]) .ret) .skip)) (.seq (.seq (.ops 0 [⟨(some 16), (.v (.mv (.t 0))), none, []⟩, ⟨(some 17), (.v (.lenS (.t 16))), none, []⟩, ⟨(some 18), (.v (.bin .eql (.t 17) (.k (.c (.int .i64 0))))), none, []⟩]) (.cond (.t 18) (.seq (.ops 0 [⟨(some 4), (.v (.mv (.k (.c (.int .i64 10))))), none, []⟩]) .ret) .skip)) (.seq (.seq (.ops 0 [⟨(some 19), (.v (.mv (.t 0))), none, []⟩, ⟨(some 20), (.v (.lenS (.t 19))), none, []⟩, ⟨(some 21), (.v (.bin .gtr (.t 20) (.k (.c (.int .i64 16))))), none, []⟩]) (.cond (.t 21) (.seq (.ops 0 [⟨(some 4), (.v (.mv (.k (.c (.int .i64 8))))), none, []⟩]) .ret) .skip)) (.seq (.seq (.ops 0 [⟨(some 5), (.v (.mv (.k (.c (.int .i64 0))))), none, []⟩]) (.block 0 (.loop (.seq (.seq (.ops 0 [⟨(some 22), (.v (.mv (.t 5))), none, []⟩, ⟨(some 23), (.v (.mv (.t 0))), none, []⟩, ⟨(some 24), (.v (.lenS (.t 23))), none, []⟩, ⟨(some 25), (.v (.bin .lss (.t 22) (.t 24))), none, []⟩]) (.cond (.t 25) .skip (.exit 0))) (.seq (.block 1 (.seq (.ops 0 [⟨(some 28), (.v (.mv (.t 0))), none, []⟩, ⟨(some 29), (.v (.mv (.t 5))), none, []⟩, ⟨(some 30), (.v (.ia 8 (.t 28) (.t 29))), none, []⟩, ⟨(some 31), (.v (.lda 8 (.t 30))), none, []⟩, ⟨(some 32), (.v (.mv (.t 1))), none, []⟩, ⟨(some 33), (.v (.det 31 [⟨false, [(.int .i64)]⟩] [(.t 31), (.t 32)])), none, []⟩, ⟨(some 6), (.v (.mv (.t 33))), none, []⟩]) (.seq (.ops 0 [⟨(some 34), (.v (.mv (.t 6))), none, []⟩, ⟨(some 35), (.v (.bin .neq (.t 34) (.k (.c (.int .i64 0))))), none, []⟩]) (.cond (.t 35) (.seq (.ops 0 [⟨(some 36), (.v (.mv (.t 6))), none, []⟩, ⟨(some 4), (.v (.mv (.t 36))), none, []⟩]) .ret) .skip)))) (.ops 0 [⟨(some 26), (.v (.mv (.t 5))), none, []⟩, ⟨(some 27), (.v (.bin .add (.t 26) (.k (.c (.int .i64 1))))), none, []⟩, ⟨(some 5), (.v (.mv (.t 27))), none, []⟩])))))) (.seq (.seq (.ops 0 [⟨(some 7), (.v (.mv (.k (.c (.int .i64 0))))), none, []⟩]) (.block 2 (.loop (.seq (.seq (.ops 0 [⟨(some 37), (.v (.mv (.t 7))), none, []⟩, ⟨(some 38), (.v (.mv (.t 0))), none, []⟩, ⟨(some 39), (.v (.lenS (.t 38))), none, []⟩, ⟨(some 40), (.v (.bin .lss (.t 37) (.t 39))), none, []⟩]) (.cond (.t 40) .skip (.exit 2))) (.seq (.block 3 (.seq (.ops 0 [⟨(some 44), (.v (.mv (.t 0))), none, []⟩, ⟨(some 45), (.v (.mv (.t 0))), none, []⟩, ⟨(some 46), (.v (.mv (.t 7))), none, []⟩, ⟨(some 47), (.v (.ia 8 (.t 45) (.t 46))), none, []⟩, ⟨(some 48), (.v (.fa 0 (.t 47))), none, []⟩, ⟨(some 49), (.v (.ld (.t 48))), none, []⟩, ⟨(some 50), (.v (.det 15 [⟨false, [(.int .i64)]⟩, ⟨false, [.bool]⟩] [(.t 44), (.t 49)])), none, []⟩, ⟨(some 43), (.v (.mv (.t 50))), none, []⟩, ⟨(some 51), (.v (.ext (.t 43) 0)), none, []⟩, ⟨(some 52), (.v (.ext (.t 43) 1)), none, []⟩, ⟨(some 8), (.v (.mv (.t 51))), none, []⟩, ⟨(some 9), (.v (.mv (.t 52))), none, []⟩]) (.seq (.ops 0 [⟨(some 53), (.v (.mv (.t 8))), none, []⟩, ⟨(some 54), (.v (.mv (.t 7))), none, []⟩, ⟨(some 55), (.v (.bin .lss (.t 53) (.t 54))), none, []⟩]) (.cond (.t 55) (.seq (.ops 0 [⟨(some 4), (.v (.mv (.k (.c (.int .i64 6))))), none, []⟩]) .ret) .skip)))) (.ops 0 [⟨(some 41), (.v (.mv (.t 7))), none, []⟩, ⟨(some 42), (.v (.bin .add (.t 41) (.k (.c (.int .i64 1))))), none, []⟩, ⟨(some 7), (.v (.mv (.t 42))), none, []⟩])))))) (.seq (.ops 0 [⟨(some 4), (.v (.mv (.k (.c (.int .i64 0))))), none, []⟩]) .ret))))))), 56, [(.t 4)]⟩
theorem h13 : fnR Try.prog DD 13 = some rf13 := by kernel_rfl
/-- papermill papermillref31.Find -/
def rf15 : RFn := ⟨(.seq (.ops 0 [⟨(some 4), (.v (.mv (.k (.c (.int .i64 0))))), none, []⟩, ⟨(some 5), (.v (.mv (.k (.c (.bool false))))), none, []⟩]) (.seq (.seq (.ops 0 [⟨(some 6), (.v (.mv (.k (.c (.int .i64 0))))), none, []⟩]) (.block 0 (.loop (.seq (.seq (.ops 0 [⟨(some 7), (.v (.mv (.t 6))), none, []⟩, ⟨(some 8), (.v (.mv (.t 0))), none, []⟩, ⟨(some 9), (.v (.lenS (.t 8))), none, []⟩, ⟨(some 10), (.v (.bin .lss (.t 7) (.t 9))), none, []⟩]) (.cond (.t 10) .skip (.exit 0))) (.seq (.block 1 (.seq (.ops 0 [⟨(some 13), (.v (.mv (.t 0))), none, []⟩, ⟨(some 14), (.v (.mv (.t 6))), none, []⟩, ⟨(some 15), (.v (.ia 8 (.t 13) (.t 14))), none, []⟩, ⟨(some 16), (.v (.fa 0 (.t 15))), none, []⟩, ⟨(some 17), (.v (.ld (.t 16))), none, []⟩, ⟨(some 18), (.v (.mv (.t 1))), none, []⟩, ⟨(some 19), (.v (.bin .eql (.t 17) (.t 18))), none, []⟩]) (.cond (.t 19) (.seq (.ops 0 [⟨(some 20), (.v (.mv (.t 6))), none, []⟩, ⟨(some 4), (.v (.mv (.t 20))), none, []⟩, ⟨(some 5), (.v (.mv (.k (.c (.bool true))))), none, []⟩]) .ret) .skip))) (.ops 0 [⟨(some 11), (.v (.mv (.t 6))), none, []⟩, ⟨(some 12), (.v (.bin .add (.t 11) (.k (.c (.int .i64 1))))), none, []⟩, ⟨(some 6), (.v (.mv (.t 12))), none, []⟩])))))) (.seq (.ops 0 [⟨(some 4), (.v (.mv (.k (.c (.int .i64 0))))), none, []⟩, ⟨(some 5), (.v (.mv (.k (.c (.bool false))))), none, []⟩]) .ret))), 21, [(.t 4), (.t 5)]⟩
theorem h15 : fnR Try.prog DD 15 = some rf15 := by kernel_rfl
/-- papermill papermillref31.one -/
def rf31 : RFn := ⟨(.seq (.ops 1 [⟨(some 2), (.v (.box 0 33 (.t 0))), none, []⟩, ⟨(some 4), (.v (.mv (.k (.c (.int .i64 0))))), none, []⟩]) (.seq (.seq (.ops 0 [⟨(some 6), (.v (.fa 0 (.t 2))), none, []⟩, ⟨(some 7), (.v (.ld (.t 6))), none, []⟩, ⟨(some 8), (.v (.det 50 [⟨false, [.bool]⟩] [(.t 7)])), none, []⟩, ⟨(some 9), (.v (.un .not (.t 8))), none, []⟩]) (.cond (.t 9) (.seq (.ops 0 [⟨(some 4), (.v (.mv (.k (.c (.int .i64 5))))), none, []⟩]) .ret) .skip)) (.seq (.seq (.ops 0 [⟨(some 10), (.v (.fa 1 (.t 2))), none, []⟩, ⟨(some 11), (.v (.ld (.t 10))), none, []⟩, ⟨(some 12), (.v (.bin .lss (.t 11) (.k (.c (.int .i64 1))))), none, []⟩, ⟨(some 13), (.v (.mv (.t 12))), none, []⟩, ⟨(some 14), (.v (.fa 1 (.t 2))), (some ⟨13, false⟩), [(.t 2)]⟩, ⟨(some 15), (.v (.ld (.t 14))), (some ⟨13, false⟩), [(.t 14)]⟩, ⟨(some 16), (.v (.bin .gtr (.t 15) (.k (.c (.int .i64 1000000))))), (some ⟨13, false⟩), [(.t 15), (.k (.c (.int .i64 1000000)))]⟩, ⟨(some 17), (.v (.pick (.t 13) (.k (.c (.bool true))) (.t 16))), none, []⟩, ⟨(some 18), (.v (.mv (.t 17))), none, []⟩, ⟨(some 19), (.v (.fa 2 (.t 2))), (some ⟨18, false⟩), [(.t 2)]⟩, ⟨(some 20), (.v (.ld (.t 19))), (some ⟨18, false⟩), [(.t 19)]⟩, ⟨(some 21), (.v (.bin .lss (.t 20) (.k (.c (.int .i64 0))))), (some ⟨18, false⟩), [(.t 20), (.k (.c (.int .i64 0)))]⟩, ⟨(some 22), (.v (.pick (.t 18) (.k (.c (.bool true))) (.t 21))), none, []⟩, ⟨(some 23), (.v (.mv (.t 22))), none, []⟩, ⟨(some 24), (.v (.fa 2 (.t 2))), (some ⟨23, false⟩), [(.t 2)]⟩, ⟨(some 25), (.v (.ld (.t 24))), (some ⟨23, false⟩), [(.t 24)]⟩, ⟨(some 26), (.v (.fa 1 (.t 2))), (some ⟨23, false⟩), [(.t 2)]⟩, ⟨(some 27), (.v (.ld (.t 26))), (some ⟨23, false⟩), [(.t 26)]⟩, ⟨(some 28), (.v (.bin .gtr (.t 25) (.t 27))), (some ⟨23, false⟩), [(.t 25), (.t 27)]⟩, ⟨(some 29), (.v (.pick (.t 23) (.k (.c (.bool true))) (.t 28))), none, []⟩]) (.cond (.t 29) (.seq (.ops 0 [⟨(some 4), (.v (.mv (.k (.c (.int .i64 1))))), none, []⟩]) .ret) .skip)) (.seq (.seq (.ops 0 [⟨(some 30), (.v (.fa 3 (.t 2))), none, []⟩, ⟨(some 31), (.v (.ld (.t 30))), none, []⟩, ⟨(some 32), (.v (.bin .lss (.t 31) (.k (.c (.int .i64 0))))), none, []⟩, ⟨(some 33), (.v (.mv (.t 32))), none, []⟩, ⟨(some 34), (.v (.fa 3 (.t 2))), (some ⟨33, false⟩), [(.t 2)]⟩, ⟨(some 35), (.v (.ld (.t 34))), (some ⟨33, false⟩), [(.t 34)]⟩, ⟨(some 36), (.v (.bin .gtr (.t 35) (.k (.c (.int .i64 2000))))), (some ⟨33, false⟩), [(.t 35), (.k (.c (.int .i64 2000)))]⟩, ⟨(some 37), (.v (.pick (.t 33) (.k (.c (.bool true))) (.t 36))), none, []⟩, ⟨(some 38), (.v (.mv (.t 37))), none, []⟩, ⟨(some 39), (.v (.fa 4 (.t 2))), (some ⟨38, false⟩), [(.t 2)]⟩, ⟨(some 40), (.v (.ld (.t 39))), (some ⟨38, false⟩), [(.t 39)]⟩, ⟨(some 41), (.v (.bin .lss (.t 40) (.k (.c (.int .i64 0))))), (some ⟨38, false⟩), [(.t 40), (.k (.c (.int .i64 0)))]⟩, ⟨(some 42), (.v (.pick (.t 38) (.k (.c (.bool true))) (.t 41))), none, []⟩, ⟨(some 43), (.v (.mv (.t 42))), none, []⟩, ⟨(some 44), (.v (.fa 4 (.t 2))), (some ⟨43, false⟩), [(.t 2)]⟩, ⟨(some 45), (.v (.ld (.t 44))), (some ⟨43, false⟩), [(.t 44)]⟩, ⟨(some 46), (.v (.fa 3 (.t 2))), (some ⟨43, false⟩), [(.t 2)]⟩, ⟨(some 47), (.v (.ld (.t 46))), (some ⟨43, false⟩), [(.t 46)]⟩, ⟨(some 48), (.v (.bin .gtr (.t 45) (.t 47))), (some ⟨43, false⟩), [(.t 45), (.t 47)]⟩, ⟨(some 49), (.v (.pick (.t 43) (.k (.c (.bool true))) (.t 48))), none, []⟩, ⟨(some 50), (.v (.mv (.t 49))), none, []⟩, ⟨(some 51), (.v (.fa 5 (.t 2))), (some ⟨50, false⟩), [(.t 2)]⟩, ⟨(some 52), (.v (.ld (.t 51))), (some ⟨50, false⟩), [(.t 51)]⟩, ⟨(some 53), (.v (.bin .lss (.t 52) (.k (.c (.int .i64 1))))), (some ⟨50, false⟩), [(.t 52), (.k (.c (.int .i64 1)))]⟩, ⟨(some 54), (.v (.pick (.t 50) (.k (.c (.bool true))) (.t 53))), none, []⟩, ⟨(some 55), (.v (.mv (.t 54))), none, []⟩, ⟨(some 56), (.v (.fa 5 (.t 2))), (some ⟨55, false⟩), [(.t 2)]⟩, ⟨(some 57), (.v (.ld (.t 56))), (some ⟨55, false⟩), [(.t 56)]⟩, ⟨(some 58), (.v (.bin .gtr (.t 57) (.k (.c (.int .i64 5000))))), (some ⟨55, false⟩), [(.t 57), (.k (.c (.int .i64 5000)))]⟩, ⟨(some 59), (.v (.pick (.t 55) (.k (.c (.bool true))) (.t 58))), none, []⟩]) (.cond (.t 59) (.seq (.ops 0 [⟨(some 4), (.v (.mv (.k (.c (.int .i64 1))))), none, []⟩]) .ret) .skip)) (.seq (.seq (.ops 0 [⟨(some 60), (.v (.fa 6 (.t 2))), none, []⟩, ⟨(some 61), (.v (.ld (.t 60))), none, []⟩, ⟨(some 62), (.v (.mv (.t 1))), none, []⟩, ⟨(some 63), (.v (.det 51 [⟨false, [(.int .i64)]⟩] [(.t 61), (.t 62)])), none, []⟩, ⟨(some 5), (.v (.mv (.t 63))), none, []⟩]) (.seq (.ops 0 [⟨(some 64), (.v (.mv (.t 5))), none, []⟩, ⟨(some 65), (.v (.bin .neq (.t 64) (.k (.c (.int .i64 0))))), none, []⟩]) (.cond (.t 65) (.seq (.ops 0 [⟨(some 66), (.v (.mv (.t 5))), none, []⟩, ⟨(some 4), (.v (.mv (.t 66))), none, []⟩]) .ret) .skip))) (.seq (.seq (.ops 0 [⟨(some 67), (.v (.fa 7 (.t 2))), none, []⟩, ⟨(some 68), (.v (.ld (.t 67))), none, []⟩, ⟨(some 69), (.v (.bin .lss (.t 68) (.k (.c (.int .i64 0))))), none, []⟩, ⟨(some 70), (.v (.mv (.t 69))), none, []⟩, ⟨(some 71), (.v (.fa 7 (.t 2))), (some ⟨70, false⟩), [(.t 2)]⟩, ⟨(some 72), (.v (.ld (.t 71))), (some ⟨70, false⟩), [(.t 71)]⟩, ⟨(some 73), (.v (.bin .gtr (.t 72) (.k (.c (.int .i64 1000000000))))), (some ⟨70, false⟩), [(.t 72), (.k (.c (.int .i64 1000000000)))]⟩, ⟨(some 74), (.v (.pick (.t 70) (.k (.c (.bool true))) (.t 73))), none, []⟩]) (.cond (.t 74) (.seq (.ops 0 [⟨(some 4), (.v (.mv (.k (.c (.int .i64 1))))), none, []⟩]) .ret) .skip)) (.seq (.ops 0 [⟨(some 4), (.v (.mv (.k (.c (.int .i64 0))))), none, []⟩]) .ret))))))), 75, [(.t 4)]⟩
theorem h31 : fnR Try.prog DD 31 = some rf31 := by kernel_rfl
/-- papermill papermillref06.Valid -/
def rf50 : RFn := ⟨(.seq (.ops 0 [⟨(some 2), (.v (.mv (.k (.c (.bool false))))), none, []⟩]) (.seq (.seq (.ops 0 [⟨(some 5), (.v (.mv (.t 0))), none, []⟩, ⟨(some 6), (.v (.lenT (.t 5))), none, []⟩, ⟨(some 7), (.v (.bin .lss (.t 6) (.k (.c (.int .i64 1))))), none, []⟩, ⟨(some 8), (.v (.mv (.t 7))), none, []⟩, ⟨(some 9), (.v (.mv (.t 0))), (some ⟨8, false⟩), [(.t 0)]⟩, ⟨(some 10), (.v (.lenT (.t 9))), (some ⟨8, false⟩), [(.t 9)]⟩, ⟨(some 11), (.v (.bin .gtr (.t 10) (.k (.c (.int .i64 32))))), (some ⟨8, false⟩), [(.t 10), (.k (.c (.int .i64 32)))]⟩, ⟨(some 12), (.v (.pick (.t 8) (.k (.c (.bool true))) (.t 11))), none, []⟩, ⟨(some 13), (.v (.mv (.t 12))), none, []⟩, ⟨(some 14), (.v (.mv (.t 0))), (some ⟨13, false⟩), [(.t 0)]⟩, ⟨(some 15), (.v (.ixs (.t 14) (.k (.c (.int .i64 0))))), (some ⟨13, false⟩), [(.t 14), (.k (.c (.int .i64 0)))]⟩, ⟨(some 16), (.v (.det 59 [⟨false, [.bool]⟩] [(.t 15)])), (some ⟨13, false⟩), [(.k (.fn 59 [])), (.t 15)]⟩, ⟨(some 17), (.v (.un .not (.t 16))), (some ⟨13, false⟩), [(.t 16)]⟩, ⟨(some 18), (.v (.pick (.t 13) (.k (.c (.bool true))) (.t 17))), none, []⟩]) (.cond (.t 18) (.seq (.ops 0 [⟨(some 2), (.v (.mv (.k (.c (.bool false))))), none, []⟩]) .ret) .skip)) (.seq (.seq (.ops 0 [⟨(some 3), (.v (.mv (.k (.c (.int .i64 0))))), none, []⟩]) (.block 0 (.loop (.seq (.seq (.ops 0 [⟨(some 19), (.v (.mv (.t 3))), none, []⟩, ⟨(some 20), (.v (.mv (.t 0))), none, []⟩, ⟨(some 21), (.v (.lenT (.t 20))), none, []⟩, ⟨(some 22), (.v (.bin .lss (.t 19) (.t 21))), none, []⟩]) (.cond (.t 22) .skip (.exit 0))) (.seq (.block 1 (.seq (.ops 0 [⟨(some 25), (.v (.mv (.t 0))), none, []⟩, ⟨(some 26), (.v (.mv (.t 3))), none, []⟩, ⟨(some 27), (.v (.ixs (.t 25) (.t 26))), none, []⟩, ⟨(some 4), (.v (.mv (.t 27))), none, []⟩]) (.seq (.ops 0 [⟨(some 28), (.v (.mv (.t 4))), none, []⟩, ⟨(some 29), (.v (.det 59 [⟨false, [.bool]⟩] [(.t 28)])), none, []⟩, ⟨(some 30), (.v (.un .not (.t 29))), none, []⟩, ⟨(some 31), (.v (.mv (.t 30))), none, []⟩, ⟨(some 32), (.v (.mv (.t 4))), (some ⟨31, true⟩), [(.t 4)]⟩, ⟨(some 33), (.v (.bin .lss (.t 32) (.k (.c (.int .u8 48))))), (some ⟨31, true⟩), [(.t 32), (.k (.c (.int .u8 48)))]⟩, ⟨(some 34), (.v (.mv (.t 33))), (some ⟨31, true⟩), [(.t 33)]⟩, ⟨(some 35), (.v (.mv (.t 4))), (some ⟨34, false⟩), [(.t 4)]⟩, ⟨(some 36), (.v (.bin .gtr (.t 35) (.k (.c (.int .u8 57))))), (some ⟨34, false⟩), [(.t 35), (.k (.c (.int .u8 57)))]⟩, ⟨(some 37), (.v (.pick (.t 34) (.k (.c (.bool true))) (.t 36))), (some ⟨31, true⟩), [(.t 34), (.k (.c (.bool true))), (.t 36)]⟩, ⟨(some 38), (.v (.pick (.t 31) (.t 37) (.k (.c (.bool false))))), none, []⟩, ⟨(some 39), (.v (.mv (.t 38))), none, []⟩, ⟨(some 40), (.v (.mv (.t 4))), (some ⟨39, true⟩), [(.t 4)]⟩, ⟨(some 41), (.v (.bin .neq (.t 40) (.k (.c (.int .u8 45))))), (some ⟨39, true⟩), [(.t 40), (.k (.c (.int .u8 45)))]⟩, ⟨(some 42), (.v (.pick (.t 39) (.t 41) (.k (.c (.bool false))))), none, []⟩, ⟨(some 43), (.v (.mv (.t 42))), none, []⟩, ⟨(some 44), (.v (.mv (.t 4))), (some ⟨43, true⟩), [(.t 4)]⟩, ⟨(some 45), (.v (.bin .neq (.t 44) (.k (.c (.int .u8 95))))), (some ⟨43, true⟩), [(.t 44), (.k (.c (.int .u8 95)))]⟩, ⟨(some 46), (.v (.pick (.t 43) (.t 45) (.k (.c (.bool false))))), none, []⟩, ⟨(some 47), (.v (.mv (.t 46))), none, []⟩, ⟨(some 48), (.v (.mv (.t 4))), (some ⟨47, true⟩), [(.t 4)]⟩, ⟨(some 49), (.v (.bin .neq (.t 48) (.k (.c (.int .u8 46))))), (some ⟨47, true⟩), [(.t 48), (.k (.c (.int .u8 46)))]⟩, ⟨(some 50), (.v (.pick (.t 47) (.t 49) (.k (.c (.bool false))))), none, []⟩]) (.cond (.t 50) (.seq (.ops 0 [⟨(some 2), (.v (.mv (.k (.c (.bool false))))), none, []⟩]) .ret) .skip)))) (.ops 0 [⟨(some 23), (.v (.mv (.t 3))), none, []⟩, ⟨(some 24), (.v (.bin .add (.t 23) (.k (.c (.int .i64 1))))), none, []⟩, ⟨(some 3), (.v (.mv (.t 24))), none, []⟩])))))) (.seq (.ops 0 [⟨(some 2), (.v (.mv (.k (.c (.bool true))))), none, []⟩]) .ret)))), 51, [(.t 2)]⟩
theorem h50 : fnR Try.prog DD 50 = some rf50 := by kernel_rfl
/-- papermill papermillref06.letter -/
def rf59 : RFn := ⟨(.seq (.ops 0 [⟨(some 2), (.v (.mv (.k (.c (.bool false))))), none, []⟩]) (.seq (.ops 0 [⟨(some 3), (.v (.mv (.t 0))), none, []⟩, ⟨(some 4), (.v (.bin .geq (.t 3) (.k (.c (.int .u8 65))))), none, []⟩, ⟨(some 5), (.v (.mv (.t 4))), none, []⟩, ⟨(some 6), (.v (.mv (.t 0))), (some ⟨5, true⟩), [(.t 0)]⟩, ⟨(some 7), (.v (.bin .leq (.t 6) (.k (.c (.int .u8 90))))), (some ⟨5, true⟩), [(.t 6), (.k (.c (.int .u8 90)))]⟩, ⟨(some 8), (.v (.pick (.t 5) (.t 7) (.k (.c (.bool false))))), none, []⟩, ⟨(some 9), (.v (.mv (.t 8))), none, []⟩, ⟨(some 10), (.v (.mv (.t 0))), (some ⟨9, false⟩), [(.t 0)]⟩, ⟨(some 11), (.v (.bin .geq (.t 10) (.k (.c (.int .u8 97))))), (some ⟨9, false⟩), [(.t 10), (.k (.c (.int .u8 97)))]⟩, ⟨(some 12), (.v (.mv (.t 11))), (some ⟨9, false⟩), [(.t 11)]⟩, ⟨(some 13), (.v (.mv (.t 0))), (some ⟨12, true⟩), [(.t 0)]⟩, ⟨(some 14), (.v (.bin .leq (.t 13) (.k (.c (.int .u8 122))))), (some ⟨12, true⟩), [(.t 13), (.k (.c (.int .u8 122)))]⟩, ⟨(some 15), (.v (.pick (.t 12) (.t 14) (.k (.c (.bool false))))), (some ⟨9, false⟩), [(.t 12), (.t 14), (.k (.c (.bool false)))]⟩, ⟨(some 16), (.v (.pick (.t 9) (.k (.c (.bool true))) (.t 15))), none, []⟩, ⟨(some 2), (.v (.mv (.t 16))), none, []⟩]) .ret)), 17, [(.t 2)]⟩
theorem h59 : fnR Try.prog DD 59 = some rf59 := by kernel_rfl
/-- papermill papermillref16.Recipe -/
def rf51 : RFn := ⟨(.seq (.ops 0 [⟨(some 4), (.v (.mv (.k (.c (.int .i64 0))))), none, []⟩]) (.seq (.seq (.ops 0 [⟨(some 6), (.v (.mv (.t 0))), none, []⟩, ⟨(some 7), (.v (.mv (.t 1))), none, []⟩, ⟨(some 8), (.v (.det 60 [⟨false, [(.int .i64)]⟩] [(.t 6), (.t 7), (.k (.c (.int .i64 1000)))])), none, []⟩, ⟨(some 5), (.v (.mv (.t 8))), none, []⟩]) (.seq (.ops 0 [⟨(some 9), (.v (.mv (.t 5))), none, []⟩, ⟨(some 10), (.v (.bin .neq (.t 9) (.k (.c (.int .i64 0))))), none, []⟩]) (.cond (.t 10) (.seq (.ops 0 [⟨(some 11), (.v (.mv (.t 5))), none, []⟩, ⟨(some 4), (.v (.mv (.t 11))), none, []⟩]) .ret) .skip))) (.seq (.seq (.ops 0 [⟨(some 12), (.v (.mv (.t 0))), none, []⟩, ⟨(some 13), (.v (.det 61 [⟨false, [(.int .i64)]⟩] [(.t 12)])), none, []⟩, ⟨(some 14), (.v (.bin .neq (.t 13) (.k (.c (.int .i64 1000))))), none, []⟩]) (.cond (.t 14) (.seq (.ops 0 [⟨(some 4), (.v (.mv (.k (.c (.int .i64 18))))), none, []⟩]) .ret) .skip)) (.seq (.ops 0 [⟨(some 4), (.v (.mv (.k (.c (.int .i64 0))))), none, []⟩]) .ret)))), 15, [(.t 4)]⟩
theorem h51 : fnR Try.prog DD 51 = some rf51 := by kernel_rfl
/-- papermill papermillref16.list -/
def rf60 : RFn := ⟨(.seq (.ops 0 [⟨(some 6), (.v (.mv (.k (.c (.int .i64 0))))), none, []⟩]) (.seq (.seq (.ops 0 [⟨(some 8), (.v (.mv (.t 1))), none, []⟩, ⟨(some 9), (.v (.bin .lss (.t 8) (.k (.c (.int .i64 1))))), none, []⟩, ⟨(some 10), (.v (.mv (.t 9))), none, []⟩, ⟨(some 11), (.v (.mv (.t 1))), (some ⟨10, false⟩), [(.t 1)]⟩, ⟨(some 12), (.v (.bin .gtr (.t 11) (.k (.c (.int .i64 8))))), (some ⟨10, false⟩), [(.t 11), (.k (.c (.int .i64 8)))]⟩, ⟨(some 13), (.v (.pick (.t 10) (.k (.c (.bool true))) (.t 12))), none, []⟩, ⟨(some 14), (.v (.mv (.t 13))), none, []⟩, ⟨(some 15), (.v (.mv (.t 0))), (some ⟨14, false⟩), [(.t 0)]⟩, ⟨(some 16), (.v (.lenS (.t 15))), (some ⟨14, false⟩), [(.t 15)]⟩, ⟨(some 17), (.v (.mv (.t 1))), (some ⟨14, false⟩), [(.t 1)]⟩, ⟨(some 18), (.v (.bin .neq (.t 16) (.t 17))), (some ⟨14, false⟩), [(.t 16), (.t 17)]⟩, ⟨(some 19), (.v (.pick (.t 14) (.k (.c (.bool true))) (.t 18))), none, []⟩]) (.cond (.t 19) (.seq (.ops 0 [⟨(some 6), (.v (.mv (.k (.c (.int .i64 17))))), none, []⟩]) .ret) .skip)) (.seq (.seq (.ops 0 [⟨(some 7), (.v (.mv (.k (.c (.int .i64 0))))), none, []⟩]) (.block 0 (.loop (.seq (.seq (.ops 0 [⟨(some 20), (.v (.mv (.t 7))), none, []⟩, ⟨(some 21), (.v (.mv (.t 0))), none, []⟩, ⟨(some 22), (.v (.lenS (.t 21))), none, []⟩, ⟨(some 23), (.v (.bin .lss (.t 20) (.t 22))), none, []⟩]) (.cond (.t 23) .skip (.exit 0))) (.seq (.block 1 (.seq (.ops 0 [⟨(some 26), (.v (.mv (.t 0))), none, []⟩, ⟨(some 27), (.v (.mv (.t 7))), none, []⟩, ⟨(some 28), (.v (.ia 1 (.t 26) (.t 27))), none, []⟩, ⟨(some 29), (.v (.ld (.t 28))), none, []⟩, ⟨(some 30), (.v (.bin .lss (.t 29) (.k (.c (.int .i64 0))))), none, []⟩, ⟨(some 31), (.v (.mv (.t 30))), none, []⟩, ⟨(some 32), (.v (.mv (.t 0))), (some ⟨31, false⟩), [(.t 0)]⟩, ⟨(some 33), (.v (.mv (.t 7))), (some ⟨31, false⟩), [(.t 7)]⟩, ⟨(some 34), (.v (.ia 1 (.t 32) (.t 33))), (some ⟨31, false⟩), [(.t 32), (.t 33)]⟩, ⟨(some 35), (.v (.ld (.t 34))), (some ⟨31, false⟩), [(.t 34)]⟩, ⟨(some 36), (.v (.mv (.t 2))), (some ⟨31, false⟩), [(.t 2)]⟩, ⟨(some 37), (.v (.bin .gtr (.t 35) (.t 36))), (some ⟨31, false⟩), [(.t 35), (.t 36)]⟩, ⟨(some 38), (.v (.pick (.t 31) (.k (.c (.bool true))) (.t 37))), none, []⟩]) (.cond (.t 38) (.seq (.ops 0 [⟨(some 6), (.v (.mv (.k (.c (.int .i64 1))))), none, []⟩]) .ret) .skip))) (.ops 0 [⟨(some 24), (.v (.mv (.t 7))), none, []⟩, ⟨(some 25), (.v (.bin .add (.t 24) (.k (.c (.int .i64 1))))), none, []⟩, ⟨(some 7), (.v (.mv (.t 25))), none, []⟩])))))) (.seq (.ops 0 [⟨(some 6), (.v (.mv (.k (.c (.int .i64 0))))), none, []⟩]) .ret)))), 39, [(.t 6)]⟩
theorem h60 : fnR Try.prog DD 60 = some rf60 := by kernel_rfl
/-- papermill papermillref16.Sum -/
def rf61 : RFn := ⟨(.seq (.ops 0 [⟨(some 2), (.v (.mv (.k (.c (.int .i64 0))))), none, []⟩]) (.seq (.ops 0 [⟨(some 3), (.v (.mv (.k (.c (.int .i64 0))))), none, []⟩]) (.seq (.seq (.ops 0 [⟨(some 4), (.v (.mv (.k (.c (.int .i64 0))))), none, []⟩]) (.block 0 (.loop (.seq (.seq (.ops 0 [⟨(some 5), (.v (.mv (.t 4))), none, []⟩, ⟨(some 6), (.v (.mv (.t 0))), none, []⟩, ⟨(some 7), (.v (.lenS (.t 6))), none, []⟩, ⟨(some 8), (.v (.bin .lss (.t 5) (.t 7))), none, []⟩]) (.cond (.t 8) .skip (.exit 0))) (.seq (.block 1 (.ops 0 [⟨(some 11), (.v (.mv (.t 3))), none, []⟩, ⟨(some 12), (.v (.mv (.t 0))), none, []⟩, ⟨(some 13), (.v (.mv (.t 4))), none, []⟩, ⟨(some 14), (.v (.ia 1 (.t 12) (.t 13))), none, []⟩, ⟨(some 15), (.v (.ld (.t 14))), none, []⟩, ⟨(some 16), (.v (.bin .add (.t 11) (.t 15))), none, []⟩, ⟨(some 3), (.v (.mv (.t 16))), none, []⟩])) (.ops 0 [⟨(some 9), (.v (.mv (.t 4))), none, []⟩, ⟨(some 10), (.v (.bin .add (.t 9) (.k (.c (.int .i64 1))))), none, []⟩, ⟨(some 4), (.v (.mv (.t 10))), none, []⟩])))))) (.seq (.ops 0 [⟨(some 17), (.v (.mv (.t 3))), none, []⟩, ⟨(some 2), (.v (.mv (.t 17))), none, []⟩]) .ret)))), 18, [(.t 2)]⟩
theorem h61 : fnR Try.prog DD 61 = some rf61 := by kernel_rfl
/-- papermill papermilllaw31.GradeChecks -/
def rf3 : RFn := ⟨(.seq (.ops 0 [⟨(some 4), (.v (.mv (.k (.c (.bool false))))), none, []⟩]) (.seq (.ops 0 [⟨(some 5), (.v (.mv (.t 0))), none, []⟩, ⟨(some 6), (.v (.det 10 [⟨false, [.bool]⟩] [(.t 5)])), none, []⟩, ⟨(some 7), (.v (.un .not (.t 6))), none, []⟩, ⟨(some 8), (.v (.mv (.t 7))), none, []⟩, ⟨(some 9), (.v (.det 11 [⟨false, [.bool]⟩] [])), (some ⟨8, true⟩), [(.k (.fn 11 []))]⟩, ⟨(some 10), (.v (.pick (.t 8) (.t 9) (.k (.c (.bool false))))), none, []⟩, ⟨(some 11), (.v (.mv (.t 10))), none, []⟩, ⟨(some 12), (.v (.mv (.t 0))), (some ⟨11, false⟩), [(.t 0)]⟩, ⟨(some 13), (.v (.det 10 [⟨false, [.bool]⟩] [(.t 12)])), (some ⟨11, false⟩), [(.k (.fn 10 [])), (.t 12)]⟩, ⟨(some 14), (.v (.mv (.t 13))), (some ⟨11, false⟩), [(.t 13)]⟩, ⟨(some 15), (.v (.mv (.t 0))), (some ⟨14, true⟩), [(.t 0)]⟩, ⟨(some 16), (.v (.mv (.t 1))), (some ⟨14, true⟩), [(.t 1)]⟩, ⟨(some 17), (.v (.det 12 [⟨false, [(.int .i64)]⟩] [(.t 15), (.t 16)])), (some ⟨14, true⟩), [(.k (.fn 12 [])), (.t 15), (.t 16)]⟩, ⟨(some 18), (.v (.mv (.t 0))), (some ⟨14, true⟩), [(.t 0)]⟩, ⟨(some 19), (.v (.mv (.t 1))), (some ⟨14, true⟩), [(.t 1)]⟩, ⟨(some 20), (.v (.det 13 [⟨false, [(.int .i64)]⟩] [(.t 18), (.t 19)])), (some ⟨14, true⟩), [(.k (.fn 13 [])), (.t 18), (.t 19)]⟩, ⟨(some 21), (.v (.bin .eql (.t 17) (.t 20))), (some ⟨14, true⟩), [(.t 17), (.t 20)]⟩, ⟨(some 22), (.v (.pick (.t 14) (.t 21) (.k (.c (.bool false))))), (some ⟨11, false⟩), [(.t 14), (.t 21), (.k (.c (.bool false)))]⟩, ⟨(some 23), (.v (.mv (.t 22))), (some ⟨11, false⟩), [(.t 22)]⟩, ⟨(some 24), (.v (.det 11 [⟨false, [.bool]⟩] [])), (some ⟨23, true⟩), [(.k (.fn 11 []))]⟩, ⟨(some 25), (.v (.pick (.t 23) (.t 24) (.k (.c (.bool false))))), (some ⟨11, false⟩), [(.t 23), (.t 24), (.k (.c (.bool false)))]⟩, ⟨(some 26), (.v (.pick (.t 11) (.k (.c (.bool true))) (.t 25))), none, []⟩, ⟨(some 4), (.v (.mv (.t 26))), none, []⟩]) .ret)), 27, [(.t 4)]⟩
theorem h3 : fnR Try.prog DD 3 = some rf3 := by kernel_rfl
/-- papermill papermilllaw31.GradeFinds -/
def rf4 : RFn := ⟨(.seq (.ops 0 [⟨(some 4), (.v (.mv (.k (.c (.bool false))))), none, []⟩]) (.seq (.seq (.ops 0 [⟨(some 9), (.v (.mv (.t 0))), none, []⟩, ⟨(some 10), (.v (.det 10 [⟨false, [.bool]⟩] [(.t 9)])), none, []⟩, ⟨(some 11), (.v (.un .not (.t 10))), none, []⟩, ⟨(some 12), (.v (.mv (.t 11))), none, []⟩, ⟨(some 13), (.v (.mv (.t 1))), (some ⟨12, false⟩), [(.t 1)]⟩, ⟨(some 14), (.v (.lenT (.t 13))), (some ⟨12, false⟩), [(.t 13)]⟩, ⟨(some 15), (.v (.bin .gtr (.t 14) (.k (.c (.int .i64 100))))), (some ⟨12, false⟩), [(.t 14), (.k (.c (.int .i64 100)))]⟩, ⟨(some 16), (.v (.pick (.t 12) (.k (.c (.bool true))) (.t 15))), none, []⟩]) (.cond (.t 16) (.seq (.ops 0 [⟨(some 17), (.v (.det 11 [⟨false, [.bool]⟩] [])), none, []⟩, ⟨(some 4), (.v (.mv (.t 17))), none, []⟩]) .ret) .skip)) (.seq (.ops 0 [⟨(some 19), (.v (.mv (.t 0))), none, []⟩, ⟨(some 20), (.v (.mv (.t 1))), none, []⟩, ⟨(some 21), (.v (.det 14 [⟨false, [(.int .i64)]⟩, ⟨false, [.bool]⟩] [(.t 19), (.t 20)])), none, []⟩, ⟨(some 18), (.v (.mv (.t 21))), none, []⟩, ⟨(some 22), (.v (.ext (.t 18) 0)), none, []⟩, ⟨(some 23), (.v (.ext (.t 18) 1)), none, []⟩, ⟨(some 5), (.v (.mv (.t 22))), none, []⟩, ⟨(some 6), (.v (.mv (.t 23))), none, []⟩]) (.seq (.ops 0 [⟨(some 25), (.v (.mv (.t 0))), none, []⟩, ⟨(some 26), (.v (.mv (.t 1))), none, []⟩, ⟨(some 27), (.v (.det 15 [⟨false, [(.int .i64)]⟩, ⟨false, [.bool]⟩] [(.t 25), (.t 26)])), none, []⟩, ⟨(some 24), (.v (.mv (.t 27))), none, []⟩, ⟨(some 28), (.v (.ext (.t 24) 0)), none, []⟩, ⟨(some 29), (.v (.ext (.t 24) 1)), none, []⟩, ⟨(some 7), (.v (.mv (.t 28))), none, []⟩, ⟨(some 8), (.v (.mv (.t 29))), none, []⟩]) (.seq (.ops 0 [⟨(some 30), (.v (.mv (.t 5))), none, []⟩, ⟨(some 31), (.v (.mv (.t 7))), none, []⟩, ⟨(some 32), (.v (.bin .eql (.t 30) (.t 31))), none, []⟩, ⟨(some 33), (.v (.mv (.t 32))), none, []⟩, ⟨(some 34), (.v (.mv (.t 6))), (some ⟨33, true⟩), [(.t 6)]⟩, ⟨(some 35), (.v (.mv (.t 8))), (some ⟨33, true⟩), [(.t 8)]⟩, ⟨(some 36), (.v (.eqb false (.t 34) (.t 35))), (some ⟨33, true⟩), [(.t 34), (.t 35)]⟩, ⟨(some 37), (.v (.pick (.t 33) (.t 36) (.k (.c (.bool false))))), none, []⟩, ⟨(some 38), (.v (.mv (.t 37))), none, []⟩, ⟨(some 39), (.v (.det 11 [⟨false, [.bool]⟩] [])), (some ⟨38, true⟩), [(.k (.fn 11 []))]⟩, ⟨(some 40), (.v (.pick (.t 38) (.t 39) (.k (.c (.bool false))))), none, []⟩, ⟨(some 4), (.v (.mv (.t 40))), none, []⟩]) .ret))))), 41, [(.t 4)]⟩
theorem h4 : fnR Try.prog DD 4 = some rf4 := by kernel_rfl
def vc10 (E : Env) (x1 : List (List C)) (Q : List C → Prop) : Prop :=
  Br (E.lt 30 (E.len x1))
  (Q [.bool false])
  (LoopP1 (fun (i2 : Int) (K3 : (Int) → Prop) =>
    Br (E.lt i2 (E.len x1))
      (((E.le 0 i2) = true) ∧ 
        (Br (E.bite (E.lt 100 (E.slen (E.gs (E.cell x1 i2 0)))) true (E.lt 20 (E.len (E.gl (E.cell x1 i2 6)))))
        (Q [.bool false])
        (K3 ((E.add .i64 i2 1)))))
      (Q [.bool true]))
    (0))
theorem w10 {P : Program} {tbl : FuncId → List A → List C}  {x1 : List (List C)} {row : List C} (h : vc10 (stdE P tbl) x1 fun c => c = row) : WPg P tbl rf10 [(false, [.bool])] row [.c (.sl [.str, .int .i64, .int .i64, .int .i64, .int .i64, .int .i64, .sl [.int .i64], .int .i64] x1)] := by
  refine ⟨?_⟩
  revert h
  generalize hE : stdE P tbl = E
  intro h
  unfold vc10 at h
  cbv
  refine ⟨fun hb4 => ?_, fun hb4 => ?_⟩
  · replace h := h.t hb4
    have h : _ = row := h
    subst h
    repeat' (first | exact trivial | exact rfl | refine And.intro ?_ ?_)
  · replace h := h.f hb4
    obtain ⟨I, μ, h0, hI⟩ := h
    refine LoopW.inv (fun R R' s h k => RCode.wp_mono _ R R' s h k) (fun p : Int => (fun (i2 : Int) => (⟨[.c (.sl [.str, .int .i64, .int .i64, .int .i64, .int .i64, .int .i64, .sl [.int .i64], .int .i64] x1), .u, .u, .c (.int .i64 i2), .u, .u, .u, .u, .u, .u, .u, .u, .u, .u, .u, .u, .u, .u, .u, .u, .u, .u, .u, .u, .u, .u, .u, .u, .u], []⟩ : St)) p) (fun p => I p) (fun p => μ p) _ h0 ?_ ?_
    · refine GSt.ren [] rfl rfl rfl (fun i hi => absurd hi (Nat.not_lt_zero i)) (Nat.zero_le _) ?_ ?_
      all_goals (repeat' (first | exact trivial | exact Or.inl rfl | exact Or.inr rfl | refine And.intro ?_ ?_))
    · rintro i2 h
      replace h := hI i2 h
      cbv
      refine ⟨fun hb5 => ?_, fun hb5 => ?_⟩
      · replace h := h.t hb5
        have c6 := h.1
        refine ⟨c6, ?_⟩
        replace h := h.2
        refine ⟨hb5, ?_⟩
        refine ⟨⟨fun hh => hh⟩, ?_⟩
        refine ⟨⟨fun hh => hh⟩, ?_⟩
        refine ⟨⟨fun _ => c6⟩, ?_⟩
        refine ⟨⟨fun _ => hb5⟩, ?_⟩
        refine ⟨⟨fun hh => hh⟩, ?_⟩
        refine ⟨⟨fun hh => hh⟩, ?_⟩
        refine ⟨⟨fun hh => hh⟩, ?_⟩
        refine ⟨⟨fun hh => hh⟩, ?_⟩
        refine ⟨⟨fun hh => hh⟩, ?_⟩
        refine ⟨fun hb7 => ?_, fun hb7 => ?_⟩
        · replace h := h.t hb7
          have h : _ = row := h
          subst h
          repeat' (first | exact trivial | exact rfl | refine And.intro ?_ ?_)
        · replace h := h.f hb7
          refine ⟨_, h.1, GSt.ren [] rfl rfl rfl (fun i hi => absurd hi (Nat.not_lt_zero i)) (Nat.zero_le _) ?_ ?_, h.2⟩
          all_goals (repeat' (first | exact trivial | exact Or.inl rfl | exact Or.inr rfl | refine And.intro ?_ ?_))
      · replace h := h.f hb5
        have h : _ = row := h
        subst h
        repeat' (first | exact trivial | exact rfl | refine And.intro ?_ ?_)
def vc12 (E : Env) (x1 : List (List C)) (x2 : Int) (Q : List C → Prop) : Prop :=
  (E.pok 29 [(false, [.bool])] [.c (.int .i64 x2), .c (.int .i64 1), .c (.int .i64 8)]) ∧ (∀ r3 : Nat → C, r3 = E.res 29 [.c (.int .i64 x2), .c (.int .i64 1), .c (.int .i64 8)] → 
  (Br (E.not (E.gb (r3 0)))
  (Q [.int .i64 17])
  (Br (E.eq (E.len x1) 0)
    (Q [.int .i64 10])
    (Br (E.lt 16 (E.len x1))
      (Q [.int .i64 8])
      (LoopP1 (fun (i4 : Int) (K5 : (Int) → Prop) =>
        Br (E.lt i4 (E.len x1))
          (((E.le 0 i4) = true) ∧ 
            ((E.pok 30 [(false, [.int .i64])] [.agg [.c (.str (E.gs (E.cell x1 i4 0))), .c (.int .i64 (E.gi (E.cell x1 i4 1))), .c (.int .i64 (E.gi (E.cell x1 i4 2))), .c (.int .i64 (E.gi (E.cell x1 i4 3))), .c (.int .i64 (E.gi (E.cell x1 i4 4))), .c (.int .i64 (E.gi (E.cell x1 i4 5))), .c (.sl [.int .i64] (E.gl (E.cell x1 i4 6))), .c (.int .i64 (E.gi (E.cell x1 i4 7)))], .c (.int .i64 x2)]) ∧ (∀ r6 : Nat → C, r6 = E.res 30 [.agg [.c (.str (E.gs (E.cell x1 i4 0))), .c (.int .i64 (E.gi (E.cell x1 i4 1))), .c (.int .i64 (E.gi (E.cell x1 i4 2))), .c (.int .i64 (E.gi (E.cell x1 i4 3))), .c (.int .i64 (E.gi (E.cell x1 i4 4))), .c (.int .i64 (E.gi (E.cell x1 i4 5))), .c (.sl [.int .i64] (E.gl (E.cell x1 i4 6))), .c (.int .i64 (E.gi (E.cell x1 i4 7)))], .c (.int .i64 x2)] → 
            (Br (E.not (E.eq (E.gi (r6 0)) 0))
            (Q [.int .i64 (E.gi (r6 0))])
            (K5 ((E.add .i64 i4 1)))))))
          (LoopP1 (fun (i7 : Int) (K8 : (Int) → Prop) =>
            Br (E.lt i7 (E.len x1))
              (((E.le 0 i7) = true) ∧ 
                ((E.pok 14 [(false, [.int .i64]), (false, [.bool])] [.c (.sl [.str, .int .i64, .int .i64, .int .i64, .int .i64, .int .i64, .sl [.int .i64], .int .i64] x1), .c (.str (E.gs (E.cell x1 i7 0)))]) ∧ (∀ r9 : Nat → C, r9 = E.res 14 [.c (.sl [.str, .int .i64, .int .i64, .int .i64, .int .i64, .int .i64, .sl [.int .i64], .int .i64] x1), .c (.str (E.gs (E.cell x1 i7 0)))] → 
                (Br (E.not (E.eq (E.gi (r9 0)) i7))
                (Q [.int .i64 6])
                (K8 ((E.add .i64 i7 1)))))))
              (Q [.int .i64 0]))
            (0)))
        (0))))))
theorem w12 {P : Program} {tbl : FuncId → List A → List C}  {x1 : List (List C)} {x2 : Int} {row : List C} (h : vc12 (stdE P tbl) x1 x2 fun c => c = row) : WPg P tbl rf12 [(false, [.int .i64])] row [.c (.sl [.str, .int .i64, .int .i64, .int .i64, .int .i64, .int .i64, .sl [.int .i64], .int .i64] x1), .c (.int .i64 x2)] := by
  refine ⟨?_⟩
  revert h
  generalize hE : stdE P tbl = E
  intro h
  unfold vc12 at h
  cbv
  have c10 := h.1
  refine ⟨c10, ?_⟩
  replace h := h.2 _ rfl
  refine ⟨fun hb11 => ?_, fun hb11 => ?_⟩
  · replace h := h.t hb11
    have h : _ = row := h
    subst h
    repeat' (first | exact trivial | exact rfl | refine And.intro ?_ ?_)
  · replace h := h.f hb11
    refine ⟨fun hb12 => ?_, fun hb12 => ?_⟩
    · replace h := h.t hb12
      have h : _ = row := h
      subst h
      repeat' (first | exact trivial | exact rfl | refine And.intro ?_ ?_)
    · replace h := h.f hb12
      refine ⟨fun hb13 => ?_, fun hb13 => ?_⟩
      · replace h := h.t hb13
        have h : _ = row := h
        subst h
        repeat' (first | exact trivial | exact rfl | refine And.intro ?_ ?_)
      · replace h := h.f hb13
        obtain ⟨I, μ, h0, hI⟩ := h
        refine LoopW.inv (fun R R' s h k => RCode.wp_mono _ R R' s h k) (fun p : Int => (fun (i4 : Int) => (⟨[.c (.sl [.str, .int .i64, .int .i64, .int .i64, .int .i64, .int .i64, .sl [.int .i64], .int .i64] x1), .c (.int .i64 x2), .u, .u, .u, .u, .u, .u, .u, .u, .u, .u, .u, .u, .u, .u, .u, .u, .u, .u, .u, .c (.sl [.str, .int .i64, .int .i64, .int .i64, .int .i64, .int .i64, .sl [.int .i64], .int .i64] x1), .c (.int .i64 (E.len x1)), .c (.int .i64 i4), .u, .u, .u, .u, .u, .u, .u, .u, .u, .u, .u, .u, .u, .u, .u, .u, .u, .u, .u, .u, .u, .u, .u, .u, .u, .u, .u, .u], []⟩ : St)) p) (fun p => I p) (fun p => μ p) _ h0 ?_ ?_
        · refine GSt.ren [] rfl rfl rfl (fun i hi => absurd hi (Nat.not_lt_zero i)) (Nat.zero_le _) ?_ ?_
          all_goals (repeat' (first | exact trivial | exact Or.inl rfl | exact Or.inr rfl | refine And.intro ?_ ?_))
        · rintro i4 h
          replace h := hI i4 h
          cbv
          refine ⟨fun hb14 => ?_, fun hb14 => ?_⟩
          · replace h := h.t hb14
            have c15 := h.1
            refine ⟨c15, ?_⟩
            replace h := h.2
            refine ⟨hb14, ?_⟩
            have c16 := h.1
            refine ⟨c16, ?_⟩
            replace h := h.2 _ rfl
            refine ⟨fun hb17 => ?_, fun hb17 => ?_⟩
            · replace h := h.t hb17
              have h : _ = row := h
              subst h
              repeat' (first | exact trivial | exact rfl | refine And.intro ?_ ?_)
            · replace h := h.f hb17
              refine ⟨_, h.1, GSt.ren [] rfl rfl rfl (fun i hi => absurd hi (Nat.not_lt_zero i)) (Nat.zero_le _) ?_ ?_, h.2⟩
              all_goals (repeat' (first | exact trivial | exact Or.inl rfl | exact Or.inr rfl | refine And.intro ?_ ?_))
          · replace h := h.f hb14
            obtain ⟨I, μ, h0, hI⟩ := h
            refine LoopW.inv (fun R R' s h k => RCode.wp_mono _ R R' s h k) (fun p : Int => (fun (i7 : Int) => (⟨[.c (.sl [.str, .int .i64, .int .i64, .int .i64, .int .i64, .int .i64, .sl [.int .i64], .int .i64] x1), .u, .u, .u, .u, .u, .u, .u, .u, .u, .u, .u, .u, .u, .u, .u, .u, .u, .u, .u, .u, .u, .u, .u, .u, .u, .u, .u, .u, .u, .u, .u, .u, .u, .c (.sl [.str, .int .i64, .int .i64, .int .i64, .int .i64, .int .i64, .sl [.int .i64], .int .i64] x1), .c (.int .i64 (E.len x1)), .c (.int .i64 i7), .u, .u, .u, .u, .u, .u, .u, .u, .u, .u, .u, .u, .u, .u, .u], []⟩ : St)) p) (fun p => I p) (fun p => μ p) _ h0 ?_ ?_
            · refine GSt.ren [] rfl rfl rfl (fun i hi => absurd hi (Nat.not_lt_zero i)) (Nat.zero_le _) ?_ ?_
              all_goals (repeat' (first | exact trivial | exact Or.inl rfl | exact Or.inr rfl | refine And.intro ?_ ?_))
            · rintro i7 h
              replace h := hI i7 h
              cbv
              refine ⟨fun hb18 => ?_, fun hb18 => ?_⟩
              · replace h := h.t hb18
                have c19 := h.1
                refine ⟨c19, ?_⟩
                replace h := h.2
                refine ⟨hb18, ?_⟩
                have c20 := h.1
                refine ⟨c20, ?_⟩
                replace h := h.2 _ rfl
                refine ⟨fun hb21 => ?_, fun hb21 => ?_⟩
                · replace h := h.t hb21
                  have h : _ = row := h
                  subst h
                  repeat' (first | exact trivial | exact rfl | refine And.intro ?_ ?_)
                · replace h := h.f hb21
                  refine ⟨_, h.1, GSt.ren [] rfl rfl rfl (fun i hi => absurd hi (Nat.not_lt_zero i)) (Nat.zero_le _) ?_ ?_, h.2⟩
                  all_goals (repeat' (first | exact trivial | exact Or.inl rfl | exact Or.inr rfl | refine And.intro ?_ ?_))
              · replace h := h.f hb18
                have h : _ = row := h
                subst h
                repeat' (first | exact trivial | exact rfl | refine And.intro ?_ ?_)
def vc13 (E : Env) (x1 : List (List C)) (x2 : Int) (Q : List C → Prop) : Prop :=
  Br (E.bite (E.lt x2 1) true (E.lt 8 x2))
  (Q [.int .i64 17])
  (Br (E.eq (E.len x1) 0)
    (Q [.int .i64 10])
    (Br (E.lt 16 (E.len x1))
      (Q [.int .i64 8])
      (LoopP1 (fun (i3 : Int) (K4 : (Int) → Prop) =>
        Br (E.lt i3 (E.len x1))
          (((E.le 0 i3) = true) ∧ 
            ((E.pok 31 [(false, [.int .i64])] [.agg [.c (.str (E.gs (E.cell x1 i3 0))), .c (.int .i64 (E.gi (E.cell x1 i3 1))), .c (.int .i64 (E.gi (E.cell x1 i3 2))), .c (.int .i64 (E.gi (E.cell x1 i3 3))), .c (.int .i64 (E.gi (E.cell x1 i3 4))), .c (.int .i64 (E.gi (E.cell x1 i3 5))), .c (.sl [.int .i64] (E.gl (E.cell x1 i3 6))), .c (.int .i64 (E.gi (E.cell x1 i3 7)))], .c (.int .i64 x2)]) ∧ (∀ r5 : Nat → C, r5 = E.res 31 [.agg [.c (.str (E.gs (E.cell x1 i3 0))), .c (.int .i64 (E.gi (E.cell x1 i3 1))), .c (.int .i64 (E.gi (E.cell x1 i3 2))), .c (.int .i64 (E.gi (E.cell x1 i3 3))), .c (.int .i64 (E.gi (E.cell x1 i3 4))), .c (.int .i64 (E.gi (E.cell x1 i3 5))), .c (.sl [.int .i64] (E.gl (E.cell x1 i3 6))), .c (.int .i64 (E.gi (E.cell x1 i3 7)))], .c (.int .i64 x2)] → 
            (Br (E.not (E.eq (E.gi (r5 0)) 0))
            (Q [.int .i64 (E.gi (r5 0))])
            (K4 ((E.add .i64 i3 1)))))))
          (LoopP1 (fun (i6 : Int) (K7 : (Int) → Prop) =>
            Br (E.lt i6 (E.len x1))
              (((E.le 0 i6) = true) ∧ 
                ((E.pok 15 [(false, [.int .i64]), (false, [.bool])] [.c (.sl [.str, .int .i64, .int .i64, .int .i64, .int .i64, .int .i64, .sl [.int .i64], .int .i64] x1), .c (.str (E.gs (E.cell x1 i6 0)))]) ∧ (∀ r8 : Nat → C, r8 = E.res 15 [.c (.sl [.str, .int .i64, .int .i64, .int .i64, .int .i64, .int .i64, .sl [.int .i64], .int .i64] x1), .c (.str (E.gs (E.cell x1 i6 0)))] → 
                (Br (E.lt (E.gi (r8 0)) i6)
                (Q [.int .i64 6])
                (K7 ((E.add .i64 i6 1)))))))
              (Q [.int .i64 0]))
            (0)))
        (0))))
theorem w13 {P : Program} {tbl : FuncId → List A → List C}  {x1 : List (List C)} {x2 : Int} {row : List C} (h : vc13 (stdE P tbl) x1 x2 fun c => c = row) : WPg P tbl rf13 [(false, [.int .i64])] row [.c (.sl [.str, .int .i64, .int .i64, .int .i64, .int .i64, .int .i64, .sl [.int .i64], .int .i64] x1), .c (.int .i64 x2)] := by
  refine ⟨?_⟩
  revert h
  generalize hE : stdE P tbl = E
  intro h
  unfold vc13 at h
  cbv
  refine ⟨⟨fun hh => hh⟩, ?_⟩
  refine ⟨⟨fun hh => hh⟩, ?_⟩
  refine ⟨fun hb9 => ?_, fun hb9 => ?_⟩
  · replace h := h.t hb9
    have h : _ = row := h
    subst h
    repeat' (first | exact trivial | exact rfl | refine And.intro ?_ ?_)
  · replace h := h.f hb9
    refine ⟨fun hb10 => ?_, fun hb10 => ?_⟩
    · replace h := h.t hb10
      have h : _ = row := h
      subst h
      repeat' (first | exact trivial | exact rfl | refine And.intro ?_ ?_)
    · replace h := h.f hb10
      refine ⟨fun hb11 => ?_, fun hb11 => ?_⟩
      · replace h := h.t hb11
        have h : _ = row := h
        subst h
        repeat' (first | exact trivial | exact rfl | refine And.intro ?_ ?_)
      · replace h := h.f hb11
        obtain ⟨I, μ, h0, hI⟩ := h
        refine LoopW.inv (fun R R' s h k => RCode.wp_mono _ R R' s h k) (fun p : Int => (fun (i3 : Int) => (⟨[.c (.sl [.str, .int .i64, .int .i64, .int .i64, .int .i64, .int .i64, .sl [.int .i64], .int .i64] x1), .c (.int .i64 x2), .u, .u, .u, .c (.int .i64 i3), .u, .u, .u, .u, .u, .u, .u, .u, .u, .u, .u, .u, .u, .u, .u, .u, .u, .u, .u, .u, .u, .u, .u, .u, .u, .u, .u, .u, .u, .u, .u, .u, .u, .u, .u, .u, .u, .u, .u, .u, .u, .u, .u, .u, .u, .u, .u, .u, .u, .u], []⟩ : St)) p) (fun p => I p) (fun p => μ p) _ h0 ?_ ?_
        · refine GSt.ren [] rfl rfl rfl (fun i hi => absurd hi (Nat.not_lt_zero i)) (Nat.zero_le _) ?_ ?_
          all_goals (repeat' (first | exact trivial | exact Or.inl rfl | exact Or.inr rfl | refine And.intro ?_ ?_))
        · rintro i3 h
          replace h := hI i3 h
          cbv
          refine ⟨fun hb12 => ?_, fun hb12 => ?_⟩
          · replace h := h.t hb12
            have c13 := h.1
            refine ⟨c13, ?_⟩
            replace h := h.2
            refine ⟨hb12, ?_⟩
            have c14 := h.1
            refine ⟨c14, ?_⟩
            replace h := h.2 _ rfl
            refine ⟨fun hb15 => ?_, fun hb15 => ?_⟩
            · replace h := h.t hb15
              have h : _ = row := h
              subst h
              repeat' (first | exact trivial | exact rfl | refine And.intro ?_ ?_)
            · replace h := h.f hb15
              refine ⟨_, h.1, GSt.ren [] rfl rfl rfl (fun i hi => absurd hi (Nat.not_lt_zero i)) (Nat.zero_le _) ?_ ?_, h.2⟩
              all_goals (repeat' (first | exact trivial | exact Or.inl rfl | exact Or.inr rfl | refine And.intro ?_ ?_))
          · replace h := h.f hb12
            obtain ⟨I, μ, h0, hI⟩ := h
            refine LoopW.inv (fun R R' s h k => RCode.wp_mono _ R R' s h k) (fun p : Int => (fun (i6 : Int) => (⟨[.c (.sl [.str, .int .i64, .int .i64, .int .i64, .int .i64, .int .i64, .sl [.int .i64], .int .i64] x1), .u, .u, .u, .u, .u, .u, .c (.int .i64 i6), .u, .u, .u, .u, .u, .u, .u, .u, .u, .u, .u, .u, .u, .u, .u, .u, .u, .u, .u, .u, .u, .u, .u, .u, .u, .u, .u, .u, .u, .u, .u, .u, .u, .u, .u, .u, .u, .u, .u, .u, .u, .u, .u, .u, .u, .u, .u, .u], []⟩ : St)) p) (fun p => I p) (fun p => μ p) _ h0 ?_ ?_
            · refine GSt.ren [] rfl rfl rfl (fun i hi => absurd hi (Nat.not_lt_zero i)) (Nat.zero_le _) ?_ ?_
              all_goals (repeat' (first | exact trivial | exact Or.inl rfl | exact Or.inr rfl | refine And.intro ?_ ?_))
            · rintro i6 h
              replace h := hI i6 h
              cbv
              refine ⟨fun hb16 => ?_, fun hb16 => ?_⟩
              · replace h := h.t hb16
                have c17 := h.1
                refine ⟨c17, ?_⟩
                replace h := h.2
                refine ⟨hb16, ?_⟩
                have c18 := h.1
                refine ⟨c18, ?_⟩
                replace h := h.2 _ rfl
                refine ⟨fun hb19 => ?_, fun hb19 => ?_⟩
                · replace h := h.t hb19
                  have h : _ = row := h
                  subst h
                  repeat' (first | exact trivial | exact rfl | refine And.intro ?_ ?_)
                · replace h := h.f hb19
                  refine ⟨_, h.1, GSt.ren [] rfl rfl rfl (fun i hi => absurd hi (Nat.not_lt_zero i)) (Nat.zero_le _) ?_ ?_, h.2⟩
                  all_goals (repeat' (first | exact trivial | exact Or.inl rfl | exact Or.inr rfl | refine And.intro ?_ ?_))
              · replace h := h.f hb16
                have h : _ = row := h
                subst h
                repeat' (first | exact trivial | exact rfl | refine And.intro ?_ ?_)
def vc14 (E : Env) (x1 : List (List C)) (x2 : ByteArray) (Q : List C → Prop) : Prop :=
  (E.pok 32 [(false, [.int .i64])] [.c (.sl [.str, .int .i64, .int .i64, .int .i64, .int .i64, .int .i64, .sl [.int .i64], .int .i64] x1), .fn 33 [.el [.str] [[.str x2]] 0 0]]) ∧ (∀ r3 : Nat → C, r3 = E.res 32 [.c (.sl [.str, .int .i64, .int .i64, .int .i64, .int .i64, .int .i64, .sl [.int .i64], .int .i64] x1), .fn 33 [.el [.str] [[.str x2]] 0 0]] → 
  (Q [.int .i64 (E.max (E.gi (r3 0)) 0), .bool (E.le 0 (E.gi (r3 0)))]))
theorem w14 {P : Program} {tbl : FuncId → List A → List C}  {x1 : List (List C)} {x2 : ByteArray} {row : List C} (h : vc14 (stdE P tbl) x1 x2 fun c => c = row) : WPg P tbl rf14 [(false, [.int .i64]), (false, [.bool])] row [.c (.sl [.str, .int .i64, .int .i64, .int .i64, .int .i64, .int .i64, .sl [.int .i64], .int .i64] x1), .c (.str x2)] := by
  refine ⟨?_⟩
  revert h
  generalize hE : stdE P tbl = E
  intro h
  unfold vc14 at h
  cbv
  have c4 := h.1
  refine ⟨c4, ?_⟩
  replace h := h.2 _ rfl
  have h : _ = row := h
  subst h
  repeat' (first | exact trivial | exact rfl | refine And.intro ?_ ?_)
def vc15 (E : Env) (x1 : List (List C)) (x2 : ByteArray) (Q : List C → Prop) : Prop :=
  LoopP1 (fun (i3 : Int) (K4 : (Int) → Prop) =>
  Br (E.lt i3 (E.len x1))
    (((E.le 0 i3) = true) ∧ 
      (Br (E.seq (E.gs (E.cell x1 i3 0)) x2)
      (Q [.int .i64 i3, .bool true])
      (K4 ((E.add .i64 i3 1)))))
    (Q [.int .i64 0, .bool false]))
  (0)
theorem w15 {P : Program} {tbl : FuncId → List A → List C}  {x1 : List (List C)} {x2 : ByteArray} {row : List C} (h : vc15 (stdE P tbl) x1 x2 fun c => c = row) : WPg P tbl rf15 [(false, [.int .i64]), (false, [.bool])] row [.c (.sl [.str, .int .i64, .int .i64, .int .i64, .int .i64, .int .i64, .sl [.int .i64], .int .i64] x1), .c (.str x2)] := by
  refine ⟨?_⟩
  revert h
  generalize hE : stdE P tbl = E
  intro h
  unfold vc15 at h
  cbv
  obtain ⟨I, μ, h0, hI⟩ := h
  refine LoopW.inv (fun R R' s h k => RCode.wp_mono _ R R' s h k) (fun p : Int => (fun (i3 : Int) => (⟨[.c (.sl [.str, .int .i64, .int .i64, .int .i64, .int .i64, .int .i64, .sl [.int .i64], .int .i64] x1), .c (.str x2), .u, .u, .u, .u, .c (.int .i64 i3), .u, .u, .u, .u, .u, .u, .u, .u, .u, .u, .u, .u, .u, .u], []⟩ : St)) p) (fun p => I p) (fun p => μ p) _ h0 ?_ ?_
  · refine GSt.ren [] rfl rfl rfl (fun i hi => absurd hi (Nat.not_lt_zero i)) (Nat.zero_le _) ?_ ?_
    all_goals (repeat' (first | exact trivial | exact Or.inl rfl | exact Or.inr rfl | refine And.intro ?_ ?_))
  · rintro i3 h
    replace h := hI i3 h
    cbv
    refine ⟨fun hb5 => ?_, fun hb5 => ?_⟩
    · replace h := h.t hb5
      have c6 := h.1
      refine ⟨c6, ?_⟩
      replace h := h.2
      refine ⟨hb5, ?_⟩
      refine ⟨fun hb7 => ?_, fun hb7 => ?_⟩
      · replace h := h.t hb7
        have h : _ = row := h
        subst h
        repeat' (first | exact trivial | exact rfl | refine And.intro ?_ ?_)
      · replace h := h.f hb7
        refine ⟨_, h.1, GSt.ren [] rfl rfl rfl (fun i hi => absurd hi (Nat.not_lt_zero i)) (Nat.zero_le _) ?_ ?_, h.2⟩
        all_goals (repeat' (first | exact trivial | exact Or.inl rfl | exact Or.inr rfl | refine And.intro ?_ ?_))
    · replace h := h.f hb5
      have h : _ = row := h
      subst h
      repeat' (first | exact trivial | exact rfl | refine And.intro ?_ ?_)
def vc32 (E : Env) (x1 : List (List C)) (x2 : ByteArray) (Q : List C → Prop) : Prop :=
  LoopP1 (fun (i1 : Int) (K2 : (Int) → Prop) =>
  Br (E.lt i1 (E.len x1))
    (((E.le 0 i1) = true) ∧ 
      ((E.pok 33 [(false, [.bool])] [.agg [.c (.str (E.gs (E.cell x1 i1 0))), .c (.int .i64 (E.gi (E.cell x1 i1 1))), .c (.int .i64 (E.gi (E.cell x1 i1 2))), .c (.int .i64 (E.gi (E.cell x1 i1 3))), .c (.int .i64 (E.gi (E.cell x1 i1 4))), .c (.int .i64 (E.gi (E.cell x1 i1 5))), .c (.sl [.int .i64] (E.gl (E.cell x1 i1 6))), .c (.int .i64 (E.gi (E.cell x1 i1 7)))], .el [.str] [[.str x2]] 0 0]) ∧ (∀ r3 : Nat → C, r3 = E.res 33 [.agg [.c (.str (E.gs (E.cell x1 i1 0))), .c (.int .i64 (E.gi (E.cell x1 i1 1))), .c (.int .i64 (E.gi (E.cell x1 i1 2))), .c (.int .i64 (E.gi (E.cell x1 i1 3))), .c (.int .i64 (E.gi (E.cell x1 i1 4))), .c (.int .i64 (E.gi (E.cell x1 i1 5))), .c (.sl [.int .i64] (E.gl (E.cell x1 i1 6))), .c (.int .i64 (E.gi (E.cell x1 i1 7)))], .el [.str] [[.str x2]] 0 0] → 
      (Br (E.gb (r3 0))
      (Q [.int .i64 i1])
      (K2 ((E.add .i64 i1 1)))))))
    (Q [.int .i64 (-1)]))
  (0)
theorem w32 {P : Program} {tbl : FuncId → List A → List C}  {x1 : List (List C)} {x2 : ByteArray} {row : List C} (h : vc32 (stdE P tbl) x1 x2 fun c => c = row) : WPg P tbl rf32 [(false, [.int .i64])] row [.c (.sl [.str, .int .i64, .int .i64, .int .i64, .int .i64, .int .i64, .sl [.int .i64], .int .i64] x1), .fn 33 [.el [.str] [[.str x2]] 0 0]] := by
  refine ⟨?_⟩
  revert h
  generalize hE : stdE P tbl = E
  intro h
  unfold vc32 at h
  cbv
  obtain ⟨I, μ, h0, hI⟩ := h
  refine LoopW.inv (fun R R' s h k => RCode.wp_mono _ R R' s h k) (fun p : Int => (fun (i1 : Int) => (⟨[.c (.sl [.str, .int .i64, .int .i64, .int .i64, .int .i64, .int .i64, .sl [.int .i64], .int .i64] x1), .fn 33 [.el [.str] [[.str x2]] 0 0], .u, .u, .u, .u, .u, .c (.int .i64 (E.len x1)), .c (.int .i64 i1), .u, .u, .u, .u, .u, .u, .u, .u, .u, .u], []⟩ : St)) p) (fun p => I p) (fun p => μ p) _ h0 ?_ ?_
  · refine GSt.ren [] rfl rfl rfl (fun i hi => absurd hi (Nat.not_lt_zero i)) (Nat.zero_le _) ?_ ?_
    all_goals (repeat' (first | exact trivial | exact Or.inl rfl | exact Or.inr rfl | refine And.intro ?_ ?_))
  · rintro i1 h
    replace h := hI i1 h
    cbv
    refine ⟨fun hb4 => ?_, fun hb4 => ?_⟩
    · replace h := h.t hb4
      have c5 := h.1
      refine ⟨c5, ?_⟩
      replace h := h.2
      refine ⟨hb4, ?_⟩
      have c6 := h.1
      refine ⟨c6, ?_⟩
      replace h := h.2 _ rfl
      refine ⟨fun hb7 => ?_, fun hb7 => ?_⟩
      · replace h := h.t hb7
        have h : _ = row := h
        subst h
        repeat' (first | exact trivial | exact rfl | refine And.intro ?_ ?_)
      · replace h := h.f hb7
        refine ⟨_, h.1, GSt.ren [] rfl rfl rfl (fun i hi => absurd hi (Nat.not_lt_zero i)) (Nat.zero_le _) ?_ ?_, h.2⟩
        all_goals (repeat' (first | exact trivial | exact Or.inl rfl | exact Or.inr rfl | refine And.intro ?_ ?_))
    · replace h := h.f hb4
      have h : _ = row := h
      subst h
      repeat' (first | exact trivial | exact rfl | refine And.intro ?_ ?_)
def vc33 (E : Env) (x1 : ByteArray) (x2 : Int) (x3 : Int) (x4 : Int) (x5 : Int) (x6 : Int) (x7 : List (List C)) (x8 : Int) (x9 : ByteArray) (Q : List C → Prop) : Prop :=
  Q [.bool (E.seq x1 (E.gs (E.cell [[.str x9]] 0 0)))]
theorem w33 {P : Program} {tbl : FuncId → List A → List C}  {x1 : ByteArray} {x2 : Int} {x3 : Int} {x4 : Int} {x5 : Int} {x6 : Int} {x7 : List (List C)} {x8 : Int} {x9 : ByteArray} {row : List C} (h : vc33 (stdE P tbl) x1 x2 x3 x4 x5 x6 x7 x8 x9 fun c => c = row) : WPg P tbl rf33 [(false, [.bool])] row [.agg [.c (.str x1), .c (.int .i64 x2), .c (.int .i64 x3), .c (.int .i64 x4), .c (.int .i64 x5), .c (.int .i64 x6), .c (.sl [.int .i64] x7), .c (.int .i64 x8)], .el [.str] [[.str x9]] 0 0] := by
  refine ⟨?_⟩
  revert h
  generalize hE : stdE P tbl = E
  intro h
  unfold vc33 at h
  cbv
  have h : _ = row := h
  subst h
  repeat' (first | exact trivial | exact rfl | refine And.intro ?_ ?_)
def vc30 (E : Env) (x1 : ByteArray) (x2 : Int) (x3 : Int) (x4 : Int) (x5 : Int) (x6 : Int) (x7 : List (List C)) (x8 : Int) (x9 : Int) (Q : List C → Prop) : Prop :=
  (E.pok 48 [(false, [.bool])] [.c (.str x1)]) ∧ (∀ r10 : Nat → C, r10 = E.res 48 [.c (.str x1)] → 
  (Br (E.not (E.gb (r10 0)))
  (Q [.int .i64 5])
  ((E.pok 29 [(false, [.bool])] [.c (.int .i64 x2), .c (.int .i64 1), .c (.int .i64 1000000)]) ∧ (∀ r11 : Nat → C, r11 = E.res 29 [.c (.int .i64 x2), .c (.int .i64 1), .c (.int .i64 1000000)] → 
    ((Imp (E.not (E.not (E.gb (r11 0)))) (E.pok 29 [(false, [.bool])] [.c (.int .i64 x3), .c (.int .i64 0), .c (.int .i64 x2)])) ∧ (∀ r12 : Nat → C, r12 = E.res 29 [.c (.int .i64 x3), .c (.int .i64 0), .c (.int .i64 x2)] → 
    ((Imp (E.not (E.bite (E.not (E.gb (r11 0))) true (E.not (E.gb (r12 0))))) (E.pok 29 [(false, [.bool])] [.c (.int .i64 x4), .c (.int .i64 0), .c (.int .i64 2000)])) ∧ (∀ r13 : Nat → C, r13 = E.res 29 [.c (.int .i64 x4), .c (.int .i64 0), .c (.int .i64 2000)] → 
    ((Imp (E.not (E.bite (E.bite (E.not (E.gb (r11 0))) true (E.not (E.gb (r12 0)))) true (E.not (E.gb (r13 0))))) (E.pok 29 [(false, [.bool])] [.c (.int .i64 x5), .c (.int .i64 0), .c (.int .i64 x4)])) ∧ (∀ r14 : Nat → C, r14 = E.res 29 [.c (.int .i64 x5), .c (.int .i64 0), .c (.int .i64 x4)] → 
    ((Imp (E.not (E.bite (E.bite (E.bite (E.not (E.gb (r11 0))) true (E.not (E.gb (r12 0)))) true (E.not (E.gb (r13 0)))) true (E.not (E.gb (r14 0))))) (E.pok 29 [(false, [.bool])] [.c (.int .i64 x6), .c (.int .i64 1), .c (.int .i64 5000)])) ∧ (∀ r15 : Nat → C, r15 = E.res 29 [.c (.int .i64 x6), .c (.int .i64 1), .c (.int .i64 5000)] → 
    (Br (E.bite (E.bite (E.bite (E.bite (E.not (E.gb (r11 0))) true (E.not (E.gb (r12 0)))) true (E.not (E.gb (r13 0)))) true (E.not (E.gb (r14 0)))) true (E.not (E.gb (r15 0))))
    (Q [.int .i64 1])
    ((E.pok 49 [(false, [.int .i64])] [.c (.sl [.int .i64] x7), .c (.int .i64 x9)]) ∧ (∀ r16 : Nat → C, r16 = E.res 49 [.c (.sl [.int .i64] x7), .c (.int .i64 x9)] → 
      (Br (E.not (E.eq (E.gi (r16 0)) 0))
      (Q [.int .i64 (E.gi (r16 0))])
      ((E.pok 29 [(false, [.bool])] [.c (.int .i64 x8), .c (.int .i64 0), .c (.int .i64 1000000000)]) ∧ (∀ r17 : Nat → C, r17 = E.res 29 [.c (.int .i64 x8), .c (.int .i64 0), .c (.int .i64 1000000000)] → 
        (Br (E.not (E.gb (r17 0)))
        (Q [.int .i64 1])
        (Q [.int .i64 0]))))))))))))))))))))
theorem w30 {P : Program} {tbl : FuncId → List A → List C}  {x1 : ByteArray} {x2 : Int} {x3 : Int} {x4 : Int} {x5 : Int} {x6 : Int} {x7 : List (List C)} {x8 : Int} {x9 : Int} {row : List C} (h : vc30 (stdE P tbl) x1 x2 x3 x4 x5 x6 x7 x8 x9 fun c => c = row) : WPg P tbl rf30 [(false, [.int .i64])] row [.agg [.c (.str x1), .c (.int .i64 x2), .c (.int .i64 x3), .c (.int .i64 x4), .c (.int .i64 x5), .c (.int .i64 x6), .c (.sl [.int .i64] x7), .c (.int .i64 x8)], .c (.int .i64 x9)] := by
  refine ⟨?_⟩
  revert h
  generalize hE : stdE P tbl = E
  intro h
  unfold vc30 at h
  cbv
  have c18 := h.1
  refine ⟨c18, ?_⟩
  replace h := h.2 _ rfl
  refine ⟨fun hb19 => ?_, fun hb19 => ?_⟩
  · replace h := h.t hb19
    have h : _ = row := h
    subst h
    repeat' (first | exact trivial | exact rfl | refine And.intro ?_ ?_)
  · replace h := h.f hb19
    have c20 := h.1
    refine ⟨c20, ?_⟩
    replace h := h.2 _ rfl
    refine ⟨⟨fun hh => hh⟩, ?_⟩
    refine ⟨⟨fun hh => hh⟩, ?_⟩
    refine ⟨⟨fun hh => hh⟩, ?_⟩
    refine ⟨⟨fun hh => hh⟩, ?_⟩
    have c21 := h.1
    refine ⟨c21, ?_⟩
    replace h := h.2 _ rfl
    refine ⟨⟨fun hh => hh⟩, ?_⟩
    refine ⟨⟨fun hh => hh⟩, ?_⟩
    refine ⟨⟨fun hh => hh⟩, ?_⟩
    refine ⟨⟨fun hh => hh⟩, ?_⟩
    have c22 := h.1
    refine ⟨c22, ?_⟩
    replace h := h.2 _ rfl
    refine ⟨⟨fun hh => hh⟩, ?_⟩
    refine ⟨⟨fun hh => hh⟩, ?_⟩
    refine ⟨⟨fun hh => hh⟩, ?_⟩
    refine ⟨⟨fun hh => hh⟩, ?_⟩
    refine ⟨⟨fun hh => hh⟩, ?_⟩
    refine ⟨⟨fun hh => hh⟩, ?_⟩
    have c23 := h.1
    refine ⟨c23, ?_⟩
    replace h := h.2 _ rfl
    refine ⟨⟨fun hh => hh⟩, ?_⟩
    refine ⟨⟨fun hh => hh⟩, ?_⟩
    refine ⟨⟨fun hh => hh⟩, ?_⟩
    refine ⟨⟨fun hh => hh⟩, ?_⟩
    have c24 := h.1
    refine ⟨c24, ?_⟩
    replace h := h.2 _ rfl
    refine ⟨⟨fun hh => hh⟩, ?_⟩
    refine ⟨⟨fun hh => hh⟩, ?_⟩
    refine ⟨fun hb25 => ?_, fun hb25 => ?_⟩
    · replace h := h.t hb25
      have h : _ = row := h
      subst h
      repeat' (first | exact trivial | exact rfl | refine And.intro ?_ ?_)
    · replace h := h.f hb25
      have c26 := h.1
      refine ⟨c26, ?_⟩
      replace h := h.2 _ rfl
      refine ⟨fun hb27 => ?_, fun hb27 => ?_⟩
      · replace h := h.t hb27
        have h : _ = row := h
        subst h
        repeat' (first | exact trivial | exact rfl | refine And.intro ?_ ?_)
      · replace h := h.f hb27
        have c28 := h.1
        refine ⟨c28, ?_⟩
        replace h := h.2 _ rfl
        refine ⟨fun hb29 => ?_, fun hb29 => ?_⟩
        · replace h := h.t hb29
          have h : _ = row := h
          subst h
          repeat' (first | exact trivial | exact rfl | refine And.intro ?_ ?_)
        · replace h := h.f hb29
          have h : _ = row := h
          subst h
          repeat' (first | exact trivial | exact rfl | refine And.intro ?_ ?_)
def vc31 (E : Env) (x1 : ByteArray) (x2 : Int) (x3 : Int) (x4 : Int) (x5 : Int) (x6 : Int) (x7 : List (List C)) (x8 : Int) (x9 : Int) (Q : List C → Prop) : Prop :=
  (E.pok 50 [(false, [.bool])] [.c (.str x1)]) ∧ (∀ r10 : Nat → C, r10 = E.res 50 [.c (.str x1)] → 
  (Br (E.not (E.gb (r10 0)))
  (Q [.int .i64 5])
  (Br (E.bite (E.bite (E.bite (E.lt x2 1) true (E.lt 1000000 x2)) true (E.lt x3 0)) true (E.lt x2 x3))
    (Q [.int .i64 1])
    (Br (E.bite (E.bite (E.bite (E.bite (E.bite (E.lt x4 0) true (E.lt 2000 x4)) true (E.lt x5 0)) true (E.lt x4 x5)) true (E.lt x6 1)) true (E.lt 5000 x6))
      (Q [.int .i64 1])
      ((E.pok 51 [(false, [.int .i64])] [.c (.sl [.int .i64] x7), .c (.int .i64 x9)]) ∧ (∀ r11 : Nat → C, r11 = E.res 51 [.c (.sl [.int .i64] x7), .c (.int .i64 x9)] → 
        (Br (E.not (E.eq (E.gi (r11 0)) 0))
        (Q [.int .i64 (E.gi (r11 0))])
        (Br (E.bite (E.lt x8 0) true (E.lt 1000000000 x8))
          (Q [.int .i64 1])
          (Q [.int .i64 0])))))))))
theorem w31 {P : Program} {tbl : FuncId → List A → List C}  {x1 : ByteArray} {x2 : Int} {x3 : Int} {x4 : Int} {x5 : Int} {x6 : Int} {x7 : List (List C)} {x8 : Int} {x9 : Int} {row : List C} (h : vc31 (stdE P tbl) x1 x2 x3 x4 x5 x6 x7 x8 x9 fun c => c = row) : WPg P tbl rf31 [(false, [.int .i64])] row [.agg [.c (.str x1), .c (.int .i64 x2), .c (.int .i64 x3), .c (.int .i64 x4), .c (.int .i64 x5), .c (.int .i64 x6), .c (.sl [.int .i64] x7), .c (.int .i64 x8)], .c (.int .i64 x9)] := by
  refine ⟨?_⟩
  revert h
  generalize hE : stdE P tbl = E
  intro h
  unfold vc31 at h
  cbv
  have c12 := h.1
  refine ⟨c12, ?_⟩
  replace h := h.2 _ rfl
  refine ⟨fun hb13 => ?_, fun hb13 => ?_⟩
  · replace h := h.t hb13
    have h : _ = row := h
    subst h
    repeat' (first | exact trivial | exact rfl | refine And.intro ?_ ?_)
  · replace h := h.f hb13
    refine ⟨⟨fun hh => hh⟩, ?_⟩
    refine ⟨⟨fun hh => hh⟩, ?_⟩
    refine ⟨⟨fun hh => hh⟩, ?_⟩
    refine ⟨⟨fun hh => hh⟩, ?_⟩
    refine ⟨⟨fun hh => hh⟩, ?_⟩
    refine ⟨⟨fun hh => hh⟩, ?_⟩
    refine ⟨⟨fun hh => hh⟩, ?_⟩
    refine ⟨⟨fun hh => hh⟩, ?_⟩
    refine ⟨⟨fun hh => hh⟩, ?_⟩
    refine ⟨⟨fun hh => hh⟩, ?_⟩
    refine ⟨⟨fun hh => hh⟩, ?_⟩
    refine ⟨fun hb14 => ?_, fun hb14 => ?_⟩
    · replace h := h.t hb14
      have h : _ = row := h
      subst h
      repeat' (first | exact trivial | exact rfl | refine And.intro ?_ ?_)
    · replace h := h.f hb14
      refine ⟨⟨fun hh => hh⟩, ?_⟩
      refine ⟨⟨fun hh => hh⟩, ?_⟩
      refine ⟨⟨fun hh => hh⟩, ?_⟩
      refine ⟨⟨fun hh => hh⟩, ?_⟩
      refine ⟨⟨fun hh => hh⟩, ?_⟩
      refine ⟨⟨fun hh => hh⟩, ?_⟩
      refine ⟨⟨fun hh => hh⟩, ?_⟩
      refine ⟨⟨fun hh => hh⟩, ?_⟩
      refine ⟨⟨fun hh => hh⟩, ?_⟩
      refine ⟨⟨fun hh => hh⟩, ?_⟩
      refine ⟨⟨fun hh => hh⟩, ?_⟩
      refine ⟨⟨fun hh => hh⟩, ?_⟩
      refine ⟨⟨fun hh => hh⟩, ?_⟩
      refine ⟨⟨fun hh => hh⟩, ?_⟩
      refine ⟨⟨fun hh => hh⟩, ?_⟩
      refine ⟨⟨fun hh => hh⟩, ?_⟩
      refine ⟨⟨fun hh => hh⟩, ?_⟩
      refine ⟨fun hb15 => ?_, fun hb15 => ?_⟩
      · replace h := h.t hb15
        have h : _ = row := h
        subst h
        repeat' (first | exact trivial | exact rfl | refine And.intro ?_ ?_)
      · replace h := h.f hb15
        have c16 := h.1
        refine ⟨c16, ?_⟩
        replace h := h.2 _ rfl
        refine ⟨fun hb17 => ?_, fun hb17 => ?_⟩
        · replace h := h.t hb17
          have h : _ = row := h
          subst h
          repeat' (first | exact trivial | exact rfl | refine And.intro ?_ ?_)
        · replace h := h.f hb17
          refine ⟨⟨fun hh => hh⟩, ?_⟩
          refine ⟨⟨fun hh => hh⟩, ?_⟩
          refine ⟨⟨fun hh => hh⟩, ?_⟩
          refine ⟨fun hb18 => ?_, fun hb18 => ?_⟩
          · replace h := h.t hb18
            have h : _ = row := h
            subst h
            repeat' (first | exact trivial | exact rfl | refine And.intro ?_ ?_)
          · replace h := h.f hb18
            have h : _ = row := h
            subst h
            repeat' (first | exact trivial | exact rfl | refine And.intro ?_ ?_)
def vc48 (E : Env) (x1 : ByteArray) (Q : List C → Prop) : Prop :=
  (Imp (E.not (E.bite (E.lt (E.slen x1) 1) true (E.lt 32 (E.slen x1)))) ((E.le 0 0) = true)) ∧ (Imp (E.not (E.bite (E.lt (E.slen x1) 1) true (E.lt 32 (E.slen x1)))) ((E.lt 0 (E.slen x1)) = true)) ∧ 
  ((Imp (E.not (E.bite (E.lt (E.slen x1) 1) true (E.lt 32 (E.slen x1)))) (E.pok 55 [(false, [.bool])] [.c (.int .u8 (E.sget x1 0))])) ∧ (∀ r2 : Nat → C, r2 = E.res 55 [.c (.int .u8 (E.sget x1 0))] → 
  (Br (E.bite (E.bite (E.lt (E.slen x1) 1) true (E.lt 32 (E.slen x1))) true (E.not (E.gb (r2 0))))
  (Q [.bool false])
  (LoopP1 (fun (i3 : Int) (K4 : (Int) → Prop) =>
    Br (E.lt i3 (E.slen x1))
      (((E.le 0 i3) = true) ∧ 
        ((E.pok 55 [(false, [.bool])] [.c (.int .u8 (E.sget x1 i3))]) ∧ (∀ r5 : Nat → C, r5 = E.res 55 [.c (.int .u8 (E.sget x1 i3))] → 
        ((Imp (E.not (E.gb (r5 0))) (Imp (E.not (E.lt (E.sget x1 i3) 48)) ((E.and (E.not (E.gb (r5 0))) (E.not (E.lt (E.sget x1 i3) 48))) = true))) ∧ 
        (Br (E.bite (E.bite (E.bite (E.bite (E.not (E.gb (r5 0))) (E.bite (E.lt (E.sget x1 i3) 48) true (E.lt 57 (E.sget x1 i3))) false) (E.not (E.eq (E.sget x1 i3) 45)) false) (E.not (E.eq (E.sget x1 i3) 95)) false) (E.not (E.eq (E.sget x1 i3) 46)) false)
        (Q [.bool false])
        (K4 ((E.add .i64 i3 1))))))))
      (Q [.bool true]))
    (0)))))
theorem w48 {P : Program} {tbl : FuncId → List A → List C}  {x1 : ByteArray} {row : List C} (h : vc48 (stdE P tbl) x1 fun c => c = row) : WPg P tbl rf48 [(false, [.bool])] row [.c (.str x1)] := by
  refine ⟨?_⟩
  revert h
  generalize hE : stdE P tbl = E
  intro h
  unfold vc48 at h
  cbv
  refine ⟨⟨fun hh => hh⟩, ?_⟩
  refine ⟨⟨fun hh => hh⟩, ?_⟩
  refine ⟨⟨fun hh => hh⟩, ?_⟩
  refine ⟨⟨fun hh => hh⟩, ?_⟩
  have c6 := h.1
  refine ⟨c6, ?_⟩
  replace h := h.2
  have c7 := h.1
  refine ⟨c7, ?_⟩
  replace h := h.2
  refine ⟨⟨fun hh => hh⟩, ?_⟩
  have c8 := h.1
  refine ⟨c8, ?_⟩
  replace h := h.2 _ rfl
  refine ⟨⟨fun hh => hh⟩, ?_⟩
  refine ⟨⟨fun hh => hh⟩, ?_⟩
  refine ⟨fun hb9 => ?_, fun hb9 => ?_⟩
  · replace h := h.t hb9
    have h : _ = row := h
    subst h
    repeat' (first | exact trivial | exact rfl | refine And.intro ?_ ?_)
  · replace h := h.f hb9
    obtain ⟨I, μ, h0, hI⟩ := h
    refine LoopW.inv (fun R R' s h k => RCode.wp_mono _ R R' s h k) (fun p : Int => (fun (i3 : Int) => (⟨[.c (.str x1), .u, .u, .u, .u, .u, .u, .u, .u, .u, .u, .u, .u, .u, .u, .u, .u, .u, .u, .u, .c (.int .i64 (E.slen x1)), .c (.int .i64 i3), .u, .u, .u, .u, .u, .u, .u, .u, .u, .u, .u, .u, .u, .u, .u, .u, .u, .u, .u, .u, .u, .u, .u, .u, .u, .u, .u, .u, .u], []⟩ : St)) p) (fun p => I p) (fun p => μ p) _ h0 ?_ ?_
    · refine GSt.ren [] rfl rfl rfl (fun i hi => absurd hi (Nat.not_lt_zero i)) (Nat.zero_le _) ?_ ?_
      all_goals (repeat' (first | exact trivial | exact Or.inl rfl | exact Or.inr rfl | refine And.intro ?_ ?_))
    · rintro i3 h
      replace h := hI i3 h
      cbv
      refine ⟨fun hb10 => ?_, fun hb10 => ?_⟩
      · replace h := h.t hb10
        have c11 := h.1
        refine ⟨c11, ?_⟩
        replace h := h.2
        refine ⟨hb10, ?_⟩
        have c12 := h.1
        refine ⟨c12, ?_⟩
        replace h := h.2 _ rfl
        refine ⟨⟨fun hh => hh⟩, ?_⟩
        refine ⟨⟨fun hh => hh⟩, ?_⟩
        refine ⟨⟨fun hh => hh⟩, ?_⟩
        refine ⟨⟨fun hh => hh⟩, ?_⟩
        have c13 := h.1
        refine ⟨c13, ?_⟩
        replace h := h.2
        refine ⟨⟨fun hh => hh⟩, ?_⟩
        refine ⟨⟨fun hh => hh⟩, ?_⟩
        refine ⟨⟨fun hh => hh⟩, ?_⟩
        refine ⟨⟨fun hh => hh⟩, ?_⟩
        refine ⟨⟨fun hh => hh⟩, ?_⟩
        refine ⟨⟨fun hh => hh⟩, ?_⟩
        refine ⟨⟨fun hh => hh⟩, ?_⟩
        refine ⟨fun hb14 => ?_, fun hb14 => ?_⟩
        · replace h := h.t hb14
          have h : _ = row := h
          subst h
          repeat' (first | exact trivial | exact rfl | refine And.intro ?_ ?_)
        · replace h := h.f hb14
          refine ⟨_, h.1, GSt.ren [] rfl rfl rfl (fun i hi => absurd hi (Nat.not_lt_zero i)) (Nat.zero_le _) ?_ ?_, h.2⟩
          all_goals (repeat' (first | exact trivial | exact Or.inl rfl | exact Or.inr rfl | refine And.intro ?_ ?_))
      · replace h := h.f hb10
        have h : _ = row := h
        subst h
        repeat' (first | exact trivial | exact rfl | refine And.intro ?_ ?_)
def vc55 (E : Env) (x1 : Int) (Q : List C → Prop) : Prop :=
  (Imp (E.not (E.bite (E.le 97 x1) (E.le x1 122) false)) (Imp (E.le 65 x1) ((E.and (E.not (E.bite (E.le 97 x1) (E.le x1 122) false)) (E.le 65 x1)) = true))) ∧ 
  (Q [.bool (E.bite (E.bite (E.le 97 x1) (E.le x1 122) false) true (E.bite (E.le 65 x1) (E.le x1 90) false))])
theorem w55 {P : Program} {tbl : FuncId → List A → List C}  {x1 : Int} {row : List C} (h : vc55 (stdE P tbl) x1 fun c => c = row) : WPg P tbl rf55 [(false, [.bool])] row [.c (.int .u8 x1)] := by
  refine ⟨?_⟩
  revert h
  generalize hE : stdE P tbl = E
  intro h
  unfold vc55 at h
  cbv
  refine ⟨⟨fun hh => hh⟩, ?_⟩
  refine ⟨⟨fun hh => hh⟩, ?_⟩
  refine ⟨⟨fun hh => hh⟩, ?_⟩
  refine ⟨⟨fun hh => hh⟩, ?_⟩
  refine ⟨⟨fun hh => hh⟩, ?_⟩
  refine ⟨⟨fun hh => hh⟩, ?_⟩
  have c2 := h.1
  refine ⟨c2, ?_⟩
  replace h := h.2
  refine ⟨⟨fun hh => hh⟩, ?_⟩
  have h : _ = row := h
  subst h
  repeat' (first | exact trivial | exact rfl | refine And.intro ?_ ?_)
def vc50 (E : Env) (x1 : ByteArray) (Q : List C → Prop) : Prop :=
  (Imp (E.not (E.bite (E.lt (E.slen x1) 1) true (E.lt 32 (E.slen x1)))) ((E.le 0 0) = true)) ∧ (Imp (E.not (E.bite (E.lt (E.slen x1) 1) true (E.lt 32 (E.slen x1)))) ((E.lt 0 (E.slen x1)) = true)) ∧ 
  ((Imp (E.not (E.bite (E.lt (E.slen x1) 1) true (E.lt 32 (E.slen x1)))) (E.pok 59 [(false, [.bool])] [.c (.int .u8 (E.sget x1 0))])) ∧ (∀ r2 : Nat → C, r2 = E.res 59 [.c (.int .u8 (E.sget x1 0))] → 
  (Br (E.bite (E.bite (E.lt (E.slen x1) 1) true (E.lt 32 (E.slen x1))) true (E.not (E.gb (r2 0))))
  (Q [.bool false])
  (LoopP1 (fun (i3 : Int) (K4 : (Int) → Prop) =>
    Br (E.lt i3 (E.slen x1))
      (((E.le 0 i3) = true) ∧ 
        ((E.pok 59 [(false, [.bool])] [.c (.int .u8 (E.sget x1 i3))]) ∧ (∀ r5 : Nat → C, r5 = E.res 59 [.c (.int .u8 (E.sget x1 i3))] → 
        ((Imp (E.not (E.gb (r5 0))) (Imp (E.not (E.lt (E.sget x1 i3) 48)) ((E.and (E.not (E.gb (r5 0))) (E.not (E.lt (E.sget x1 i3) 48))) = true))) ∧ 
        (Br (E.bite (E.bite (E.bite (E.bite (E.not (E.gb (r5 0))) (E.bite (E.lt (E.sget x1 i3) 48) true (E.lt 57 (E.sget x1 i3))) false) (E.not (E.eq (E.sget x1 i3) 45)) false) (E.not (E.eq (E.sget x1 i3) 95)) false) (E.not (E.eq (E.sget x1 i3) 46)) false)
        (Q [.bool false])
        (K4 ((E.add .i64 i3 1))))))))
      (Q [.bool true]))
    (0)))))
theorem w50 {P : Program} {tbl : FuncId → List A → List C}  {x1 : ByteArray} {row : List C} (h : vc50 (stdE P tbl) x1 fun c => c = row) : WPg P tbl rf50 [(false, [.bool])] row [.c (.str x1)] := by
  refine ⟨?_⟩
  revert h
  generalize hE : stdE P tbl = E
  intro h
  unfold vc50 at h
  cbv
  refine ⟨⟨fun hh => hh⟩, ?_⟩
  refine ⟨⟨fun hh => hh⟩, ?_⟩
  refine ⟨⟨fun hh => hh⟩, ?_⟩
  refine ⟨⟨fun hh => hh⟩, ?_⟩
  have c6 := h.1
  refine ⟨c6, ?_⟩
  replace h := h.2
  have c7 := h.1
  refine ⟨c7, ?_⟩
  replace h := h.2
  refine ⟨⟨fun hh => hh⟩, ?_⟩
  have c8 := h.1
  refine ⟨c8, ?_⟩
  replace h := h.2 _ rfl
  refine ⟨⟨fun hh => hh⟩, ?_⟩
  refine ⟨⟨fun hh => hh⟩, ?_⟩
  refine ⟨fun hb9 => ?_, fun hb9 => ?_⟩
  · replace h := h.t hb9
    have h : _ = row := h
    subst h
    repeat' (first | exact trivial | exact rfl | refine And.intro ?_ ?_)
  · replace h := h.f hb9
    obtain ⟨I, μ, h0, hI⟩ := h
    refine LoopW.inv (fun R R' s h k => RCode.wp_mono _ R R' s h k) (fun p : Int => (fun (i3 : Int) => (⟨[.c (.str x1), .u, .u, .c (.int .i64 i3), .u, .u, .u, .u, .u, .u, .u, .u, .u, .u, .u, .u, .u, .u, .u, .u, .u, .u, .u, .u, .u, .u, .u, .u, .u, .u, .u, .u, .u, .u, .u, .u, .u, .u, .u, .u, .u, .u, .u, .u, .u, .u, .u, .u, .u, .u, .u], []⟩ : St)) p) (fun p => I p) (fun p => μ p) _ h0 ?_ ?_
    · refine GSt.ren [] rfl rfl rfl (fun i hi => absurd hi (Nat.not_lt_zero i)) (Nat.zero_le _) ?_ ?_
      all_goals (repeat' (first | exact trivial | exact Or.inl rfl | exact Or.inr rfl | refine And.intro ?_ ?_))
    · rintro i3 h
      replace h := hI i3 h
      cbv
      refine ⟨fun hb10 => ?_, fun hb10 => ?_⟩
      · replace h := h.t hb10
        have c11 := h.1
        refine ⟨c11, ?_⟩
        replace h := h.2
        refine ⟨hb10, ?_⟩
        have c12 := h.1
        refine ⟨c12, ?_⟩
        replace h := h.2 _ rfl
        refine ⟨⟨fun hh => hh⟩, ?_⟩
        refine ⟨⟨fun hh => hh⟩, ?_⟩
        refine ⟨⟨fun hh => hh⟩, ?_⟩
        refine ⟨⟨fun hh => hh⟩, ?_⟩
        have c13 := h.1
        refine ⟨c13, ?_⟩
        replace h := h.2
        refine ⟨⟨fun hh => hh⟩, ?_⟩
        refine ⟨⟨fun hh => hh⟩, ?_⟩
        refine ⟨⟨fun hh => hh⟩, ?_⟩
        refine ⟨⟨fun hh => hh⟩, ?_⟩
        refine ⟨⟨fun hh => hh⟩, ?_⟩
        refine ⟨⟨fun hh => hh⟩, ?_⟩
        refine ⟨⟨fun hh => hh⟩, ?_⟩
        refine ⟨fun hb14 => ?_, fun hb14 => ?_⟩
        · replace h := h.t hb14
          have h : _ = row := h
          subst h
          repeat' (first | exact trivial | exact rfl | refine And.intro ?_ ?_)
        · replace h := h.f hb14
          refine ⟨_, h.1, GSt.ren [] rfl rfl rfl (fun i hi => absurd hi (Nat.not_lt_zero i)) (Nat.zero_le _) ?_ ?_, h.2⟩
          all_goals (repeat' (first | exact trivial | exact Or.inl rfl | exact Or.inr rfl | refine And.intro ?_ ?_))
      · replace h := h.f hb10
        have h : _ = row := h
        subst h
        repeat' (first | exact trivial | exact rfl | refine And.intro ?_ ?_)
def vc59 (E : Env) (x1 : Int) (Q : List C → Prop) : Prop :=
  (Imp (E.not (E.bite (E.le 65 x1) (E.le x1 90) false)) (Imp (E.le 97 x1) ((E.and (E.not (E.bite (E.le 65 x1) (E.le x1 90) false)) (E.le 97 x1)) = true))) ∧ 
  (Q [.bool (E.bite (E.bite (E.le 65 x1) (E.le x1 90) false) true (E.bite (E.le 97 x1) (E.le x1 122) false))])
theorem w59 {P : Program} {tbl : FuncId → List A → List C}  {x1 : Int} {row : List C} (h : vc59 (stdE P tbl) x1 fun c => c = row) : WPg P tbl rf59 [(false, [.bool])] row [.c (.int .u8 x1)] := by
  refine ⟨?_⟩
  revert h
  generalize hE : stdE P tbl = E
  intro h
  unfold vc59 at h
  cbv
  refine ⟨⟨fun hh => hh⟩, ?_⟩
  refine ⟨⟨fun hh => hh⟩, ?_⟩
  refine ⟨⟨fun hh => hh⟩, ?_⟩
  refine ⟨⟨fun hh => hh⟩, ?_⟩
  refine ⟨⟨fun hh => hh⟩, ?_⟩
  refine ⟨⟨fun hh => hh⟩, ?_⟩
  have c2 := h.1
  refine ⟨c2, ?_⟩
  replace h := h.2
  refine ⟨⟨fun hh => hh⟩, ?_⟩
  have h : _ = row := h
  subst h
  repeat' (first | exact trivial | exact rfl | refine And.intro ?_ ?_)
def vc49 (E : Env) (x1 : List (List C)) (x2 : Int) (Q : List C → Prop) : Prop :=
  (E.pok 56 [(false, [.bool])] [.c (.sl [.int .i64] x1), .c (.int .i64 x2)]) ∧ (∀ r3 : Nat → C, r3 = E.res 56 [.c (.sl [.int .i64] x1), .c (.int .i64 x2)] → 
  (Br (E.not (E.gb (r3 0)))
  (Q [.int .i64 17])
  ((E.pok 57 [(false, [.bool])] [.c (.sl [.int .i64] x1), .c (.int .i64 1000)]) ∧ (∀ r4 : Nat → C, r4 = E.res 57 [.c (.sl [.int .i64] x1), .c (.int .i64 1000)] → 
    (Br (E.not (E.gb (r4 0)))
    (Q [.int .i64 1])
    ((E.pok 58 [(false, [.int .i64])] [.c (.sl [.int .i64] x1)]) ∧ (∀ r5 : Nat → C, r5 = E.res 58 [.c (.sl [.int .i64] x1)] → 
      (Br (E.not (E.eq (E.gi (r5 0)) 1000))
      (Q [.int .i64 18])
      (Q [.int .i64 0])))))))))
theorem w49 {P : Program} {tbl : FuncId → List A → List C}  {x1 : List (List C)} {x2 : Int} {row : List C} (h : vc49 (stdE P tbl) x1 x2 fun c => c = row) : WPg P tbl rf49 [(false, [.int .i64])] row [.c (.sl [.int .i64] x1), .c (.int .i64 x2)] := by
  refine ⟨?_⟩
  revert h
  generalize hE : stdE P tbl = E
  intro h
  unfold vc49 at h
  cbv
  have c6 := h.1
  refine ⟨c6, ?_⟩
  replace h := h.2 _ rfl
  refine ⟨fun hb7 => ?_, fun hb7 => ?_⟩
  · replace h := h.t hb7
    have h : _ = row := h
    subst h
    repeat' (first | exact trivial | exact rfl | refine And.intro ?_ ?_)
  · replace h := h.f hb7
    have c8 := h.1
    refine ⟨c8, ?_⟩
    replace h := h.2 _ rfl
    refine ⟨fun hb9 => ?_, fun hb9 => ?_⟩
    · replace h := h.t hb9
      have h : _ = row := h
      subst h
      repeat' (first | exact trivial | exact rfl | refine And.intro ?_ ?_)
    · replace h := h.f hb9
      have c10 := h.1
      refine ⟨c10, ?_⟩
      replace h := h.2 _ rfl
      refine ⟨fun hb11 => ?_, fun hb11 => ?_⟩
      · replace h := h.t hb11
        have h : _ = row := h
        subst h
        repeat' (first | exact trivial | exact rfl | refine And.intro ?_ ?_)
      · replace h := h.f hb11
        have h : _ = row := h
        subst h
        repeat' (first | exact trivial | exact rfl | refine And.intro ?_ ?_)
def vc56 (E : Env) (x1 : List (List C)) (x2 : Int) (Q : List C → Prop) : Prop :=
  Q [.bool (E.bite (E.bite (E.le 1 x2) (E.le x2 8) false) (E.eq (E.len x1) x2) false)]
theorem w56 {P : Program} {tbl : FuncId → List A → List C}  {x1 : List (List C)} {x2 : Int} {row : List C} (h : vc56 (stdE P tbl) x1 x2 fun c => c = row) : WPg P tbl rf56 [(false, [.bool])] row [.c (.sl [.int .i64] x1), .c (.int .i64 x2)] := by
  refine ⟨?_⟩
  revert h
  generalize hE : stdE P tbl = E
  intro h
  unfold vc56 at h
  cbv
  refine ⟨⟨fun hh => hh⟩, ?_⟩
  refine ⟨⟨fun hh => hh⟩, ?_⟩
  refine ⟨⟨fun hh => hh⟩, ?_⟩
  refine ⟨⟨fun hh => hh⟩, ?_⟩
  refine ⟨⟨fun hh => hh⟩, ?_⟩
  refine ⟨⟨fun hh => hh⟩, ?_⟩
  have h : _ = row := h
  subst h
  repeat' (first | exact trivial | exact rfl | refine And.intro ?_ ?_)
def vc57 (E : Env) (x1 : List (List C)) (x2 : Int) (Q : List C → Prop) : Prop :=
  (E.pok 73 [(false, [.bool])] [.c (.sl [.int .i64] x1), .fn 74 [.el [.int .i64] [[.int .i64 x2]] 0 0]]) ∧ (∀ r3 : Nat → C, r3 = E.res 73 [.c (.sl [.int .i64] x1), .fn 74 [.el [.int .i64] [[.int .i64 x2]] 0 0]] → 
  (Q [.bool (E.gb (r3 0))]))
theorem w57 {P : Program} {tbl : FuncId → List A → List C}  {x1 : List (List C)} {x2 : Int} {row : List C} (h : vc57 (stdE P tbl) x1 x2 fun c => c = row) : WPg P tbl rf57 [(false, [.bool])] row [.c (.sl [.int .i64] x1), .c (.int .i64 x2)] := by
  refine ⟨?_⟩
  revert h
  generalize hE : stdE P tbl = E
  intro h
  unfold vc57 at h
  cbv
  have c4 := h.1
  refine ⟨c4, ?_⟩
  replace h := h.2 _ rfl
  have h : _ = row := h
  subst h
  repeat' (first | exact trivial | exact rfl | refine And.intro ?_ ?_)
def vc58 (E : Env) (x1 : List (List C)) (Q : List C → Prop) : Prop :=
  LoopP2 (fun (i2 : Int) (i3 : Int) (K4 : (Int) → (Int) → Prop) =>
  Br (E.lt i3 (E.len x1))
    (((E.le 0 i3) = true) ∧ 
      (K4 ((E.add .i64 i2 (E.gi (E.cell x1 i3 0)))) ((E.add .i64 i3 1))))
    (Q [.int .i64 i2]))
  (0) (0)
theorem w58 {P : Program} {tbl : FuncId → List A → List C}  {x1 : List (List C)} {row : List C} (h : vc58 (stdE P tbl) x1 fun c => c = row) : WPg P tbl rf58 [(false, [.int .i64])] row [.c (.sl [.int .i64] x1)] := by
  refine ⟨?_⟩
  revert h
  generalize hE : stdE P tbl = E
  intro h
  unfold vc58 at h
  cbv
  obtain ⟨I, μ, h0, hI⟩ := h
  refine LoopW.inv (fun R R' s h k => RCode.wp_mono _ R R' s h k) (fun p : Int × Int => (fun (i2 : Int) (i3 : Int) => (⟨[.u, .u, .u, .c (.int .i64 i2), .u, .u, .c (.sl [.int .i64] x1), .c (.int .i64 (E.len x1)), .c (.int .i64 i3), .u, .u, .u, .u, .u, .u, .u, .u], []⟩ : St)) p.1 p.2) (fun p => I p.1 p.2) (fun p => μ p.1 p.2) (_, _) h0 ?_ ?_
  · refine GSt.ren [] rfl rfl rfl (fun i hi => absurd hi (Nat.not_lt_zero i)) (Nat.zero_le _) ?_ ?_
    all_goals (repeat' (first | exact trivial | exact Or.inl rfl | exact Or.inr rfl | refine And.intro ?_ ?_))
  · rintro ⟨i2, i3⟩ h
    replace h := hI i2 i3 h
    cbv
    refine ⟨fun hb5 => ?_, fun hb5 => ?_⟩
    · replace h := h.t hb5
      have c6 := h.1
      refine ⟨c6, ?_⟩
      replace h := h.2
      refine ⟨hb5, ?_⟩
      refine ⟨(_, _), h.1, GSt.ren [] rfl rfl rfl (fun i hi => absurd hi (Nat.not_lt_zero i)) (Nat.zero_le _) ?_ ?_, h.2⟩
      all_goals (repeat' (first | exact trivial | exact Or.inl rfl | exact Or.inr rfl | refine And.intro ?_ ?_))
    · replace h := h.f hb5
      have h : _ = row := h
      subst h
      repeat' (first | exact trivial | exact rfl | refine And.intro ?_ ?_)
def vc73 (E : Env) (x1 : List (List C)) (x2 : Int) (Q : List C → Prop) : Prop :=
  LoopP1 (fun (i1 : Int) (K2 : (Int) → Prop) =>
  Br (E.lt i1 (E.len x1))
    (((E.le 0 i1) = true) ∧ 
      ((E.pok 74 [(false, [.bool])] [.c (.int .i64 (E.gi (E.cell x1 i1 0))), .el [.int .i64] [[.int .i64 x2]] 0 0]) ∧ (∀ r3 : Nat → C, r3 = E.res 74 [.c (.int .i64 (E.gi (E.cell x1 i1 0))), .el [.int .i64] [[.int .i64 x2]] 0 0] → 
      (Br (E.not (E.gb (r3 0)))
      (Q [.bool false])
      (K2 ((E.add .i64 i1 1)))))))
    (Q [.bool true]))
  (0)
theorem w73 {P : Program} {tbl : FuncId → List A → List C}  {x1 : List (List C)} {x2 : Int} {row : List C} (h : vc73 (stdE P tbl) x1 x2 fun c => c = row) : WPg P tbl rf73 [(false, [.bool])] row [.c (.sl [.int .i64] x1), .fn 74 [.el [.int .i64] [[.int .i64 x2]] 0 0]] := by
  refine ⟨?_⟩
  revert h
  generalize hE : stdE P tbl = E
  intro h
  unfold vc73 at h
  cbv
  obtain ⟨I, μ, h0, hI⟩ := h
  refine LoopW.inv (fun R R' s h k => RCode.wp_mono _ R R' s h k) (fun p : Int => (fun (i1 : Int) => (⟨[.u, .fn 74 [.el [.int .i64] [[.int .i64 x2]] 0 0], .u, .u, .u, .u, .u, .c (.sl [.int .i64] x1), .c (.int .i64 (E.len x1)), .c (.int .i64 i1), .u, .u, .u, .u, .u, .u, .u, .u], []⟩ : St)) p) (fun p => I p) (fun p => μ p) _ h0 ?_ ?_
  · refine GSt.ren [] rfl rfl rfl (fun i hi => absurd hi (Nat.not_lt_zero i)) (Nat.zero_le _) ?_ ?_
    all_goals (repeat' (first | exact trivial | exact Or.inl rfl | exact Or.inr rfl | refine And.intro ?_ ?_))
  · rintro i1 h
    replace h := hI i1 h
    cbv
    refine ⟨fun hb4 => ?_, fun hb4 => ?_⟩
    · replace h := h.t hb4
      have c5 := h.1
      refine ⟨c5, ?_⟩
      replace h := h.2
      refine ⟨hb4, ?_⟩
      have c6 := h.1
      refine ⟨c6, ?_⟩
      replace h := h.2 _ rfl
      refine ⟨fun hb7 => ?_, fun hb7 => ?_⟩
      · replace h := h.t hb7
        have h : _ = row := h
        subst h
        repeat' (first | exact trivial | exact rfl | refine And.intro ?_ ?_)
      · replace h := h.f hb7
        refine ⟨_, h.1, GSt.ren [] rfl rfl rfl (fun i hi => absurd hi (Nat.not_lt_zero i)) (Nat.zero_le _) ?_ ?_, h.2⟩
        all_goals (repeat' (first | exact trivial | exact Or.inl rfl | exact Or.inr rfl | refine And.intro ?_ ?_))
    · replace h := h.f hb4
      have h : _ = row := h
      subst h
      repeat' (first | exact trivial | exact rfl | refine And.intro ?_ ?_)
def vc74 (E : Env) (x1 : Int) (x2 : Int) (Q : List C → Prop) : Prop :=
  Q [.bool (E.bite (E.le 0 x1) (E.le x1 (E.gi (E.cell [[.int .i64 x2]] 0 0))) false)]
theorem w74 {P : Program} {tbl : FuncId → List A → List C}  {x1 : Int} {x2 : Int} {row : List C} (h : vc74 (stdE P tbl) x1 x2 fun c => c = row) : WPg P tbl rf74 [(false, [.bool])] row [.c (.int .i64 x1), .el [.int .i64] [[.int .i64 x2]] 0 0] := by
  refine ⟨?_⟩
  revert h
  generalize hE : stdE P tbl = E
  intro h
  unfold vc74 at h
  cbv
  refine ⟨⟨fun hh => hh⟩, ?_⟩
  refine ⟨⟨fun hh => hh⟩, ?_⟩
  refine ⟨⟨fun hh => hh⟩, ?_⟩
  have h : _ = row := h
  subst h
  repeat' (first | exact trivial | exact rfl | refine And.intro ?_ ?_)
def vc51 (E : Env) (x1 : List (List C)) (x2 : Int) (Q : List C → Prop) : Prop :=
  (E.pok 60 [(false, [.int .i64])] [.c (.sl [.int .i64] x1), .c (.int .i64 x2), .c (.int .i64 1000)]) ∧ (∀ r3 : Nat → C, r3 = E.res 60 [.c (.sl [.int .i64] x1), .c (.int .i64 x2), .c (.int .i64 1000)] → 
  (Br (E.not (E.eq (E.gi (r3 0)) 0))
  (Q [.int .i64 (E.gi (r3 0))])
  ((E.pok 61 [(false, [.int .i64])] [.c (.sl [.int .i64] x1)]) ∧ (∀ r4 : Nat → C, r4 = E.res 61 [.c (.sl [.int .i64] x1)] → 
    (Br (E.not (E.eq (E.gi (r4 0)) 1000))
    (Q [.int .i64 18])
    (Q [.int .i64 0]))))))
theorem w51 {P : Program} {tbl : FuncId → List A → List C}  {x1 : List (List C)} {x2 : Int} {row : List C} (h : vc51 (stdE P tbl) x1 x2 fun c => c = row) : WPg P tbl rf51 [(false, [.int .i64])] row [.c (.sl [.int .i64] x1), .c (.int .i64 x2)] := by
  refine ⟨?_⟩
  revert h
  generalize hE : stdE P tbl = E
  intro h
  unfold vc51 at h
  cbv
  have c5 := h.1
  refine ⟨c5, ?_⟩
  replace h := h.2 _ rfl
  refine ⟨fun hb6 => ?_, fun hb6 => ?_⟩
  · replace h := h.t hb6
    have h : _ = row := h
    subst h
    repeat' (first | exact trivial | exact rfl | refine And.intro ?_ ?_)
  · replace h := h.f hb6
    have c7 := h.1
    refine ⟨c7, ?_⟩
    replace h := h.2 _ rfl
    refine ⟨fun hb8 => ?_, fun hb8 => ?_⟩
    · replace h := h.t hb8
      have h : _ = row := h
      subst h
      repeat' (first | exact trivial | exact rfl | refine And.intro ?_ ?_)
    · replace h := h.f hb8
      have h : _ = row := h
      subst h
      repeat' (first | exact trivial | exact rfl | refine And.intro ?_ ?_)
def vc60 (E : Env) (x1 : List (List C)) (x2 : Int) (x3 : Int) (Q : List C → Prop) : Prop :=
  Br (E.bite (E.bite (E.lt x2 1) true (E.lt 8 x2)) true (E.not (E.eq (E.len x1) x2)))
  (Q [.int .i64 17])
  (LoopP1 (fun (i4 : Int) (K5 : (Int) → Prop) =>
    Br (E.lt i4 (E.len x1))
      (((E.le 0 i4) = true) ∧ 
        (Br (E.bite (E.lt (E.gi (E.cell x1 i4 0)) 0) true (E.lt x3 (E.gi (E.cell x1 i4 0))))
        (Q [.int .i64 1])
        (K5 ((E.add .i64 i4 1)))))
      (Q [.int .i64 0]))
    (0))
theorem w60 {P : Program} {tbl : FuncId → List A → List C}  {x1 : List (List C)} {x2 : Int} {x3 : Int} {row : List C} (h : vc60 (stdE P tbl) x1 x2 x3 fun c => c = row) : WPg P tbl rf60 [(false, [.int .i64])] row [.c (.sl [.int .i64] x1), .c (.int .i64 x2), .c (.int .i64 x3)] := by
  refine ⟨?_⟩
  revert h
  generalize hE : stdE P tbl = E
  intro h
  unfold vc60 at h
  cbv
  refine ⟨⟨fun hh => hh⟩, ?_⟩
  refine ⟨⟨fun hh => hh⟩, ?_⟩
  refine ⟨⟨fun hh => hh⟩, ?_⟩
  refine ⟨⟨fun hh => hh⟩, ?_⟩
  refine ⟨⟨fun hh => hh⟩, ?_⟩
  refine ⟨⟨fun hh => hh⟩, ?_⟩
  refine ⟨fun hb6 => ?_, fun hb6 => ?_⟩
  · replace h := h.t hb6
    have h : _ = row := h
    subst h
    repeat' (first | exact trivial | exact rfl | refine And.intro ?_ ?_)
  · replace h := h.f hb6
    obtain ⟨I, μ, h0, hI⟩ := h
    refine LoopW.inv (fun R R' s h k => RCode.wp_mono _ R R' s h k) (fun p : Int => (fun (i4 : Int) => (⟨[.c (.sl [.int .i64] x1), .u, .c (.int .i64 x3), .u, .u, .u, .u, .c (.int .i64 i4), .u, .u, .u, .u, .u, .u, .u, .u, .u, .u, .u, .u, .u, .u, .u, .u, .u, .u, .u, .u, .u, .u, .u, .u, .u, .u, .u, .u, .u, .u, .u], []⟩ : St)) p) (fun p => I p) (fun p => μ p) _ h0 ?_ ?_
    · refine GSt.ren [] rfl rfl rfl (fun i hi => absurd hi (Nat.not_lt_zero i)) (Nat.zero_le _) ?_ ?_
      all_goals (repeat' (first | exact trivial | exact Or.inl rfl | exact Or.inr rfl | refine And.intro ?_ ?_))
    · rintro i4 h
      replace h := hI i4 h
      cbv
      refine ⟨fun hb7 => ?_, fun hb7 => ?_⟩
      · replace h := h.t hb7
        have c8 := h.1
        refine ⟨c8, ?_⟩
        replace h := h.2
        refine ⟨hb7, ?_⟩
        refine ⟨⟨fun hh => hh⟩, ?_⟩
        refine ⟨⟨fun hh => hh⟩, ?_⟩
        refine ⟨⟨fun _ => c8⟩, ?_⟩
        refine ⟨⟨fun _ => hb7⟩, ?_⟩
        refine ⟨⟨fun hh => hh⟩, ?_⟩
        refine ⟨⟨fun hh => hh⟩, ?_⟩
        refine ⟨⟨fun hh => hh⟩, ?_⟩
        refine ⟨⟨fun hh => hh⟩, ?_⟩
        refine ⟨fun hb9 => ?_, fun hb9 => ?_⟩
        · replace h := h.t hb9
          have h : _ = row := h
          subst h
          repeat' (first | exact trivial | exact rfl | refine And.intro ?_ ?_)
        · replace h := h.f hb9
          refine ⟨_, h.1, GSt.ren [] rfl rfl rfl (fun i hi => absurd hi (Nat.not_lt_zero i)) (Nat.zero_le _) ?_ ?_, h.2⟩
          all_goals (repeat' (first | exact trivial | exact Or.inl rfl | exact Or.inr rfl | refine And.intro ?_ ?_))
      · replace h := h.f hb7
        have h : _ = row := h
        subst h
        repeat' (first | exact trivial | exact rfl | refine And.intro ?_ ?_)
def vc61 (E : Env) (x1 : List (List C)) (Q : List C → Prop) : Prop :=
  LoopP2 (fun (i2 : Int) (i3 : Int) (K4 : (Int) → (Int) → Prop) =>
  Br (E.lt i3 (E.len x1))
    (((E.le 0 i3) = true) ∧ 
      (K4 ((E.add .i64 i2 (E.gi (E.cell x1 i3 0)))) ((E.add .i64 i3 1))))
    (Q [.int .i64 i2]))
  (0) (0)
theorem w61 {P : Program} {tbl : FuncId → List A → List C}  {x1 : List (List C)} {row : List C} (h : vc61 (stdE P tbl) x1 fun c => c = row) : WPg P tbl rf61 [(false, [.int .i64])] row [.c (.sl [.int .i64] x1)] := by
  refine ⟨?_⟩
  revert h
  generalize hE : stdE P tbl = E
  intro h
  unfold vc61 at h
  cbv
  obtain ⟨I, μ, h0, hI⟩ := h
  refine LoopW.inv (fun R R' s h k => RCode.wp_mono _ R R' s h k) (fun p : Int × Int => (fun (i2 : Int) (i3 : Int) => (⟨[.c (.sl [.int .i64] x1), .u, .u, .c (.int .i64 i2), .c (.int .i64 i3), .u, .u, .u, .u, .u, .u, .u, .u, .u, .u, .u, .u, .u], []⟩ : St)) p.1 p.2) (fun p => I p.1 p.2) (fun p => μ p.1 p.2) (_, _) h0 ?_ ?_
  · refine GSt.ren [] rfl rfl rfl (fun i hi => absurd hi (Nat.not_lt_zero i)) (Nat.zero_le _) ?_ ?_
    all_goals (repeat' (first | exact trivial | exact Or.inl rfl | exact Or.inr rfl | refine And.intro ?_ ?_))
  · rintro ⟨i2, i3⟩ h
    replace h := hI i2 i3 h
    cbv
    refine ⟨fun hb5 => ?_, fun hb5 => ?_⟩
    · replace h := h.t hb5
      have c6 := h.1
      refine ⟨c6, ?_⟩
      replace h := h.2
      refine ⟨hb5, ?_⟩
      refine ⟨(_, _), h.1, GSt.ren [] rfl rfl rfl (fun i hi => absurd hi (Nat.not_lt_zero i)) (Nat.zero_le _) ?_ ?_, h.2⟩
      all_goals (repeat' (first | exact trivial | exact Or.inl rfl | exact Or.inr rfl | refine And.intro ?_ ?_))
    · replace h := h.f hb5
      have h : _ = row := h
      subst h
      repeat' (first | exact trivial | exact rfl | refine And.intro ?_ ?_)
def vc3 (E : Env) (x1 : List (List C)) (x2 : Int) (Q : List C → Prop) : Prop :=
  (E.pok 10 [(false, [.bool])] [.c (.sl [.str, .int .i64, .int .i64, .int .i64, .int .i64, .int .i64, .sl [.int .i64], .int .i64] x1)]) ∧ (∀ r3 : Nat → C, r3 = E.res 10 [.c (.sl [.str, .int .i64, .int .i64, .int .i64, .int .i64, .int .i64, .sl [.int .i64], .int .i64] x1)] → 
  ((Imp (E.not (E.gb (r3 0))) (E.pok 11 [(false, [.bool])] [])) ∧ (∀ r4 : Nat → C, r4 = E.res 11 [] → 
  ((∀ r5 : Nat → C, r5 = E.res 10 [.c (.sl [.str, .int .i64, .int .i64, .int .i64, .int .i64, .int .i64, .sl [.int .i64], .int .i64] x1)] → 
  ((Imp (E.and (E.not (E.bite (E.not (E.gb (r3 0))) (E.gb (r4 0)) false)) (E.gb (r5 0))) (E.pok 12 [(false, [.int .i64])] [.c (.sl [.str, .int .i64, .int .i64, .int .i64, .int .i64, .int .i64, .sl [.int .i64], .int .i64] x1), .c (.int .i64 x2)])) ∧ (∀ r6 : Nat → C, r6 = E.res 12 [.c (.sl [.str, .int .i64, .int .i64, .int .i64, .int .i64, .int .i64, .sl [.int .i64], .int .i64] x1), .c (.int .i64 x2)] → 
  ((Imp (E.and (E.not (E.bite (E.not (E.gb (r3 0))) (E.gb (r4 0)) false)) (E.gb (r5 0))) (E.pok 13 [(false, [.int .i64])] [.c (.sl [.str, .int .i64, .int .i64, .int .i64, .int .i64, .int .i64, .sl [.int .i64], .int .i64] x1), .c (.int .i64 x2)])) ∧ (∀ r7 : Nat → C, r7 = E.res 13 [.c (.sl [.str, .int .i64, .int .i64, .int .i64, .int .i64, .int .i64, .sl [.int .i64], .int .i64] x1), .c (.int .i64 x2)] → 
  ((Imp (E.not (E.bite (E.not (E.gb (r3 0))) (E.gb (r4 0)) false)) (Imp (E.gb (r5 0)) ((E.and (E.not (E.bite (E.not (E.gb (r3 0))) (E.gb (r4 0)) false)) (E.gb (r5 0))) = true))) ∧ 
  ((Imp (E.and (E.not (E.bite (E.not (E.gb (r3 0))) (E.gb (r4 0)) false)) (E.bite (E.gb (r5 0)) (E.eq (E.gi (r6 0)) (E.gi (r7 0))) false)) (E.pok 11 [(false, [.bool])] [])) ∧ (∀ r8 : Nat → C, r8 = E.res 11 [] → 
  ((Imp (E.not (E.bite (E.not (E.gb (r3 0))) (E.gb (r4 0)) false)) (Imp (E.bite (E.gb (r5 0)) (E.eq (E.gi (r6 0)) (E.gi (r7 0))) false) ((E.and (E.not (E.bite (E.not (E.gb (r3 0))) (E.gb (r4 0)) false)) (E.bite (E.gb (r5 0)) (E.eq (E.gi (r6 0)) (E.gi (r7 0))) false)) = true))) ∧ 
  (Q [.bool (E.bite (E.bite (E.not (E.gb (r3 0))) (E.gb (r4 0)) false) true (E.bite (E.bite (E.gb (r5 0)) (E.eq (E.gi (r6 0)) (E.gi (r7 0))) false) (E.gb (r8 0)) false))]))))))))))))))
theorem w3 {P : Program} {tbl : FuncId → List A → List C}  {x1 : List (List C)} {x2 : Int} {row : List C} (h : vc3 (stdE P tbl) x1 x2 fun c => c = row) : WPg P tbl rf3 [(false, [.bool])] row [.c (.sl [.str, .int .i64, .int .i64, .int .i64, .int .i64, .int .i64, .sl [.int .i64], .int .i64] x1), .c (.int .i64 x2)] := by
  refine ⟨?_⟩
  revert h
  generalize hE : stdE P tbl = E
  intro h
  unfold vc3 at h
  cbv
  have c9 := h.1
  refine ⟨c9, ?_⟩
  replace h := h.2 _ rfl
  have c10 := h.1
  refine ⟨c10, ?_⟩
  replace h := h.2 _ rfl
  refine ⟨⟨fun hh => hh⟩, ?_⟩
  refine ⟨⟨fun hh => hh⟩, ?_⟩
  refine ⟨⟨fun _ => c9⟩, ?_⟩
  replace h := h _ rfl
  refine ⟨⟨fun hh => hh⟩, ?_⟩
  refine ⟨⟨fun hh => hh⟩, ?_⟩
  refine ⟨⟨fun hh => hh⟩, ?_⟩
  have c11 := h.1
  refine ⟨c11, ?_⟩
  replace h := h.2 _ rfl
  refine ⟨⟨fun hh => hh⟩, ?_⟩
  refine ⟨⟨fun hh => hh⟩, ?_⟩
  have c12 := h.1
  refine ⟨c12, ?_⟩
  replace h := h.2 _ rfl
  refine ⟨⟨fun hh => hh⟩, ?_⟩
  refine ⟨⟨fun hh => hh⟩, ?_⟩
  refine ⟨⟨fun hh => hh⟩, ?_⟩
  have c13 := h.1
  refine ⟨c13, ?_⟩
  replace h := h.2
  refine ⟨⟨fun hh => hh⟩, ?_⟩
  have c14 := h.1
  refine ⟨c14, ?_⟩
  replace h := h.2 _ rfl
  refine ⟨⟨fun hh => hh⟩, ?_⟩
  have c15 := h.1
  refine ⟨c15, ?_⟩
  replace h := h.2
  refine ⟨⟨fun hh => hh⟩, ?_⟩
  have h : _ = row := h
  subst h
  repeat' (first | exact trivial | exact rfl | refine And.intro ?_ ?_)
def vc4 (E : Env) (x1 : List (List C)) (x2 : ByteArray) (Q : List C → Prop) : Prop :=
  (E.pok 10 [(false, [.bool])] [.c (.sl [.str, .int .i64, .int .i64, .int .i64, .int .i64, .int .i64, .sl [.int .i64], .int .i64] x1)]) ∧ (∀ r3 : Nat → C, r3 = E.res 10 [.c (.sl [.str, .int .i64, .int .i64, .int .i64, .int .i64, .int .i64, .sl [.int .i64], .int .i64] x1)] → 
  (Br (E.bite (E.not (E.gb (r3 0))) true (E.lt 100 (E.slen x2)))
  ((E.pok 11 [(false, [.bool])] []) ∧ (∀ r4 : Nat → C, r4 = E.res 11 [] → 
    (Q [.bool (E.gb (r4 0))])))
  ((E.pok 14 [(false, [.int .i64]), (false, [.bool])] [.c (.sl [.str, .int .i64, .int .i64, .int .i64, .int .i64, .int .i64, .sl [.int .i64], .int .i64] x1), .c (.str x2)]) ∧ (∀ r5 : Nat → C, r5 = E.res 14 [.c (.sl [.str, .int .i64, .int .i64, .int .i64, .int .i64, .int .i64, .sl [.int .i64], .int .i64] x1), .c (.str x2)] → 
    ((E.pok 15 [(false, [.int .i64]), (false, [.bool])] [.c (.sl [.str, .int .i64, .int .i64, .int .i64, .int .i64, .int .i64, .sl [.int .i64], .int .i64] x1), .c (.str x2)]) ∧ (∀ r6 : Nat → C, r6 = E.res 15 [.c (.sl [.str, .int .i64, .int .i64, .int .i64, .int .i64, .int .i64, .sl [.int .i64], .int .i64] x1), .c (.str x2)] → 
    ((Imp (E.bite (E.eq (E.gi (r5 0)) (E.gi (r6 0))) (E.beq (E.gb (r5 1)) (E.gb (r6 1))) false) (E.pok 11 [(false, [.bool])] [])) ∧ (∀ r7 : Nat → C, r7 = E.res 11 [] → 
    (Q [.bool (E.bite (E.bite (E.eq (E.gi (r5 0)) (E.gi (r6 0))) (E.beq (E.gb (r5 1)) (E.gb (r6 1))) false) (E.gb (r7 0)) false)])))))))))
theorem w4 {P : Program} {tbl : FuncId → List A → List C}  {x1 : List (List C)} {x2 : ByteArray} {row : List C} (h : vc4 (stdE P tbl) x1 x2 fun c => c = row) : WPg P tbl rf4 [(false, [.bool])] row [.c (.sl [.str, .int .i64, .int .i64, .int .i64, .int .i64, .int .i64, .sl [.int .i64], .int .i64] x1), .c (.str x2)] := by
  refine ⟨?_⟩
  revert h
  generalize hE : stdE P tbl = E
  intro h
  unfold vc4 at h
  cbv
  have c8 := h.1
  refine ⟨c8, ?_⟩
  replace h := h.2 _ rfl
  refine ⟨⟨fun hh => hh⟩, ?_⟩
  refine ⟨⟨fun hh => hh⟩, ?_⟩
  refine ⟨⟨fun hh => hh⟩, ?_⟩
  refine ⟨fun hb9 => ?_, fun hb9 => ?_⟩
  · replace h := h.t hb9
    have c10 := h.1
    refine ⟨c10, ?_⟩
    replace h := h.2 _ rfl
    have h : _ = row := h
    subst h
    repeat' (first | exact trivial | exact rfl | refine And.intro ?_ ?_)
  · replace h := h.f hb9
    have c11 := h.1
    refine ⟨c11, ?_⟩
    replace h := h.2 _ rfl
    have c12 := h.1
    refine ⟨c12, ?_⟩
    replace h := h.2 _ rfl
    refine ⟨⟨fun hh => hh⟩, ?_⟩
    refine ⟨⟨fun hh => hh⟩, ?_⟩
    refine ⟨⟨fun hh => hh⟩, ?_⟩
    have c13 := h.1
    refine ⟨c13, ?_⟩
    replace h := h.2 _ rfl
    refine ⟨⟨fun hh => hh⟩, ?_⟩
    have h : _ = row := h
    subst h
    repeat' (first | exact trivial | exact rfl | refine And.intro ?_ ?_)
end Go.Proofs.Ytljnpioekbdcaaa.V
