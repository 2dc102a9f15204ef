/- Defects: the walks of their functions (2 of 2). No conditions. -/
import Derived.Test.YtkdapoipnkpbeaaPairs
set_option linter.unusedVariables false
set_option linter.unusedSimpArgs false
namespace Go.Proofs.Ytkdapoipnkpbeaa.V
open Go Go.Eng
set_option maxRecDepth 1000000
set_option maxHeartbeats 1000000
/-- papermill papermillref36.Worst -/
def rf21 : RFn := ⟨(.seq (.ops 0 [⟨(some 2), (.v (.mv (.k (.c (.int .i64 0))))), none, []⟩, ⟨(some 3), (.v (.mv (.k (.c (.int .i64 0))))), none, []⟩]) (.seq (.seq (.ops 0 [⟨(some 7), (.v (.mv (.t 0))), none, []⟩, ⟨(some 8), (.v (.det 14 [⟨false, [(.int .i64)]⟩] [(.t 7)])), none, []⟩, ⟨(some 4), (.v (.mv (.t 8))), none, []⟩]) (.seq (.ops 0 [⟨(some 9), (.v (.mv (.t 4))), none, []⟩, ⟨(some 10), (.v (.bin .neq (.t 9) (.k (.c (.int .i64 0))))), none, []⟩]) (.cond (.t 10) (.seq (.ops 0 [⟨(some 11), (.v (.mv (.t 4))), none, []⟩, ⟨(some 2), (.v (.mv (.k (.c (.int .i64 0))))), none, []⟩, ⟨(some 3), (.v (.mv (.t 11))), none, []⟩]) .ret) .skip))) (.seq (.ops 0 [⟨(some 5), (.v (.mv (.k (.c (.int .i64 0))))), none, []⟩]) (.seq (.seq (.ops 0 [⟨(some 6), (.v (.mv (.k (.c (.int .i64 0))))), none, []⟩]) (.block 0 (.loop (.seq (.seq (.ops 0 [⟨(some 12), (.v (.mv (.t 6))), none, []⟩, ⟨(some 13), (.v (.mv (.t 0))), none, []⟩, ⟨(some 14), (.v (.lenS (.t 13))), none, []⟩, ⟨(some 15), (.v (.bin .lss (.t 12) (.t 14))), none, []⟩]) (.cond (.t 15) .skip (.exit 0))) (.seq (.block 1 (.ops 0 [⟨(some 18), (.v (.mv (.t 5))), none, []⟩, ⟨(some 19), (.v (.mv (.t 0))), none, []⟩, ⟨(some 20), (.v (.mv (.t 6))), none, []⟩, ⟨(some 21), (.v (.ia 6 (.t 19) (.t 20))), none, []⟩, ⟨(some 22), (.v (.fa 5 (.t 21))), none, []⟩, ⟨(some 23), (.v (.ld (.t 22))), none, []⟩, ⟨(some 24), (.v (.max (.t 18) [(.t 23)])), none, []⟩, ⟨(some 5), (.v (.mv (.t 24))), none, []⟩])) (.ops 0 [⟨(some 16), (.v (.mv (.t 6))), none, []⟩, ⟨(some 17), (.v (.bin .add (.t 16) (.k (.c (.int .i64 1))))), none, []⟩, ⟨(some 6), (.v (.mv (.t 17))), none, []⟩])))))) (.seq (.ops 0 [⟨(some 25), (.v (.mv (.t 5))), none, []⟩, ⟨(some 2), (.v (.mv (.t 25))), none, []⟩, ⟨(some 3), (.v (.mv (.k (.c (.int .i64 0))))), none, []⟩]) .ret))))), 26, [(.t 2), (.t 3)]⟩
theorem h21 : fnR Try.prog DD 21 = some rf21 := by kernel_rfl
/-- papermill papermilllaw36.apart -/
def rf25 : RFn := ⟨(.seq (.ops 0 [⟨(some 8), (.v (.mv (.k (.c (.int .i64 0))))), none, []⟩]) (.seq (.ops 0 [⟨(some 9), (.v (.mv (.t 2))), none, []⟩, ⟨(some 10), (.v (.mv (.t 1))), none, []⟩, ⟨(some 11), (.v (.bin .sub (.t 9) (.t 10))), none, []⟩, ⟨(some 12), (.v (.mv (.t 0))), none, []⟩, ⟨(some 13), (.v (.mv (.t 3))), none, []⟩, ⟨(some 14), (.v (.bin .sub (.t 12) (.t 13))), none, []⟩, ⟨(some 15), (.v (.max (.k (.c (.int .i64 0))) [(.t 11), (.t 14)])), none, []⟩, ⟨(some 8), (.v (.mv (.t 15))), none, []⟩]) .ret)), 16, [(.t 8)]⟩
theorem h25 : fnR Try.prog DD 25 = some rf25 := by kernel_rfl
/-- papermill papermilllaw36.DefectMerged -/
def rf6 : RFn := ⟨(.seq (.ops 0 [⟨(some 4), (.v (.mv (.k (.c (.bool false))))), none, []⟩]) (.seq (.seq (.ops 0 [⟨(some 20), (.v (.mv (.t 0))), none, []⟩, ⟨(some 21), (.v (.lenS (.t 20))), none, []⟩, ⟨(some 22), (.v (.bin .gtr (.t 21) (.k (.c (.int .i64 130))))), none, []⟩]) (.cond (.t 22) (.seq (.ops 0 [⟨(some 23), (.v (.det 10 [⟨false, [.bool]⟩] [])), none, []⟩, ⟨(some 4), (.v (.mv (.t 23))), none, []⟩]) .ret) .skip)) (.seq (.ops 0 [⟨(some 25), (.v (.mv (.t 0))), none, []⟩, ⟨(some 26), (.v (.mv (.t 1))), none, []⟩, ⟨(some 27), (.v (.det 11 [⟨false, [(.sl [(.int .i64), (.int .i64), (.int .i64), (.int .i64), (.int .i64), (.int .i64)])]⟩, ⟨false, [(.int .i64)]⟩] [(.t 25), (.t 26)])), none, []⟩, ⟨(some 24), (.v (.mv (.t 27))), none, []⟩, ⟨(some 28), (.v (.ext (.t 24) 0)), none, []⟩, ⟨(some 29), (.v (.ext (.t 24) 1)), none, []⟩, ⟨(some 5), (.v (.mv (.t 28))), none, []⟩, ⟨(some 6), (.v (.mv (.t 29))), none, []⟩]) (.seq (.seq (.ops 0 [⟨(some 30), (.v (.mv (.t 6))), none, []⟩, ⟨(some 31), (.v (.bin .neq (.t 30) (.k (.c (.int .i64 0))))), none, []⟩]) (.cond (.t 31) (.seq (.ops 0 [⟨(some 32), (.v (.mv (.t 5))), none, []⟩, ⟨(some 33), (.v (.lenS (.t 32))), none, []⟩, ⟨(some 34), (.v (.bin .eql (.t 33) (.k (.c (.int .i64 0))))), none, []⟩, ⟨(some 35), (.v (.mv (.t 34))), none, []⟩, ⟨(some 36), (.v (.det 10 [⟨false, [.bool]⟩] [])), (some ⟨35, true⟩), [(.k (.fn 10 []))]⟩, ⟨(some 37), (.v (.pick (.t 35) (.t 36) (.k (.c (.bool false))))), none, []⟩, ⟨(some 4), (.v (.mv (.t 37))), none, []⟩]) .ret) .skip)) (.seq (.seq (.ops 0 [⟨(some 7), (.v (.mv (.k (.c (.int .i64 0))))), none, []⟩]) (.block 0 (.loop (.seq (.seq (.ops 0 [⟨(some 38), (.v (.mv (.t 7))), none, []⟩, ⟨(some 39), (.v (.mv (.t 5))), none, []⟩, ⟨(some 40), (.v (.lenS (.t 39))), none, []⟩, ⟨(some 41), (.v (.bin .lss (.t 38) (.t 40))), none, []⟩]) (.cond (.t 41) .skip (.exit 0))) (.seq (.block 1 (.seq (.ops 0 [⟨(some 8), (.v (.mv (.k (.c (.int .i64 0))))), none, []⟩]) (.block 2 (.loop (.seq (.seq (.ops 0 [⟨(some 44), (.v (.mv (.t 8))), none, []⟩, ⟨(some 45), (.v (.mv (.t 7))), none, []⟩, ⟨(some 46), (.v (.bin .lss (.t 44) (.t 45))), none, []⟩]) (.cond (.t 46) .skip (.exit 2))) (.seq (.block 3 (.seq (.any 2 [⟨0, ⟨[], ⟨(some 49), (.v (.mv (.t 5))), none, []⟩⟩⟩, ⟨1, ⟨[], ⟨(some 50), (.v (.mv (.t 7))), none, []⟩⟩⟩, ⟨2, ⟨[0, 1], ⟨(some 51), (.v (.ia 6 (.t 49) (.t 50))), none, []⟩⟩⟩, ⟨3, ⟨[2, 0, 1], ⟨(some 52), (.v (.fa 0 (.t 51))), none, []⟩⟩⟩, ⟨4, ⟨[3, 2, 0, 1], ⟨(some 53), (.v (.lda 4 (.t 52))), none, []⟩⟩⟩, ⟨5, ⟨[], ⟨(some 54), (.v (.mv (.t 5))), none, []⟩⟩⟩, ⟨6, ⟨[], ⟨(some 55), (.v (.mv (.t 8))), none, []⟩⟩⟩, ⟨7, ⟨[5, 6], ⟨(some 56), (.v (.ia 6 (.t 54) (.t 55))), none, []⟩⟩⟩, ⟨8, ⟨[7, 5, 6], ⟨(some 57), (.v (.fa 0 (.t 56))), none, []⟩⟩⟩, ⟨9, ⟨[8, 7, 5, 6], ⟨(some 58), (.v (.lda 4 (.t 57))), none, []⟩⟩⟩, ⟨10, ⟨[], ⟨(some 9), (.v (.alloc 0 36 [(.c (.int .i64 0)), (.c (.int .i64 0)), (.c (.int .i64 0)), (.c (.int .i64 0))])), none, []⟩⟩⟩, ⟨11, ⟨[], ⟨(some 10), (.v (.alloc 1 36 [(.c (.int .i64 0)), (.c (.int .i64 0)), (.c (.int .i64 0)), (.c (.int .i64 0))])), none, []⟩⟩⟩, ⟨12, ⟨[4, 3, 2, 0, 1, 10, 11], ⟨none, (.v (.st 4 (.t 9) (.t 53))), none, []⟩⟩⟩, ⟨13, ⟨[9, 8, 7, 5, 6, 12, 4, 3, 2, 0, 1, 10, 11], ⟨none, (.v (.st 4 (.t 10) (.t 58))), none, []⟩⟩⟩]) (.seq (.any 0 [⟨0, ⟨[], ⟨(some 59), (.v (.mv (.t 5))), none, []⟩⟩⟩, ⟨1, ⟨[], ⟨(some 60), (.v (.mv (.t 7))), none, []⟩⟩⟩, ⟨2, ⟨[0, 1], ⟨(some 61), (.v (.ia 6 (.t 59) (.t 60))), none, []⟩⟩⟩, ⟨3, ⟨[2, 0, 1], ⟨(some 62), (.v (.fa 4 (.t 61))), none, []⟩⟩⟩, ⟨4, ⟨[3, 2, 0, 1], ⟨(some 63), (.v (.ld (.t 62))), none, []⟩⟩⟩, ⟨5, ⟨[], ⟨(some 64), (.v (.mv (.t 5))), none, []⟩⟩⟩, ⟨6, ⟨[], ⟨(some 65), (.v (.mv (.t 8))), none, []⟩⟩⟩, ⟨7, ⟨[5, 6], ⟨(some 66), (.v (.ia 6 (.t 64) (.t 65))), none, []⟩⟩⟩, ⟨8, ⟨[7, 5, 6], ⟨(some 67), (.v (.fa 4 (.t 66))), none, []⟩⟩⟩, ⟨9, ⟨[8, 7, 5, 6], ⟨(some 68), (.v (.ld (.t 67))), none, []⟩⟩⟩, ⟨10, ⟨[4, 3, 2, 0, 1, 9, 8, 7, 5, 6], ⟨(some 69), (.v (.bin .eql (.t 63) (.t 68))), none, []⟩⟩⟩, ⟨11, ⟨[10, 4, 3, 2, 0, 1, 9, 8, 7, 5, 6], ⟨(some 70), (.v (.mv (.t 69))), none, []⟩⟩⟩, ⟨12, ⟨[11, 10, 4, 3, 2, 0, 1, 9, 8, 7, 5, 6], ⟨(some 71), (.v (.fa 0 (.t 9))), (some ⟨70, true⟩), [(.t 9)]⟩⟩⟩, ⟨13, ⟨[12, 11, 10, 4, 3, 2, 0, 1, 9, 8, 7, 5, 6], ⟨(some 72), (.v (.ld (.t 71))), (some ⟨70, true⟩), [(.t 71)]⟩⟩⟩, ⟨14, ⟨[11, 10, 4, 3, 2, 0, 1, 9, 8, 7, 5, 6], ⟨(some 73), (.v (.fa 1 (.t 9))), (some ⟨70, true⟩), [(.t 9)]⟩⟩⟩, ⟨15, ⟨[14, 11, 10, 4, 3, 2, 0, 1, 9, 8, 7, 5, 6], ⟨(some 74), (.v (.ld (.t 73))), (some ⟨70, true⟩), [(.t 73)]⟩⟩⟩, ⟨16, ⟨[11, 10, 4, 3, 2, 0, 1, 9, 8, 7, 5, 6], ⟨(some 75), (.v (.fa 0 (.t 10))), (some ⟨70, true⟩), [(.t 10)]⟩⟩⟩, ⟨17, ⟨[16, 11, 10, 4, 3, 2, 0, 1, 9, 8, 7, 5, 6], ⟨(some 76), (.v (.ld (.t 75))), (some ⟨70, true⟩), [(.t 75)]⟩⟩⟩, ⟨18, ⟨[11, 10, 4, 3, 2, 0, 1, 9, 8, 7, 5, 6], ⟨(some 77), (.v (.fa 1 (.t 10))), (some ⟨70, true⟩), [(.t 10)]⟩⟩⟩, ⟨19, ⟨[18, 11, 10, 4, 3, 2, 0, 1, 9, 8, 7, 5, 6], ⟨(some 78), (.v (.ld (.t 77))), (some ⟨70, true⟩), [(.t 77)]⟩⟩⟩, ⟨20, ⟨[13, 12, 15, 14, 17, 16, 19, 18, 11, 10, 4, 3, 2, 0, 1, 9, 8, 7, 5, 6], ⟨(some 79), (.v (.det 25 [⟨false, [(.int .i64)]⟩] [(.t 72), (.t 74), (.t 76), (.t 78)])), (some ⟨70, true⟩), [(.k (.fn 25 [])), (.t 72), (.t 74), (.t 76), (.t 78)]⟩⟩⟩, ⟨21, ⟨[11, 10, 4, 3, 2, 0, 1, 9, 8, 7, 5, 6], ⟨(some 80), (.v (.mv (.t 1))), (some ⟨70, true⟩), [(.t 1)]⟩⟩⟩, ⟨22, ⟨[20, 13, 12, 15, 14, 17, 16, 19, 18, 21, 11, 10, 4, 3, 2, 0, 1, 9, 8, 7, 5, 6], ⟨(some 81), (.v (.bin .leq (.t 79) (.t 80))), (some ⟨70, true⟩), [(.t 79), (.t 80)]⟩⟩⟩, ⟨23, ⟨[22, 20, 13, 12, 15, 14, 17, 16, 19, 18, 21, 11, 10, 4, 3, 2, 0, 1, 9, 8, 7, 5, 6], ⟨(some 82), (.v (.pick (.t 70) (.t 81) (.k (.c (.bool false))))), none, []⟩⟩⟩, ⟨24, ⟨[23, 22, 21, 20, 13, 12, 15, 14, 17, 16, 19, 18, 11, 10, 4, 3, 2, 0, 1, 9, 8, 7, 5, 6], ⟨(some 83), (.v (.mv (.t 82))), none, []⟩⟩⟩, ⟨25, ⟨[24, 23, 22, 21, 20, 13, 12, 15, 14, 17, 16, 19, 18, 11, 10, 4, 3, 2, 0, 1, 9, 8, 7, 5, 6], ⟨(some 84), (.v (.fa 2 (.t 9))), (some ⟨83, true⟩), [(.t 9)]⟩⟩⟩, ⟨26, ⟨[25, 24, 23, 22, 21, 20, 13, 12, 15, 14, 17, 16, 19, 18, 11, 10, 4, 3, 2, 0, 1, 9, 8, 7, 5, 6], ⟨(some 85), (.v (.ld (.t 84))), (some ⟨83, true⟩), [(.t 84)]⟩⟩⟩, ⟨27, ⟨[24, 23, 22, 21, 20, 13, 12, 15, 14, 17, 16, 19, 18, 11, 10, 4, 3, 2, 0, 1, 9, 8, 7, 5, 6], ⟨(some 86), (.v (.fa 3 (.t 9))), (some ⟨83, true⟩), [(.t 9)]⟩⟩⟩, ⟨28, ⟨[27, 24, 23, 22, 21, 20, 13, 12, 15, 14, 17, 16, 19, 18, 11, 10, 4, 3, 2, 0, 1, 9, 8, 7, 5, 6], ⟨(some 87), (.v (.ld (.t 86))), (some ⟨83, true⟩), [(.t 86)]⟩⟩⟩, ⟨29, ⟨[24, 23, 22, 21, 20, 13, 12, 15, 14, 17, 16, 19, 18, 11, 10, 4, 3, 2, 0, 1, 9, 8, 7, 5, 6], ⟨(some 88), (.v (.fa 2 (.t 10))), (some ⟨83, true⟩), [(.t 10)]⟩⟩⟩, ⟨30, ⟨[29, 24, 23, 22, 21, 20, 13, 12, 15, 14, 17, 16, 19, 18, 11, 10, 4, 3, 2, 0, 1, 9, 8, 7, 5, 6], ⟨(some 89), (.v (.ld (.t 88))), (some ⟨83, true⟩), [(.t 88)]⟩⟩⟩, ⟨31, ⟨[24, 23, 22, 21, 20, 13, 12, 15, 14, 17, 16, 19, 18, 11, 10, 4, 3, 2, 0, 1, 9, 8, 7, 5, 6], ⟨(some 90), (.v (.fa 3 (.t 10))), (some ⟨83, true⟩), [(.t 10)]⟩⟩⟩, ⟨32, ⟨[31, 24, 23, 22, 21, 20, 13, 12, 15, 14, 17, 16, 19, 18, 11, 10, 4, 3, 2, 0, 1, 9, 8, 7, 5, 6], ⟨(some 91), (.v (.ld (.t 90))), (some ⟨83, true⟩), [(.t 90)]⟩⟩⟩, ⟨33, ⟨[26, 25, 28, 27, 30, 29, 32, 31, 24, 23, 22, 21, 20, 13, 12, 15, 14, 17, 16, 19, 18, 11, 10, 4, 3, 2, 0, 1, 9, 8, 7, 5, 6], ⟨(some 92), (.v (.det 25 [⟨false, [(.int .i64)]⟩] [(.t 85), (.t 87), (.t 89), (.t 91)])), (some ⟨83, true⟩), [(.k (.fn 25 [])), (.t 85), (.t 87), (.t 89), (.t 91)]⟩⟩⟩, ⟨34, ⟨[24, 23, 22, 21, 20, 13, 12, 15, 14, 17, 16, 19, 18, 11, 10, 4, 3, 2, 0, 1, 9, 8, 7, 5, 6], ⟨(some 93), (.v (.mv (.t 1))), (some ⟨83, true⟩), [(.t 1)]⟩⟩⟩, ⟨35, ⟨[33, 26, 25, 28, 27, 30, 29, 32, 31, 34, 24, 23, 22, 21, 20, 13, 12, 15, 14, 17, 16, 19, 18, 11, 10, 4, 3, 2, 0, 1, 9, 8, 7, 5, 6], ⟨(some 94), (.v (.bin .leq (.t 92) (.t 93))), (some ⟨83, true⟩), [(.t 92), (.t 93)]⟩⟩⟩, ⟨36, ⟨[35, 33, 26, 25, 28, 27, 30, 29, 32, 31, 34, 24, 23, 22, 21, 20, 13, 12, 15, 14, 17, 16, 19, 18, 11, 10, 4, 3, 2, 0, 1, 9, 8, 7, 5, 6], ⟨(some 95), (.v (.pick (.t 83) (.t 94) (.k (.c (.bool false))))), none, []⟩⟩⟩]) (.cond (.t 95) (.seq (.ops 0 [⟨(some 4), (.v (.mv (.k (.c (.bool false))))), none, []⟩]) .ret) .skip)))) (.ops 0 [⟨(some 47), (.v (.mv (.t 8))), none, []⟩, ⟨(some 48), (.v (.bin .add (.t 47) (.k (.c (.int .i64 1))))), none, []⟩, ⟨(some 8), (.v (.mv (.t 48))), none, []⟩]))))))) (.ops 0 [⟨(some 42), (.v (.mv (.t 7))), none, []⟩, ⟨(some 43), (.v (.bin .add (.t 42) (.k (.c (.int .i64 1))))), none, []⟩, ⟨(some 7), (.v (.mv (.t 43))), none, []⟩])))))) (.seq (.seq (.ops 0 [⟨(some 11), (.v (.mv (.k (.c (.int .i64 0))))), none, []⟩]) (.block 4 (.loop (.seq (.seq (.ops 0 [⟨(some 96), (.v (.mv (.t 11))), none, []⟩, ⟨(some 97), (.v (.mv (.t 0))), none, []⟩, ⟨(some 98), (.v (.lenS (.t 97))), none, []⟩, ⟨(some 99), (.v (.bin .lss (.t 96) (.t 98))), none, []⟩]) (.cond (.t 99) .skip (.exit 4))) (.seq (.block 5 (.seq (.ops 0 [⟨(some 12), (.v (.mv (.k (.c (.bool false))))), none, []⟩]) (.seq (.seq (.ops 0 [⟨(some 13), (.v (.mv (.k (.c (.int .i64 0))))), none, []⟩]) (.block 6 (.loop (.seq (.seq (.ops 0 [⟨(some 102), (.v (.mv (.t 13))), none, []⟩, ⟨(some 103), (.v (.mv (.t 5))), none, []⟩, ⟨(some 104), (.v (.lenS (.t 103))), none, []⟩, ⟨(some 105), (.v (.bin .lss (.t 102) (.t 104))), none, []⟩]) (.cond (.t 105) .skip (.exit 6))) (.seq (.block 7 (.any 0 [⟨0, ⟨[], ⟨(some 108), (.v (.mv (.t 12))), none, []⟩⟩⟩, ⟨1, ⟨[0], ⟨(some 109), (.v (.mv (.t 108))), none, []⟩⟩⟩, ⟨2, ⟨[1, 0], ⟨(some 110), (.v (.mv (.t 5))), (some ⟨109, false⟩), [(.t 5)]⟩⟩⟩, ⟨3, ⟨[1, 0], ⟨(some 111), (.v (.mv (.t 13))), (some ⟨109, false⟩), [(.t 13)]⟩⟩⟩, ⟨4, ⟨[2, 3, 1, 0], ⟨(some 112), (.v (.ia 6 (.t 110) (.t 111))), (some ⟨109, false⟩), [(.t 110), (.t 111)]⟩⟩⟩, ⟨5, ⟨[4, 2, 3, 1, 0], ⟨(some 113), (.v (.fa 4 (.t 112))), (some ⟨109, false⟩), [(.t 112)]⟩⟩⟩, ⟨6, ⟨[5, 4, 2, 3, 1, 0], ⟨(some 114), (.v (.ld (.t 113))), (some ⟨109, false⟩), [(.t 113)]⟩⟩⟩, ⟨7, ⟨[1, 0], ⟨(some 115), (.v (.mv (.t 0))), (some ⟨109, false⟩), [(.t 0)]⟩⟩⟩, ⟨8, ⟨[1, 0], ⟨(some 116), (.v (.mv (.t 11))), (some ⟨109, false⟩), [(.t 11)]⟩⟩⟩, ⟨9, ⟨[7, 8, 1, 0], ⟨(some 117), (.v (.ia 6 (.t 115) (.t 116))), (some ⟨109, false⟩), [(.t 115), (.t 116)]⟩⟩⟩, ⟨10, ⟨[9, 7, 8, 1, 0], ⟨(some 118), (.v (.fa 4 (.t 117))), (some ⟨109, false⟩), [(.t 117)]⟩⟩⟩, ⟨11, ⟨[10, 9, 7, 8, 1, 0], ⟨(some 119), (.v (.ld (.t 118))), (some ⟨109, false⟩), [(.t 118)]⟩⟩⟩, ⟨12, ⟨[6, 5, 4, 2, 3, 11, 10, 9, 7, 8, 1, 0], ⟨(some 120), (.v (.bin .eql (.t 114) (.t 119))), (some ⟨109, false⟩), [(.t 114), (.t 119)]⟩⟩⟩, ⟨13, ⟨[12, 6, 5, 4, 2, 3, 11, 10, 9, 7, 8, 1, 0], ⟨(some 121), (.v (.mv (.t 120))), (some ⟨109, false⟩), [(.t 120)]⟩⟩⟩, ⟨14, ⟨[13, 12, 6, 5, 4, 2, 3, 11, 10, 9, 7, 8, 1, 0], ⟨(some 122), (.v (.mv (.t 5))), (some ⟨121, true⟩), [(.t 5)]⟩⟩⟩, ⟨15, ⟨[13, 12, 6, 5, 4, 2, 3, 11, 10, 9, 7, 8, 1, 0], ⟨(some 123), (.v (.mv (.t 13))), (some ⟨121, true⟩), [(.t 13)]⟩⟩⟩, ⟨16, ⟨[14, 15, 13, 12, 6, 5, 4, 2, 3, 11, 10, 9, 7, 8, 1, 0], ⟨(some 124), (.v (.ia 6 (.t 122) (.t 123))), (some ⟨121, true⟩), [(.t 122), (.t 123)]⟩⟩⟩, ⟨17, ⟨[16, 14, 15, 13, 12, 6, 5, 4, 2, 3, 11, 10, 9, 7, 8, 1, 0], ⟨(some 125), (.v (.fa 5 (.t 124))), (some ⟨121, true⟩), [(.t 124)]⟩⟩⟩, ⟨18, ⟨[17, 16, 14, 15, 13, 12, 6, 5, 4, 2, 3, 11, 10, 9, 7, 8, 1, 0], ⟨(some 126), (.v (.ld (.t 125))), (some ⟨121, true⟩), [(.t 125)]⟩⟩⟩, ⟨19, ⟨[13, 12, 6, 5, 4, 2, 3, 11, 10, 9, 7, 8, 1, 0], ⟨(some 127), (.v (.mv (.t 0))), (some ⟨121, true⟩), [(.t 0)]⟩⟩⟩, ⟨20, ⟨[13, 12, 6, 5, 4, 2, 3, 11, 10, 9, 7, 8, 1, 0], ⟨(some 128), (.v (.mv (.t 11))), (some ⟨121, true⟩), [(.t 11)]⟩⟩⟩, ⟨21, ⟨[19, 20, 13, 12, 6, 5, 4, 2, 3, 11, 10, 9, 7, 8, 1, 0], ⟨(some 129), (.v (.ia 6 (.t 127) (.t 128))), (some ⟨121, true⟩), [(.t 127), (.t 128)]⟩⟩⟩, ⟨22, ⟨[21, 19, 20, 13, 12, 6, 5, 4, 2, 3, 11, 10, 9, 7, 8, 1, 0], ⟨(some 130), (.v (.fa 5 (.t 129))), (some ⟨121, true⟩), [(.t 129)]⟩⟩⟩, ⟨23, ⟨[22, 21, 19, 20, 13, 12, 6, 5, 4, 2, 3, 11, 10, 9, 7, 8, 1, 0], ⟨(some 131), (.v (.ld (.t 130))), (some ⟨121, true⟩), [(.t 130)]⟩⟩⟩, ⟨24, ⟨[18, 17, 16, 14, 15, 23, 22, 21, 19, 20, 13, 12, 6, 5, 4, 2, 3, 11, 10, 9, 7, 8, 1, 0], ⟨(some 132), (.v (.bin .geq (.t 126) (.t 131))), (some ⟨121, true⟩), [(.t 126), (.t 131)]⟩⟩⟩, ⟨25, ⟨[24, 18, 17, 16, 14, 15, 23, 22, 21, 19, 20, 13, 12, 6, 5, 4, 2, 3, 11, 10, 9, 7, 8, 1, 0], ⟨(some 133), (.v (.pick (.t 121) (.t 132) (.k (.c (.bool false))))), (some ⟨109, false⟩), [(.t 121), (.t 132), (.k (.c (.bool false)))]⟩⟩⟩, ⟨26, ⟨[25, 24, 18, 17, 16, 14, 15, 23, 22, 21, 19, 20, 13, 12, 6, 5, 4, 2, 3, 11, 10, 9, 7, 8, 1, 0], ⟨(some 134), (.v (.mv (.t 133))), (some ⟨109, false⟩), [(.t 133)]⟩⟩⟩, ⟨27, ⟨[26, 25, 24, 18, 17, 16, 14, 15, 23, 22, 21, 19, 20, 13, 12, 6, 5, 4, 2, 3, 11, 10, 9, 7, 8, 1, 0], ⟨(some 135), (.v (.mv (.t 0))), (some ⟨134, true⟩), [(.t 0)]⟩⟩⟩, ⟨28, ⟨[26, 25, 24, 18, 17, 16, 14, 15, 23, 22, 21, 19, 20, 13, 12, 6, 5, 4, 2, 3, 11, 10, 9, 7, 8, 1, 0], ⟨(some 136), (.v (.mv (.t 11))), (some ⟨134, true⟩), [(.t 11)]⟩⟩⟩, ⟨29, ⟨[27, 28, 26, 25, 24, 18, 17, 16, 14, 15, 23, 22, 21, 19, 20, 13, 12, 6, 5, 4, 2, 3, 11, 10, 9, 7, 8, 1, 0], ⟨(some 137), (.v (.ia 6 (.t 135) (.t 136))), (some ⟨134, true⟩), [(.t 135), (.t 136)]⟩⟩⟩, ⟨30, ⟨[29, 27, 28, 26, 25, 24, 18, 17, 16, 14, 15, 23, 22, 21, 19, 20, 13, 12, 6, 5, 4, 2, 3, 11, 10, 9, 7, 8, 1, 0], ⟨(some 138), (.v (.fa 0 (.t 137))), (some ⟨134, true⟩), [(.t 137)]⟩⟩⟩, ⟨31, ⟨[30, 29, 27, 28, 26, 25, 24, 18, 17, 16, 14, 15, 23, 22, 21, 19, 20, 13, 12, 6, 5, 4, 2, 3, 11, 10, 9, 7, 8, 1, 0], ⟨(some 139), (.v (.lda 4 (.t 138))), (some ⟨134, true⟩), [(.t 138)]⟩⟩⟩, ⟨32, ⟨[26, 25, 24, 18, 17, 16, 14, 15, 23, 22, 21, 19, 20, 13, 12, 6, 5, 4, 2, 3, 11, 10, 9, 7, 8, 1, 0], ⟨(some 140), (.v (.mv (.t 5))), (some ⟨134, true⟩), [(.t 5)]⟩⟩⟩, ⟨33, ⟨[26, 25, 24, 18, 17, 16, 14, 15, 23, 22, 21, 19, 20, 13, 12, 6, 5, 4, 2, 3, 11, 10, 9, 7, 8, 1, 0], ⟨(some 141), (.v (.mv (.t 13))), (some ⟨134, true⟩), [(.t 13)]⟩⟩⟩, ⟨34, ⟨[32, 33, 26, 25, 24, 18, 17, 16, 14, 15, 23, 22, 21, 19, 20, 13, 12, 6, 5, 4, 2, 3, 11, 10, 9, 7, 8, 1, 0], ⟨(some 142), (.v (.ia 6 (.t 140) (.t 141))), (some ⟨134, true⟩), [(.t 140), (.t 141)]⟩⟩⟩, ⟨35, ⟨[34, 32, 33, 26, 25, 24, 18, 17, 16, 14, 15, 23, 22, 21, 19, 20, 13, 12, 6, 5, 4, 2, 3, 11, 10, 9, 7, 8, 1, 0], ⟨(some 143), (.v (.fa 0 (.t 142))), (some ⟨134, true⟩), [(.t 142)]⟩⟩⟩, ⟨36, ⟨[35, 34, 32, 33, 26, 25, 24, 18, 17, 16, 14, 15, 23, 22, 21, 19, 20, 13, 12, 6, 5, 4, 2, 3, 11, 10, 9, 7, 8, 1, 0], ⟨(some 144), (.v (.lda 4 (.t 143))), (some ⟨134, true⟩), [(.t 143)]⟩⟩⟩, ⟨37, ⟨[31, 30, 29, 27, 28, 36, 35, 34, 32, 33, 26, 25, 24, 18, 17, 16, 14, 15, 23, 22, 21, 19, 20, 13, 12, 6, 5, 4, 2, 3, 11, 10, 9, 7, 8, 1, 0], ⟨(some 145), (.v (.det 26 [⟨false, [.bool]⟩] [(.t 139), (.t 144)])), (some ⟨134, true⟩), [(.k (.fn 26 [])), (.t 139), (.t 144)]⟩⟩⟩, ⟨38, ⟨[37, 31, 30, 29, 27, 28, 36, 35, 34, 32, 33, 26, 25, 24, 18, 17, 16, 14, 15, 23, 22, 21, 19, 20, 13, 12, 6, 5, 4, 2, 3, 11, 10, 9, 7, 8, 1, 0], ⟨(some 146), (.v (.pick (.t 134) (.t 145) (.k (.c (.bool false))))), (some ⟨109, false⟩), [(.t 134), (.t 145), (.k (.c (.bool false)))]⟩⟩⟩, ⟨39, ⟨[38, 37, 31, 30, 29, 27, 28, 36, 35, 34, 32, 33, 26, 25, 24, 18, 17, 16, 14, 15, 23, 22, 21, 19, 20, 13, 12, 6, 5, 4, 2, 3, 11, 10, 9, 7, 8, 1, 0], ⟨(some 147), (.v (.pick (.t 109) (.k (.c (.bool true))) (.t 146))), none, []⟩⟩⟩, ⟨40, ⟨[39, 38, 37, 31, 30, 29, 27, 28, 36, 35, 34, 32, 33, 26, 25, 24, 18, 17, 16, 14, 15, 23, 22, 21, 19, 20, 13, 12, 6, 5, 4, 2, 3, 11, 10, 9, 7, 8, 1, 0], ⟨(some 12), (.v (.mv (.t 147))), none, []⟩⟩⟩])) (.ops 0 [⟨(some 106), (.v (.mv (.t 13))), none, []⟩, ⟨(some 107), (.v (.bin .add (.t 106) (.k (.c (.int .i64 1))))), none, []⟩, ⟨(some 13), (.v (.mv (.t 107))), none, []⟩])))))) (.seq (.ops 0 [⟨(some 148), (.v (.mv (.t 12))), none, []⟩, ⟨(some 149), (.v (.un .not (.t 148))), none, []⟩]) (.cond (.t 149) (.seq (.ops 0 [⟨(some 4), (.v (.mv (.k (.c (.bool false))))), none, []⟩]) .ret) .skip))))) (.ops 0 [⟨(some 100), (.v (.mv (.t 11))), none, []⟩, ⟨(some 101), (.v (.bin .add (.t 100) (.k (.c (.int .i64 1))))), none, []⟩, ⟨(some 11), (.v (.mv (.t 101))), none, []⟩])))))) (.seq (.ops 0 [⟨(some 151), (.v (.mv (.t 5))), none, []⟩, ⟨(some 152), (.v (.mv (.t 1))), none, []⟩, ⟨(some 153), (.v (.det 11 [⟨false, [(.sl [(.int .i64), (.int .i64), (.int .i64), (.int .i64), (.int .i64), (.int .i64)])]⟩, ⟨false, [(.int .i64)]⟩] [(.t 151), (.t 152)])), none, []⟩, ⟨(some 150), (.v (.mv (.t 153))), none, []⟩, ⟨(some 154), (.v (.ext (.t 150) 0)), none, []⟩, ⟨(some 155), (.v (.ext (.t 150) 1)), none, []⟩, ⟨(some 14), (.v (.mv (.t 154))), none, []⟩, ⟨(some 15), (.v (.mv (.t 155))), none, []⟩]) (.seq (.ops 0 [⟨(some 157), (.v (.mv (.t 0))), none, []⟩, ⟨(some 158), (.v (.det 20 [⟨false, [(.int .i64)]⟩, ⟨false, [(.int .i64)]⟩] [(.t 157)])), none, []⟩, ⟨(some 156), (.v (.mv (.t 158))), none, []⟩, ⟨(some 159), (.v (.ext (.t 156) 0)), none, []⟩, ⟨(some 160), (.v (.ext (.t 156) 1)), none, []⟩, ⟨(some 16), (.v (.mv (.t 159))), none, []⟩, ⟨(some 17), (.v (.mv (.t 160))), none, []⟩]) (.seq (.ops 0 [⟨(some 162), (.v (.mv (.t 5))), none, []⟩, ⟨(some 163), (.v (.det 20 [⟨false, [(.int .i64)]⟩, ⟨false, [(.int .i64)]⟩] [(.t 162)])), none, []⟩, ⟨(some 161), (.v (.mv (.t 163))), none, []⟩, ⟨(some 164), (.v (.ext (.t 161) 0)), none, []⟩, ⟨(some 165), (.v (.ext (.t 161) 1)), none, []⟩, ⟨(some 18), (.v (.mv (.t 164))), none, []⟩, ⟨(some 19), (.v (.mv (.t 165))), none, []⟩]) (.seq (.ops 0 [⟨(some 166), (.v (.mv (.t 5))), none, []⟩, ⟨(some 167), (.v (.lenS (.t 166))), none, []⟩, ⟨(some 168), (.v (.mv (.t 0))), none, []⟩, ⟨(some 169), (.v (.lenS (.t 168))), none, []⟩, ⟨(some 170), (.v (.bin .leq (.t 167) (.t 169))), none, []⟩, ⟨(some 171), (.v (.mv (.t 170))), none, []⟩, ⟨(some 172), (.v (.mv (.t 15))), (some ⟨171, true⟩), [(.t 15)]⟩, ⟨(some 173), (.v (.bin .eql (.t 172) (.k (.c (.int .i64 0))))), (some ⟨171, true⟩), [(.t 172), (.k (.c (.int .i64 0)))]⟩, ⟨(some 174), (.v (.pick (.t 171) (.t 173) (.k (.c (.bool false))))), none, []⟩, ⟨(some 175), (.v (.mv (.t 174))), none, []⟩, ⟨(some 176), (.v (.mv (.t 14))), (some ⟨175, true⟩), [(.t 14)]⟩, ⟨(some 177), (.v (.mv (.t 5))), (some ⟨175, true⟩), [(.t 5)]⟩, ⟨(some 178), (.v (.det 15 [⟨false, [.bool]⟩] [(.t 176), (.t 177)])), (some ⟨175, true⟩), [(.k (.fn 15 [])), (.t 176), (.t 177)]⟩, ⟨(some 179), (.v (.pick (.t 175) (.t 178) (.k (.c (.bool false))))), none, []⟩, ⟨(some 180), (.v (.mv (.t 179))), none, []⟩, ⟨(some 181), (.v (.mv (.t 17))), (some ⟨180, true⟩), [(.t 17)]⟩, ⟨(some 182), (.v (.bin .eql (.t 181) (.k (.c (.int .i64 0))))), (some ⟨180, true⟩), [(.t 181), (.k (.c (.int .i64 0)))]⟩, ⟨(some 183), (.v (.pick (.t 180) (.t 182) (.k (.c (.bool false))))), none, []⟩, ⟨(some 184), (.v (.mv (.t 183))), none, []⟩, ⟨(some 185), (.v (.mv (.t 19))), (some ⟨184, true⟩), [(.t 19)]⟩, ⟨(some 186), (.v (.bin .eql (.t 185) (.k (.c (.int .i64 0))))), (some ⟨184, true⟩), [(.t 185), (.k (.c (.int .i64 0)))]⟩, ⟨(some 187), (.v (.pick (.t 184) (.t 186) (.k (.c (.bool false))))), none, []⟩, ⟨(some 188), (.v (.mv (.t 187))), none, []⟩, ⟨(some 189), (.v (.mv (.t 16))), (some ⟨188, true⟩), [(.t 16)]⟩, ⟨(some 190), (.v (.mv (.t 18))), (some ⟨188, true⟩), [(.t 18)]⟩, ⟨(some 191), (.v (.bin .eql (.t 189) (.t 190))), (some ⟨188, true⟩), [(.t 189), (.t 190)]⟩, ⟨(some 192), (.v (.pick (.t 188) (.t 191) (.k (.c (.bool false))))), none, []⟩, ⟨(some 193), (.v (.mv (.t 192))), none, []⟩, ⟨(some 194), (.v (.det 10 [⟨false, [.bool]⟩] [])), (some ⟨193, true⟩), [(.k (.fn 10 []))]⟩, ⟨(some 195), (.v (.pick (.t 193) (.t 194) (.k (.c (.bool false))))), none, []⟩, ⟨(some 4), (.v (.mv (.t 195))), none, []⟩]) .ret)))))))))), 196, [(.t 4)]⟩
theorem h6 : fnR Try.prog DD 6 = some rf6 := by kernel_rfl
/-- papermill papermilllaw36.DefectLeast -/
def rf7 : RFn := ⟨(.seq (.ops 0 [⟨(some 4), (.v (.mv (.k (.c (.bool false))))), none, []⟩]) (.seq (.seq (.ops 0 [⟨(some 12), (.v (.mv (.t 0))), none, []⟩, ⟨(some 13), (.v (.lenS (.t 12))), none, []⟩, ⟨(some 14), (.v (.bin .gtr (.t 13) (.k (.c (.int .i64 130))))), none, []⟩]) (.cond (.t 14) (.seq (.ops 0 [⟨(some 15), (.v (.det 10 [⟨false, [.bool]⟩] [])), none, []⟩, ⟨(some 4), (.v (.mv (.t 15))), none, []⟩]) .ret) .skip)) (.seq (.ops 0 [⟨(some 17), (.v (.mv (.t 0))), none, []⟩, ⟨(some 18), (.v (.mv (.t 1))), none, []⟩, ⟨(some 19), (.v (.det 11 [⟨false, [(.sl [(.int .i64), (.int .i64), (.int .i64), (.int .i64), (.int .i64), (.int .i64)])]⟩, ⟨false, [(.int .i64)]⟩] [(.t 17), (.t 18)])), none, []⟩, ⟨(some 16), (.v (.mv (.t 19))), none, []⟩, ⟨(some 20), (.v (.ext (.t 16) 0)), none, []⟩, ⟨(some 21), (.v (.ext (.t 16) 1)), none, []⟩, ⟨(some 5), (.v (.mv (.t 20))), none, []⟩, ⟨(some 6), (.v (.mv (.t 21))), none, []⟩]) (.seq (.seq (.ops 0 [⟨(some 22), (.v (.mv (.t 6))), none, []⟩, ⟨(some 23), (.v (.bin .neq (.t 22) (.k (.c (.int .i64 0))))), none, []⟩]) (.cond (.t 23) (.seq (.ops 0 [⟨(some 24), (.v (.det 10 [⟨false, [.bool]⟩] [])), none, []⟩, ⟨(some 4), (.v (.mv (.t 24))), none, []⟩]) .ret) .skip)) (.seq (.seq (.ops 0 [⟨(some 7), (.v (.mv (.k (.c (.int .i64 0))))), none, []⟩]) (.block 0 (.loop (.seq (.seq (.ops 0 [⟨(some 25), (.v (.mv (.t 7))), none, []⟩, ⟨(some 26), (.v (.mv (.t 5))), none, []⟩, ⟨(some 27), (.v (.lenS (.t 26))), none, []⟩, ⟨(some 28), (.v (.bin .lss (.t 25) (.t 27))), none, []⟩]) (.cond (.t 28) .skip (.exit 0))) (.seq (.block 1 (.seq (.ops 1 [⟨(some 8), (.v (.alloc 0 47 [(.c (.bool false)), (.c (.bool false)), (.c (.bool false)), (.c (.bool false)), (.c (.bool false))])), none, []⟩]) (.seq (.ops 1 [⟨(some 31), (.v (.mv (.t 5))), none, []⟩, ⟨(some 32), (.v (.mv (.t 7))), none, []⟩, ⟨(some 33), (.v (.ia 6 (.t 31) (.t 32))), none, []⟩, ⟨(some 34), (.v (.fa 0 (.t 33))), none, []⟩, ⟨(some 35), (.v (.lda 4 (.t 34))), none, []⟩, ⟨(some 9), (.v (.alloc 0 36 [(.c (.int .i64 0)), (.c (.int .i64 0)), (.c (.int .i64 0)), (.c (.int .i64 0))])), none, []⟩, ⟨none, (.v (.st 4 (.t 9) (.t 35))), none, []⟩]) (.seq (.seq (.ops 0 [⟨(some 10), (.v (.mv (.k (.c (.int .i64 0))))), none, []⟩]) (.block 2 (.loop (.seq (.seq (.ops 0 [⟨(some 36), (.v (.mv (.t 10))), none, []⟩, ⟨(some 37), (.v (.mv (.t 0))), none, []⟩, ⟨(some 38), (.v (.lenS (.t 37))), none, []⟩, ⟨(some 39), (.v (.bin .lss (.t 36) (.t 38))), none, []⟩]) (.cond (.t 39) .skip (.exit 2))) (.seq (.block 3 (.seq (.ops 1 [⟨(some 42), (.v (.mv (.t 0))), none, []⟩, ⟨(some 43), (.v (.mv (.t 10))), none, []⟩, ⟨(some 44), (.v (.ia 6 (.t 42) (.t 43))), none, []⟩, ⟨(some 45), (.v (.fa 0 (.t 44))), none, []⟩, ⟨(some 46), (.v (.lda 4 (.t 45))), none, []⟩, ⟨(some 11), (.v (.alloc 0 36 [(.c (.int .i64 0)), (.c (.int .i64 0)), (.c (.int .i64 0)), (.c (.int .i64 0))])), none, []⟩, ⟨none, (.v (.st 4 (.t 11) (.t 46))), none, []⟩]) (.seq (.any 0 [⟨0, ⟨[], ⟨(some 47), (.v (.mv (.t 0))), none, []⟩⟩⟩, ⟨1, ⟨[], ⟨(some 48), (.v (.mv (.t 10))), none, []⟩⟩⟩, ⟨2, ⟨[0, 1], ⟨(some 49), (.v (.ia 6 (.t 47) (.t 48))), none, []⟩⟩⟩, ⟨3, ⟨[2, 0, 1], ⟨(some 50), (.v (.fa 4 (.t 49))), none, []⟩⟩⟩, ⟨4, ⟨[3, 2, 0, 1], ⟨(some 51), (.v (.ld (.t 50))), none, []⟩⟩⟩, ⟨5, ⟨[], ⟨(some 52), (.v (.mv (.t 5))), none, []⟩⟩⟩, ⟨6, ⟨[], ⟨(some 53), (.v (.mv (.t 7))), none, []⟩⟩⟩, ⟨7, ⟨[5, 6], ⟨(some 54), (.v (.ia 6 (.t 52) (.t 53))), none, []⟩⟩⟩, ⟨8, ⟨[7, 5, 6], ⟨(some 55), (.v (.fa 4 (.t 54))), none, []⟩⟩⟩, ⟨9, ⟨[8, 7, 5, 6], ⟨(some 56), (.v (.ld (.t 55))), none, []⟩⟩⟩, ⟨10, ⟨[4, 3, 2, 0, 1, 9, 8, 7, 5, 6], ⟨(some 57), (.v (.bin .eql (.t 51) (.t 56))), none, []⟩⟩⟩, ⟨11, ⟨[10, 4, 3, 2, 0, 1, 9, 8, 7, 5, 6], ⟨(some 58), (.v (.mv (.t 57))), none, []⟩⟩⟩, ⟨12, ⟨[11, 10, 4, 3, 2, 0, 1, 9, 8, 7, 5, 6], ⟨(some 59), (.v (.lda 4 (.t 11))), (some ⟨58, true⟩), [(.t 11)]⟩⟩⟩, ⟨13, ⟨[11, 10, 4, 3, 2, 0, 1, 9, 8, 7, 5, 6], ⟨(some 60), (.v (.lda 4 (.t 9))), (some ⟨58, true⟩), [(.t 9)]⟩⟩⟩, ⟨14, ⟨[12, 13, 11, 10, 4, 3, 2, 0, 1, 9, 8, 7, 5, 6], ⟨(some 61), (.v (.det 26 [⟨false, [.bool]⟩] [(.t 59), (.t 60)])), (some ⟨58, true⟩), [(.k (.fn 26 [])), (.t 59), (.t 60)]⟩⟩⟩, ⟨15, ⟨[14, 12, 13, 11, 10, 4, 3, 2, 0, 1, 9, 8, 7, 5, 6], ⟨(some 62), (.v (.pick (.t 58) (.t 61) (.k (.c (.bool false))))), none, []⟩⟩⟩]) (.cond (.t 62) (.seq (.ops 0 [⟨(some 63), (.v (.iaa 5 1 (.t 8) (.k (.c (.int .i64 0))))), none, []⟩, ⟨(some 64), (.v (.ld (.t 63))), none, []⟩, ⟨(some 65), (.v (.mv (.t 64))), none, []⟩, ⟨(some 66), (.v (.fa 0 (.t 11))), (some ⟨65, false⟩), [(.t 11)]⟩, ⟨(some 67), (.v (.ld (.t 66))), (some ⟨65, false⟩), [(.t 66)]⟩, ⟨(some 68), (.v (.fa 0 (.t 9))), (some ⟨65, false⟩), [(.t 9)]⟩, ⟨(some 69), (.v (.ld (.t 68))), (some ⟨65, false⟩), [(.t 68)]⟩, ⟨(some 70), (.v (.bin .eql (.t 67) (.t 69))), (some ⟨65, false⟩), [(.t 67), (.t 69)]⟩, ⟨(some 71), (.v (.pick (.t 65) (.k (.c (.bool true))) (.t 70))), none, []⟩, ⟨(some 72), (.v (.iaa 5 1 (.t 8) (.k (.c (.int .i64 0))))), none, []⟩, ⟨none, (.v (.st 1 (.t 72) (.t 71))), none, []⟩]) (.seq (.ops 0 [⟨(some 73), (.v (.iaa 5 1 (.t 8) (.k (.c (.int .i64 1))))), none, []⟩, ⟨(some 74), (.v (.ld (.t 73))), none, []⟩, ⟨(some 75), (.v (.mv (.t 74))), none, []⟩, ⟨(some 76), (.v (.fa 1 (.t 11))), (some ⟨75, false⟩), [(.t 11)]⟩, ⟨(some 77), (.v (.ld (.t 76))), (some ⟨75, false⟩), [(.t 76)]⟩, ⟨(some 78), (.v (.fa 1 (.t 9))), (some ⟨75, false⟩), [(.t 9)]⟩, ⟨(some 79), (.v (.ld (.t 78))), (some ⟨75, false⟩), [(.t 78)]⟩, ⟨(some 80), (.v (.bin .eql (.t 77) (.t 79))), (some ⟨75, false⟩), [(.t 77), (.t 79)]⟩, ⟨(some 81), (.v (.pick (.t 75) (.k (.c (.bool true))) (.t 80))), none, []⟩, ⟨(some 82), (.v (.iaa 5 1 (.t 8) (.k (.c (.int .i64 1))))), none, []⟩, ⟨none, (.v (.st 1 (.t 82) (.t 81))), none, []⟩]) (.seq (.ops 0 [⟨(some 83), (.v (.iaa 5 1 (.t 8) (.k (.c (.int .i64 2))))), none, []⟩, ⟨(some 84), (.v (.ld (.t 83))), none, []⟩, ⟨(some 85), (.v (.mv (.t 84))), none, []⟩, ⟨(some 86), (.v (.fa 2 (.t 11))), (some ⟨85, false⟩), [(.t 11)]⟩, ⟨(some 87), (.v (.ld (.t 86))), (some ⟨85, false⟩), [(.t 86)]⟩, ⟨(some 88), (.v (.fa 2 (.t 9))), (some ⟨85, false⟩), [(.t 9)]⟩, ⟨(some 89), (.v (.ld (.t 88))), (some ⟨85, false⟩), [(.t 88)]⟩, ⟨(some 90), (.v (.bin .eql (.t 87) (.t 89))), (some ⟨85, false⟩), [(.t 87), (.t 89)]⟩, ⟨(some 91), (.v (.pick (.t 85) (.k (.c (.bool true))) (.t 90))), none, []⟩, ⟨(some 92), (.v (.iaa 5 1 (.t 8) (.k (.c (.int .i64 2))))), none, []⟩, ⟨none, (.v (.st 1 (.t 92) (.t 91))), none, []⟩]) (.seq (.ops 0 [⟨(some 93), (.v (.iaa 5 1 (.t 8) (.k (.c (.int .i64 3))))), none, []⟩, ⟨(some 94), (.v (.ld (.t 93))), none, []⟩, ⟨(some 95), (.v (.mv (.t 94))), none, []⟩, ⟨(some 96), (.v (.fa 3 (.t 11))), (some ⟨95, false⟩), [(.t 11)]⟩, ⟨(some 97), (.v (.ld (.t 96))), (some ⟨95, false⟩), [(.t 96)]⟩, ⟨(some 98), (.v (.fa 3 (.t 9))), (some ⟨95, false⟩), [(.t 9)]⟩, ⟨(some 99), (.v (.ld (.t 98))), (some ⟨95, false⟩), [(.t 98)]⟩, ⟨(some 100), (.v (.bin .eql (.t 97) (.t 99))), (some ⟨95, false⟩), [(.t 97), (.t 99)]⟩, ⟨(some 101), (.v (.pick (.t 95) (.k (.c (.bool true))) (.t 100))), none, []⟩, ⟨(some 102), (.v (.iaa 5 1 (.t 8) (.k (.c (.int .i64 3))))), none, []⟩, ⟨none, (.v (.st 1 (.t 102) (.t 101))), none, []⟩]) (.any 0 [⟨0, ⟨[], ⟨(some 103), (.v (.iaa 5 1 (.t 8) (.k (.c (.int .i64 4))))), none, []⟩⟩⟩, ⟨1, ⟨[0], ⟨(some 104), (.v (.ld (.t 103))), none, []⟩⟩⟩, ⟨2, ⟨[1, 0], ⟨(some 105), (.v (.mv (.t 104))), none, []⟩⟩⟩, ⟨3, ⟨[2, 1, 0], ⟨(some 106), (.v (.mv (.t 0))), (some ⟨105, false⟩), [(.t 0)]⟩⟩⟩, ⟨4, ⟨[2, 1, 0], ⟨(some 107), (.v (.mv (.t 10))), (some ⟨105, false⟩), [(.t 10)]⟩⟩⟩, ⟨5, ⟨[3, 4, 2, 1, 0], ⟨(some 108), (.v (.ia 6 (.t 106) (.t 107))), (some ⟨105, false⟩), [(.t 106), (.t 107)]⟩⟩⟩, ⟨6, ⟨[5, 3, 4, 2, 1, 0], ⟨(some 109), (.v (.fa 5 (.t 108))), (some ⟨105, false⟩), [(.t 108)]⟩⟩⟩, ⟨7, ⟨[6, 5, 3, 4, 2, 1, 0], ⟨(some 110), (.v (.ld (.t 109))), (some ⟨105, false⟩), [(.t 109)]⟩⟩⟩, ⟨8, ⟨[2, 1, 0], ⟨(some 111), (.v (.mv (.t 5))), (some ⟨105, false⟩), [(.t 5)]⟩⟩⟩, ⟨9, ⟨[2, 1, 0], ⟨(some 112), (.v (.mv (.t 7))), (some ⟨105, false⟩), [(.t 7)]⟩⟩⟩, ⟨10, ⟨[8, 9, 2, 1, 0], ⟨(some 113), (.v (.ia 6 (.t 111) (.t 112))), (some ⟨105, false⟩), [(.t 111), (.t 112)]⟩⟩⟩, ⟨11, ⟨[10, 8, 9, 2, 1, 0], ⟨(some 114), (.v (.fa 5 (.t 113))), (some ⟨105, false⟩), [(.t 113)]⟩⟩⟩, ⟨12, ⟨[11, 10, 8, 9, 2, 1, 0], ⟨(some 115), (.v (.ld (.t 114))), (some ⟨105, false⟩), [(.t 114)]⟩⟩⟩, ⟨13, ⟨[7, 6, 5, 3, 4, 12, 11, 10, 8, 9, 2, 1, 0], ⟨(some 116), (.v (.bin .eql (.t 110) (.t 115))), (some ⟨105, false⟩), [(.t 110), (.t 115)]⟩⟩⟩, ⟨14, ⟨[13, 7, 6, 5, 3, 4, 12, 11, 10, 8, 9, 2, 1, 0], ⟨(some 117), (.v (.pick (.t 105) (.k (.c (.bool true))) (.t 116))), none, []⟩⟩⟩, ⟨15, ⟨[14, 13, 7, 6, 5, 3, 4, 12, 11, 10, 8, 9, 2, 1, 0], ⟨(some 118), (.v (.iaa 5 1 (.t 8) (.k (.c (.int .i64 4))))), none, []⟩⟩⟩, ⟨16, ⟨[15, 14, 13, 7, 6, 5, 3, 4, 12, 11, 10, 8, 9, 2, 1, 0], ⟨none, (.v (.st 1 (.t 118) (.t 117))), none, []⟩⟩⟩]))))) .skip)))) (.ops 0 [⟨(some 40), (.v (.mv (.t 10))), none, []⟩, ⟨(some 41), (.v (.bin .add (.t 40) (.k (.c (.int .i64 1))))), none, []⟩, ⟨(some 10), (.v (.mv (.t 41))), none, []⟩])))))) (.seq (.ops 0 [⟨(some 119), (.v (.iaa 5 1 (.t 8) (.k (.c (.int .i64 0))))), none, []⟩, ⟨(some 120), (.v (.ld (.t 119))), none, []⟩, ⟨(some 121), (.v (.un .not (.t 120))), none, []⟩, ⟨(some 122), (.v (.mv (.t 121))), none, []⟩, ⟨(some 123), (.v (.iaa 5 1 (.t 8) (.k (.c (.int .i64 1))))), (some ⟨122, false⟩), [(.t 8), (.k (.c (.int .i64 1)))]⟩, ⟨(some 124), (.v (.ld (.t 123))), (some ⟨122, false⟩), [(.t 123)]⟩, ⟨(some 125), (.v (.un .not (.t 124))), (some ⟨122, false⟩), [(.t 124)]⟩, ⟨(some 126), (.v (.pick (.t 122) (.k (.c (.bool true))) (.t 125))), none, []⟩, ⟨(some 127), (.v (.mv (.t 126))), none, []⟩, ⟨(some 128), (.v (.iaa 5 1 (.t 8) (.k (.c (.int .i64 2))))), (some ⟨127, false⟩), [(.t 8), (.k (.c (.int .i64 2)))]⟩, ⟨(some 129), (.v (.ld (.t 128))), (some ⟨127, false⟩), [(.t 128)]⟩, ⟨(some 130), (.v (.un .not (.t 129))), (some ⟨127, false⟩), [(.t 129)]⟩, ⟨(some 131), (.v (.pick (.t 127) (.k (.c (.bool true))) (.t 130))), none, []⟩, ⟨(some 132), (.v (.mv (.t 131))), none, []⟩, ⟨(some 133), (.v (.iaa 5 1 (.t 8) (.k (.c (.int .i64 3))))), (some ⟨132, false⟩), [(.t 8), (.k (.c (.int .i64 3)))]⟩, ⟨(some 134), (.v (.ld (.t 133))), (some ⟨132, false⟩), [(.t 133)]⟩, ⟨(some 135), (.v (.un .not (.t 134))), (some ⟨132, false⟩), [(.t 134)]⟩, ⟨(some 136), (.v (.pick (.t 132) (.k (.c (.bool true))) (.t 135))), none, []⟩, ⟨(some 137), (.v (.mv (.t 136))), none, []⟩, ⟨(some 138), (.v (.iaa 5 1 (.t 8) (.k (.c (.int .i64 4))))), (some ⟨137, false⟩), [(.t 8), (.k (.c (.int .i64 4)))]⟩, ⟨(some 139), (.v (.ld (.t 138))), (some ⟨137, false⟩), [(.t 138)]⟩, ⟨(some 140), (.v (.un .not (.t 139))), (some ⟨137, false⟩), [(.t 139)]⟩, ⟨(some 141), (.v (.pick (.t 137) (.k (.c (.bool true))) (.t 140))), none, []⟩]) (.cond (.t 141) (.seq (.ops 0 [⟨(some 4), (.v (.mv (.k (.c (.bool false))))), none, []⟩]) .ret) .skip)))))) (.ops 0 [⟨(some 29), (.v (.mv (.t 7))), none, []⟩, ⟨(some 30), (.v (.bin .add (.t 29) (.k (.c (.int .i64 1))))), none, []⟩, ⟨(some 7), (.v (.mv (.t 30))), none, []⟩])))))) (.seq (.ops 0 [⟨(some 142), (.v (.mv (.t 0))), none, []⟩, ⟨(some 143), (.v (.lenS (.t 142))), none, []⟩, ⟨(some 144), (.v (.bin .eql (.t 143) (.k (.c (.int .i64 0))))), none, []⟩, ⟨(some 145), (.v (.mv (.t 5))), none, []⟩, ⟨(some 146), (.v (.lenS (.t 145))), none, []⟩, ⟨(some 147), (.v (.bin .eql (.t 146) (.k (.c (.int .i64 0))))), none, []⟩, ⟨(some 148), (.v (.eqb false (.t 144) (.t 147))), none, []⟩, ⟨(some 149), (.v (.mv (.t 148))), none, []⟩, ⟨(some 150), (.v (.det 10 [⟨false, [.bool]⟩] [])), (some ⟨149, true⟩), [(.k (.fn 10 []))]⟩, ⟨(some 151), (.v (.pick (.t 149) (.t 150) (.k (.c (.bool false))))), none, []⟩, ⟨(some 4), (.v (.mv (.t 151))), none, []⟩]) .ret)))))), 152, [(.t 4)]⟩
theorem h7 : fnR Try.prog DD 7 = some rf7 := by kernel_rfl
def vc20 (E : Env) (x1 : List (List C)) (Q : List C → Prop) : Prop :=
  (E.pok 13 [(false, [.int .i64])] [.c (.sl [.int .i64, .int .i64, .int .i64, .int .i64, .int .i64, .int .i64] x1)]) ∧ (∀ r2 : Nat → C, r2 = E.res 13 [.c (.sl [.int .i64, .int .i64, .int .i64, .int .i64, .int .i64, .int .i64] x1)] → 
  (Br (E.not (E.eq (E.gi (r2 0)) 0))
  (Q [.int .i64 0, .int .i64 (E.gi (r2 0))])
  (LoopP2 (fun (i3 : Int) (i4 : Int) (K5 : (Int) → (Int) → Prop) =>
    Br (E.lt i4 (E.len x1))
      (((E.le 0 i4) = true) ∧ 
        (K5 ((E.max i3 (E.gi (E.cell x1 i4 5)))) ((E.add .i64 i4 1))))
      (Q [.int .i64 i3, .int .i64 0]))
    (0) (0))))
theorem w20 {P : Program} {tbl : FuncId → List A → List C}  {x1 : List (List C)} {row : List C} (h : vc20 (stdE P tbl) x1 fun c => c = row) : WPg P tbl rf20 [(false, [.int .i64]), (false, [.int .i64])] row [.c (.sl [.int .i64, .int .i64, .int .i64, .int .i64, .int .i64, .int .i64] x1)] := by
  refine ⟨?_⟩
  revert h
  generalize hE : stdE P tbl = E
  intro h
  unfold vc20 at h
  cbv
  have c6 := h.1
  refine ⟨c6, ?_⟩
  replace h := h.2 _ rfl
  refine ⟨fun hb7 => ?_, fun hb7 => ?_⟩
  · replace h := h.t hb7
    have h : _ = row := h
    subst h
    repeat' (first | exact trivial | exact rfl | refine And.intro ?_ ?_)
  · replace h := h.f hb7
    obtain ⟨I, μ, h0, hI⟩ := h
    refine LoopW.inv (fun R R' s h k => RCode.wp_mono _ R R' s h k) (fun p : Int × Int => (fun (i3 : Int) (i4 : Int) => (⟨[.u, .u, .u, .u, .u, .c (.int .i64 i3), .u, .u, .u, .u, .u, .u, .u, .c (.sl [.int .i64, .int .i64, .int .i64, .int .i64, .int .i64, .int .i64] x1), .c (.int .i64 (E.len x1)), .c (.int .i64 i4), .u, .u, .u, .u, .u, .u, .u, .u, .u], []⟩ : St)) p.1 p.2) (fun p => I p.1 p.2) (fun p => μ p.1 p.2) (_, _) h0 ?_ ?_
    · refine GSt.ren [] rfl rfl rfl (fun i hi => absurd hi (Nat.not_lt_zero i)) (Nat.zero_le _) ?_ ?_
      all_goals (repeat' (first | exact trivial | exact Or.inl rfl | exact Or.inr rfl | refine And.intro ?_ ?_))
    · rintro ⟨i3, i4⟩ h
      replace h := hI i3 i4 h
      cbv
      refine ⟨fun hb8 => ?_, fun hb8 => ?_⟩
      · replace h := h.t hb8
        have c9 := h.1
        refine ⟨c9, ?_⟩
        replace h := h.2
        refine ⟨hb8, ?_⟩
        refine ⟨(_, _), h.1, GSt.ren [] rfl rfl rfl (fun i hi => absurd hi (Nat.not_lt_zero i)) (Nat.zero_le _) ?_ ?_, h.2⟩
        all_goals (repeat' (first | exact trivial | exact Or.inl rfl | exact Or.inr rfl | refine And.intro ?_ ?_))
      · replace h := h.f hb8
        have h : _ = row := h
        subst h
        repeat' (first | exact trivial | exact rfl | refine And.intro ?_ ?_)
def vc21 (E : Env) (x1 : List (List C)) (Q : List C → Prop) : Prop :=
  (E.pok 14 [(false, [.int .i64])] [.c (.sl [.int .i64, .int .i64, .int .i64, .int .i64, .int .i64, .int .i64] x1)]) ∧ (∀ r2 : Nat → C, r2 = E.res 14 [.c (.sl [.int .i64, .int .i64, .int .i64, .int .i64, .int .i64, .int .i64] x1)] → 
  (Br (E.not (E.eq (E.gi (r2 0)) 0))
  (Q [.int .i64 0, .int .i64 (E.gi (r2 0))])
  (LoopP2 (fun (i3 : Int) (i4 : Int) (K5 : (Int) → (Int) → Prop) =>
    Br (E.lt i4 (E.len x1))
      (((E.le 0 i4) = true) ∧ 
        (K5 ((E.max i3 (E.gi (E.cell x1 i4 5)))) ((E.add .i64 i4 1))))
      (Q [.int .i64 i3, .int .i64 0]))
    (0) (0))))
theorem w21 {P : Program} {tbl : FuncId → List A → List C}  {x1 : List (List C)} {row : List C} (h : vc21 (stdE P tbl) x1 fun c => c = row) : WPg P tbl rf21 [(false, [.int .i64]), (false, [.int .i64])] row [.c (.sl [.int .i64, .int .i64, .int .i64, .int .i64, .int .i64, .int .i64] x1)] := by
  refine ⟨?_⟩
  revert h
  generalize hE : stdE P tbl = E
  intro h
  unfold vc21 at h
  cbv
  have c6 := h.1
  refine ⟨c6, ?_⟩
  replace h := h.2 _ rfl
  refine ⟨fun hb7 => ?_, fun hb7 => ?_⟩
  · replace h := h.t hb7
    have h : _ = row := h
    subst h
    repeat' (first | exact trivial | exact rfl | refine And.intro ?_ ?_)
  · replace h := h.f hb7
    obtain ⟨I, μ, h0, hI⟩ := h
    refine LoopW.inv (fun R R' s h k => RCode.wp_mono _ R R' s h k) (fun p : Int × Int => (fun (i3 : Int) (i4 : Int) => (⟨[.c (.sl [.int .i64, .int .i64, .int .i64, .int .i64, .int .i64, .int .i64] x1), .u, .u, .u, .u, .c (.int .i64 i3), .c (.int .i64 i4), .u, .u, .u, .u, .u, .u, .u, .u, .u, .u, .u, .u, .u, .u, .u, .u, .u, .u, .u], []⟩ : St)) p.1 p.2) (fun p => I p.1 p.2) (fun p => μ p.1 p.2) (_, _) h0 ?_ ?_
    · refine GSt.ren [] rfl rfl rfl (fun i hi => absurd hi (Nat.not_lt_zero i)) (Nat.zero_le _) ?_ ?_
      all_goals (repeat' (first | exact trivial | exact Or.inl rfl | exact Or.inr rfl | refine And.intro ?_ ?_))
    · rintro ⟨i3, i4⟩ h
      replace h := hI i3 i4 h
      cbv
      refine ⟨fun hb8 => ?_, fun hb8 => ?_⟩
      · replace h := h.t hb8
        have c9 := h.1
        refine ⟨c9, ?_⟩
        replace h := h.2
        refine ⟨hb8, ?_⟩
        refine ⟨(_, _), h.1, GSt.ren [] rfl rfl rfl (fun i hi => absurd hi (Nat.not_lt_zero i)) (Nat.zero_le _) ?_ ?_, h.2⟩
        all_goals (repeat' (first | exact trivial | exact Or.inl rfl | exact Or.inr rfl | refine And.intro ?_ ?_))
      · replace h := h.f hb8
        have h : _ = row := h
        subst h
        repeat' (first | exact trivial | exact rfl | refine And.intro ?_ ?_)
def vc25 (E : Env) (x1 : Int) (x2 : Int) (x3 : Int) (x4 : Int) (Q : List C → Prop) : Prop :=
  Q [.int .i64 (E.max (E.max 0 (E.sub .i64 x3 x2)) (E.sub .i64 x1 x4))]
theorem w25 {P : Program} {tbl : FuncId → List A → List C}  {x1 : Int} {x2 : Int} {x3 : Int} {x4 : Int} {row : List C} (h : vc25 (stdE P tbl) x1 x2 x3 x4 fun c => c = row) : WPg P tbl rf25 [(false, [.int .i64])] row [.c (.int .i64 x1), .c (.int .i64 x2), .c (.int .i64 x3), .c (.int .i64 x4)] := by
  refine ⟨?_⟩
  revert h
  generalize hE : stdE P tbl = E
  intro h
  unfold vc25 at h
  cbv
  have h : _ = row := h
  subst h
  repeat' (first | exact trivial | exact rfl | refine And.intro ?_ ?_)
def vc6 (E : Env) (x1 : List (List C)) (x2 : Int) (Q : List C → Prop) : Prop :=
  Br (E.lt 130 (E.len x1))
  ((E.pok 10 [(false, [.bool])] []) ∧ (∀ r3 : Nat → C, r3 = E.res 10 [] → 
    (Q [.bool (E.gb (r3 0))])))
  ((E.pok 11 [(false, [.sl [.int .i64, .int .i64, .int .i64, .int .i64, .int .i64, .int .i64]]), (false, [.int .i64])] [.c (.sl [.int .i64, .int .i64, .int .i64, .int .i64, .int .i64, .int .i64] x1), .c (.int .i64 x2)]) ∧ (∀ r4 : Nat → C, r4 = E.res 11 [.c (.sl [.int .i64, .int .i64, .int .i64, .int .i64, .int .i64, .int .i64] x1), .c (.int .i64 x2)] → 
    (Br (E.not (E.eq (E.gi (r4 1)) 0))
    ((Imp (E.eq (E.len (E.gl (r4 0))) 0) (E.pok 10 [(false, [.bool])] [])) ∧ (∀ r5 : Nat → C, r5 = E.res 10 [] → 
      (Q [.bool (E.bite (E.eq (E.len (E.gl (r4 0))) 0) (E.gb (r5 0)) false)])))
    (LoopP1 (fun (i6 : Int) (K7 : (Int) → Prop) =>
      Br (E.lt i6 (E.len (E.gl (r4 0))))
        (LoopP1 (fun (i8 : Int) (K9 : (Int) → Prop) =>
          Br (E.lt i8 i6)
            (((E.le 0 i6) = true) ∧ 
              (((E.le 0 i8) = true) ∧ ((E.lt i8 (E.len (E.gl (r4 0)))) = true) ∧ 
              ((Imp (E.eq (E.gi (E.cell (E.gl (r4 0)) i6 4)) (E.gi (E.cell (E.gl (r4 0)) i8 4))) (E.pok 25 [(false, [.int .i64])] [.c (.int .i64 (E.gi (E.cell (E.gl (r4 0)) i6 0))), .c (.int .i64 (E.gi (E.cell (E.gl (r4 0)) i6 1))), .c (.int .i64 (E.gi (E.cell (E.gl (r4 0)) i8 0))), .c (.int .i64 (E.gi (E.cell (E.gl (r4 0)) i8 1)))])) ∧ (∀ r10 : Nat → C, r10 = E.res 25 [.c (.int .i64 (E.gi (E.cell (E.gl (r4 0)) i6 0))), .c (.int .i64 (E.gi (E.cell (E.gl (r4 0)) i6 1))), .c (.int .i64 (E.gi (E.cell (E.gl (r4 0)) i8 0))), .c (.int .i64 (E.gi (E.cell (E.gl (r4 0)) i8 1)))] → 
              ((Imp (E.bite (E.eq (E.gi (E.cell (E.gl (r4 0)) i6 4)) (E.gi (E.cell (E.gl (r4 0)) i8 4))) (E.le (E.gi (r10 0)) x2) false) (E.pok 25 [(false, [.int .i64])] [.c (.int .i64 (E.gi (E.cell (E.gl (r4 0)) i6 2))), .c (.int .i64 (E.gi (E.cell (E.gl (r4 0)) i6 3))), .c (.int .i64 (E.gi (E.cell (E.gl (r4 0)) i8 2))), .c (.int .i64 (E.gi (E.cell (E.gl (r4 0)) i8 3)))])) ∧ (∀ r11 : Nat → C, r11 = E.res 25 [.c (.int .i64 (E.gi (E.cell (E.gl (r4 0)) i6 2))), .c (.int .i64 (E.gi (E.cell (E.gl (r4 0)) i6 3))), .c (.int .i64 (E.gi (E.cell (E.gl (r4 0)) i8 2))), .c (.int .i64 (E.gi (E.cell (E.gl (r4 0)) i8 3)))] → 
              (Br (E.bite (E.bite (E.eq (E.gi (E.cell (E.gl (r4 0)) i6 4)) (E.gi (E.cell (E.gl (r4 0)) i8 4))) (E.le (E.gi (r10 0)) x2) false) (E.le (E.gi (r11 0)) x2) false)
              (Q [.bool false])
              (K9 ((E.add .i64 i8 1))))))))))
            (K7 ((E.add .i64 i6 1))))
          (0))
        (LoopP1 (fun (i12 : Int) (K13 : (Int) → Prop) =>
          Br (E.lt i12 (E.len x1))
            (LoopP2 (fun (b14 : Bool) (i15 : Int) (K16 : (Bool) → (Int) → Prop) =>
              Br (E.lt i15 (E.len (E.gl (r4 0))))
                ((Imp (E.not b14) ((E.le 0 i15) = true)) ∧ 
                  ((Imp (E.not b14) ((E.le 0 i12) = true)) ∧ 
                  ((Imp (E.and (E.not b14) (E.eq (E.gi (E.cell (E.gl (r4 0)) i15 4)) (E.gi (E.cell x1 i12 4)))) ((E.le 0 i15) = true)) ∧ 
                  ((Imp (E.and (E.not b14) (E.eq (E.gi (E.cell (E.gl (r4 0)) i15 4)) (E.gi (E.cell x1 i12 4)))) ((E.le 0 i12) = true)) ∧ 
                  ((Imp (E.not b14) (Imp (E.eq (E.gi (E.cell (E.gl (r4 0)) i15 4)) (E.gi (E.cell x1 i12 4))) ((E.and (E.not b14) (E.eq (E.gi (E.cell (E.gl (r4 0)) i15 4)) (E.gi (E.cell x1 i12 4)))) = true))) ∧ 
                  ((Imp (E.and (E.not b14) (E.bite (E.eq (E.gi (E.cell (E.gl (r4 0)) i15 4)) (E.gi (E.cell x1 i12 4))) (E.le (E.gi (E.cell x1 i12 5)) (E.gi (E.cell (E.gl (r4 0)) i15 5))) false)) ((E.le 0 i12) = true)) ∧ 
                  ((Imp (E.and (E.not b14) (E.bite (E.eq (E.gi (E.cell (E.gl (r4 0)) i15 4)) (E.gi (E.cell x1 i12 4))) (E.le (E.gi (E.cell x1 i12 5)) (E.gi (E.cell (E.gl (r4 0)) i15 5))) false)) ((E.le 0 i15) = true)) ∧ 
                  ((Imp (E.and (E.not b14) (E.bite (E.eq (E.gi (E.cell (E.gl (r4 0)) i15 4)) (E.gi (E.cell x1 i12 4))) (E.le (E.gi (E.cell x1 i12 5)) (E.gi (E.cell (E.gl (r4 0)) i15 5))) false)) (E.pok 26 [(false, [.bool])] [.agg [.c (.int .i64 (E.gi (E.cell x1 i12 0))), .c (.int .i64 (E.gi (E.cell x1 i12 1))), .c (.int .i64 (E.gi (E.cell x1 i12 2))), .c (.int .i64 (E.gi (E.cell x1 i12 3)))], .agg [.c (.int .i64 (E.gi (E.cell (E.gl (r4 0)) i15 0))), .c (.int .i64 (E.gi (E.cell (E.gl (r4 0)) i15 1))), .c (.int .i64 (E.gi (E.cell (E.gl (r4 0)) i15 2))), .c (.int .i64 (E.gi (E.cell (E.gl (r4 0)) i15 3)))]])) ∧ (∀ r17 : Nat → C, r17 = E.res 26 [.agg [.c (.int .i64 (E.gi (E.cell x1 i12 0))), .c (.int .i64 (E.gi (E.cell x1 i12 1))), .c (.int .i64 (E.gi (E.cell x1 i12 2))), .c (.int .i64 (E.gi (E.cell x1 i12 3)))], .agg [.c (.int .i64 (E.gi (E.cell (E.gl (r4 0)) i15 0))), .c (.int .i64 (E.gi (E.cell (E.gl (r4 0)) i15 1))), .c (.int .i64 (E.gi (E.cell (E.gl (r4 0)) i15 2))), .c (.int .i64 (E.gi (E.cell (E.gl (r4 0)) i15 3)))]] → 
                  ((Imp (E.not b14) (Imp (E.bite (E.eq (E.gi (E.cell (E.gl (r4 0)) i15 4)) (E.gi (E.cell x1 i12 4))) (E.le (E.gi (E.cell x1 i12 5)) (E.gi (E.cell (E.gl (r4 0)) i15 5))) false) ((E.and (E.not b14) (E.bite (E.eq (E.gi (E.cell (E.gl (r4 0)) i15 4)) (E.gi (E.cell x1 i12 4))) (E.le (E.gi (E.cell x1 i12 5)) (E.gi (E.cell (E.gl (r4 0)) i15 5))) false)) = true))) ∧ 
                  (K16 ((E.bite b14 true (E.bite (E.bite (E.eq (E.gi (E.cell (E.gl (r4 0)) i15 4)) (E.gi (E.cell x1 i12 4))) (E.le (E.gi (E.cell x1 i12 5)) (E.gi (E.cell (E.gl (r4 0)) i15 5))) false) (E.gb (r17 0)) false))) ((E.add .i64 i15 1)))))))))))))
                (Br (E.not b14)
                  (Q [.bool false])
                  (K13 ((E.add .i64 i12 1)))))
              (false) (0))
            ((E.pok 11 [(false, [.sl [.int .i64, .int .i64, .int .i64, .int .i64, .int .i64, .int .i64]]), (false, [.int .i64])] [.c (.sl [.int .i64, .int .i64, .int .i64, .int .i64, .int .i64, .int .i64] (E.gl (r4 0))), .c (.int .i64 x2)]) ∧ (∀ r18 : Nat → C, r18 = E.res 11 [.c (.sl [.int .i64, .int .i64, .int .i64, .int .i64, .int .i64, .int .i64] (E.gl (r4 0))), .c (.int .i64 x2)] → 
              ((E.pok 20 [(false, [.int .i64]), (false, [.int .i64])] [.c (.sl [.int .i64, .int .i64, .int .i64, .int .i64, .int .i64, .int .i64] x1)]) ∧ (∀ r19 : Nat → C, r19 = E.res 20 [.c (.sl [.int .i64, .int .i64, .int .i64, .int .i64, .int .i64, .int .i64] x1)] → 
              ((E.pok 20 [(false, [.int .i64]), (false, [.int .i64])] [.c (.sl [.int .i64, .int .i64, .int .i64, .int .i64, .int .i64, .int .i64] (E.gl (r4 0)))]) ∧ (∀ r20 : Nat → C, r20 = E.res 20 [.c (.sl [.int .i64, .int .i64, .int .i64, .int .i64, .int .i64, .int .i64] (E.gl (r4 0)))] → 
              ((Imp (E.bite (E.le (E.len (E.gl (r4 0))) (E.len x1)) (E.eq (E.gi (r18 1)) 0) false) (E.pok 15 [(false, [.bool])] [.c (.sl [.int .i64, .int .i64, .int .i64, .int .i64, .int .i64, .int .i64] (E.gl (r18 0))), .c (.sl [.int .i64, .int .i64, .int .i64, .int .i64, .int .i64, .int .i64] (E.gl (r4 0)))])) ∧ (∀ r21 : Nat → C, r21 = E.res 15 [.c (.sl [.int .i64, .int .i64, .int .i64, .int .i64, .int .i64, .int .i64] (E.gl (r18 0))), .c (.sl [.int .i64, .int .i64, .int .i64, .int .i64, .int .i64, .int .i64] (E.gl (r4 0)))] → 
              ((Imp (E.bite (E.bite (E.bite (E.bite (E.bite (E.le (E.len (E.gl (r4 0))) (E.len x1)) (E.eq (E.gi (r18 1)) 0) false) (E.gb (r21 0)) false) (E.eq (E.gi (r19 1)) 0) false) (E.eq (E.gi (r20 1)) 0) false) (E.eq (E.gi (r19 0)) (E.gi (r20 0))) false) (E.pok 10 [(false, [.bool])] [])) ∧ (∀ r22 : Nat → C, r22 = E.res 10 [] → 
              (Q [.bool (E.bite (E.bite (E.bite (E.bite (E.bite (E.bite (E.le (E.len (E.gl (r4 0))) (E.len x1)) (E.eq (E.gi (r18 1)) 0) false) (E.gb (r21 0)) false) (E.eq (E.gi (r19 1)) 0) false) (E.eq (E.gi (r20 1)) 0) false) (E.eq (E.gi (r19 0)) (E.gi (r20 0))) false) (E.gb (r22 0)) false)]))))))))))))
          (0)))
      (0)))))
theorem w6 {P : Program} {tbl : FuncId → List A → List C}  {x1 : List (List C)} {x2 : Int} {row : List C} (h : vc6 (stdE P tbl) x1 x2 fun c => c = row) : WPg P tbl rf6 [(false, [.bool])] row [.c (.sl [.int .i64, .int .i64, .int .i64, .int .i64, .int .i64, .int .i64] x1), .c (.int .i64 x2)] := by
  refine ⟨?_⟩
  revert h
  generalize hE : stdE P tbl = E
  intro h
  unfold vc6 at h
  cbv
  refine ⟨fun hb23 => ?_, fun hb23 => ?_⟩
  · replace h := h.t hb23
    have c24 := h.1
    refine ⟨c24, ?_⟩
    replace h := h.2 _ rfl
    have h : _ = row := h
    subst h
    repeat' (first | exact trivial | exact rfl | refine And.intro ?_ ?_)
  · replace h := h.f hb23
    have c25 := h.1
    refine ⟨c25, ?_⟩
    replace h := h.2 _ rfl
    refine ⟨fun hb26 => ?_, fun hb26 => ?_⟩
    · replace h := h.t hb26
      have c27 := h.1
      refine ⟨c27, ?_⟩
      replace h := h.2 _ rfl
      refine ⟨⟨fun hh => hh⟩, ?_⟩
      have h : _ = row := h
      subst h
      repeat' (first | exact trivial | exact rfl | refine And.intro ?_ ?_)
    · replace h := h.f hb26
      obtain ⟨I, μ, h0, hI⟩ := h
      refine LoopW.inv (fun R R' s h k => RCode.wp_mono _ R R' s h k) (fun p : Int => (fun (i6 : Int) => (⟨[.c (.sl [.int .i64, .int .i64, .int .i64, .int .i64, .int .i64, .int .i64] x1), .c (.int .i64 x2), .u, .u, .u, .c (.sl [.int .i64, .int .i64, .int .i64, .int .i64, .int .i64, .int .i64] (E.gl ((E.res 11 [.c (.sl [.int .i64, .int .i64, .int .i64, .int .i64, .int .i64, .int .i64] x1), .c (.int .i64 x2)]) 0))), .u, .c (.int .i64 i6), .u, .u, .u, .u, .u, .u, .u, .u, .u, .u, .u, .u, .u, .u, .u, .u, .u, .u, .u, .u, .u, .u, .u, .u, .u, .u, .u, .u, .u, .u, .u, .u, .u, .u, .u, .u, .u, .u, .u, .u, .u, .u, .u, .u, .u, .u, .u, .u, .u, .u, .u, .u, .u, .u, .u, .u, .u, .u, .u, .u, .u, .u, .u, .u, .u, .u, .u, .u, .u, .u, .u, .u, .u, .u, .u, .u, .u, .u, .u, .u, .u, .u, .u, .u, .u, .u, .u, .u, .u, .u, .u, .u, .u, .u, .u, .u, .u, .u, .u, .u, .u, .u, .u, .u, .u, .u, .u, .u, .u, .u, .u, .u, .u, .u, .u, .u, .u, .u, .u, .u, .u, .u, .u, .u, .u, .u, .u, .u, .u, .u, .u, .u, .u, .u, .u, .u, .u, .u, .u, .u, .u, .u, .u, .u, .u, .u, .u, .u, .u, .u, .u, .u, .u, .u, .u, .u, .u, .u, .u, .u, .u, .u, .u, .u, .u, .u, .u, .u, .u, .u, .u, .u, .u, .u, .u, .u, .u, .u, .u, .u, .u, .u, .u, .u, .u, .u, .u, .u], []⟩ : St)) p) (fun p => I p) (fun p => μ p) _ h0 ?_ ?_
      · refine GSt.ren [] rfl rfl rfl (fun i hi => absurd hi (Nat.not_lt_zero i)) (Nat.zero_le _) ?_ ?_
        all_goals (repeat' (first | exact trivial | exact Or.inl rfl | exact Or.inr rfl | refine And.intro ?_ ?_))
      · rintro i6 h
        replace h := hI i6 h
        cbv
        refine ⟨fun hb28 => ?_, fun hb28 => ?_⟩
        · replace h := h.t hb28
          obtain ⟨I, μ, h0, hI⟩ := h
          refine LoopW.inv (fun R R' s h k => RCode.wp_mono _ R R' s h k) (fun p : Int => (fun (i8 : Int) => (⟨[.c (.sl [.int .i64, .int .i64, .int .i64, .int .i64, .int .i64, .int .i64] x1), .c (.int .i64 x2), .u, .u, .u, .c (.sl [.int .i64, .int .i64, .int .i64, .int .i64, .int .i64, .int .i64] (E.gl ((E.res 11 [.c (.sl [.int .i64, .int .i64, .int .i64, .int .i64, .int .i64, .int .i64] x1), .c (.int .i64 x2)]) 0))), .u, .c (.int .i64 i6), .c (.int .i64 i8), .u, .u, .u, .u, .u, .u, .u, .u, .u, .u, .u, .u, .u, .u, .u, .u, .u, .u, .u, .u, .u, .u, .u, .u, .u, .u, .u, .u, .u, .u, .u, .u, .u, .u, .u, .u, .u, .u, .u, .u, .u, .u, .u, .u, .u, .u, .u, .u, .u, .u, .u, .u, .u, .u, .u, .u, .u, .u, .u, .u, .u, .u, .u, .u, .u, .u, .u, .u, .u, .u, .u, .u, .u, .u, .u, .u, .u, .u, .u, .u, .u, .u, .u, .u, .u, .u, .u, .u, .u, .u, .u, .u, .u, .u, .u, .u, .u, .u, .u, .u, .u, .u, .u, .u, .u, .u, .u, .u, .u, .u, .u, .u, .u, .u, .u, .u, .u, .u, .u, .u, .u, .u, .u, .u, .u, .u, .u, .u, .u, .u, .u, .u, .u, .u, .u, .u, .u, .u, .u, .u, .u, .u, .u, .u, .u, .u, .u, .u, .u, .u, .u, .u, .u, .u, .u, .u, .u, .u, .u, .u, .u, .u, .u, .u, .u, .u, .u, .u, .u, .u, .u, .u, .u, .u, .u, .u, .u, .u, .u, .u, .u, .u, .u, .u, .u, .u, .u], []⟩ : St)) p) (fun p => I p) (fun p => μ p) _ h0 ?_ ?_
          · refine GSt.ren [] rfl rfl rfl (fun i hi => absurd hi (Nat.not_lt_zero i)) (Nat.zero_le _) ?_ ?_
            all_goals (repeat' (first | exact trivial | exact Or.inl rfl | exact Or.inr rfl | refine And.intro ?_ ?_))
          · rintro i8 h
            replace h := hI i8 h
            cbv
            refine ⟨fun hb29 => ?_, fun hb29 => ?_⟩
            · replace h := h.t hb29
              have c30 := h.1
              refine ⟨c30, ?_⟩
              replace h := h.2
              refine ⟨hb28, ?_⟩
              have c31 := h.1
              refine ⟨c31, ?_⟩
              replace h := h.2
              have c32 := h.1
              refine ⟨c32, ?_⟩
              replace h := h.2
              refine ⟨c30, ?_⟩
              refine ⟨hb28, ?_⟩
              refine ⟨c31, ?_⟩
              refine ⟨c32, ?_⟩
              refine ⟨⟨fun hh => hh⟩, ?_⟩
              refine ⟨⟨fun hh => hh⟩, ?_⟩
              refine ⟨⟨fun hh => hh⟩, ?_⟩
              refine ⟨⟨fun hh => hh⟩, ?_⟩
              refine ⟨⟨fun hh => hh⟩, ?_⟩
              refine ⟨⟨fun hh => hh⟩, ?_⟩
              refine ⟨⟨fun hh => hh⟩, ?_⟩
              refine ⟨⟨fun hh => hh⟩, ?_⟩
              have c33 := h.1
              refine ⟨c33, ?_⟩
              replace h := h.2 _ rfl
              refine ⟨⟨fun hh => hh⟩, ?_⟩
              refine ⟨⟨fun hh => hh⟩, ?_⟩
              refine ⟨⟨fun hh => hh⟩, ?_⟩
              refine ⟨⟨fun hh => hh⟩, ?_⟩
              refine ⟨⟨fun hh => hh⟩, ?_⟩
              refine ⟨⟨fun hh => hh⟩, ?_⟩
              refine ⟨⟨fun hh => hh⟩, ?_⟩
              refine ⟨⟨fun hh => hh⟩, ?_⟩
              refine ⟨⟨fun hh => hh⟩, ?_⟩
              refine ⟨⟨fun hh => hh⟩, ?_⟩
              refine ⟨⟨fun hh => hh⟩, ?_⟩
              have c34 := h.1
              refine ⟨c34, ?_⟩
              replace h := h.2 _ rfl
              refine ⟨⟨fun hh => hh⟩, ?_⟩
              refine ⟨⟨fun hh => hh⟩, ?_⟩
              refine ⟨⟨fun hh => hh⟩, ?_⟩
              refine ⟨fun hb35 => ?_, fun hb35 => ?_⟩
              · replace h := h.t hb35
                have h : _ = row := h
                subst h
                repeat' (first | exact trivial | exact rfl | refine And.intro ?_ ?_)
              · replace h := h.f hb35
                refine ⟨_, h.1, GSt.ren [] rfl rfl rfl (fun i hi => absurd hi (Nat.not_lt_zero i)) (Nat.zero_le _) ?_ ?_, h.2⟩
                all_goals (repeat' (first | exact trivial | exact Or.inl rfl | exact Or.inr rfl | refine And.intro ?_ ?_))
            · replace h := h.f hb29
              refine ⟨_, h.1, GSt.ren [] rfl rfl rfl (fun i hi => absurd hi (Nat.not_lt_zero i)) (Nat.zero_le _) ?_ ?_, h.2⟩
              all_goals (repeat' (first | exact trivial | exact Or.inl rfl | exact Or.inr rfl | refine And.intro ?_ ?_))
        · replace h := h.f hb28
          obtain ⟨I, μ, h0, hI⟩ := h
          refine LoopW.inv (fun R R' s h k => RCode.wp_mono _ R R' s h k) (fun p : Int => (fun (i12 : Int) => (⟨[.c (.sl [.int .i64, .int .i64, .int .i64, .int .i64, .int .i64, .int .i64] x1), .c (.int .i64 x2), .u, .u, .u, .c (.sl [.int .i64, .int .i64, .int .i64, .int .i64, .int .i64, .int .i64] (E.gl ((E.res 11 [.c (.sl [.int .i64, .int .i64, .int .i64, .int .i64, .int .i64, .int .i64] x1), .c (.int .i64 x2)]) 0))), .u, .u, .u, .u, .u, .c (.int .i64 i12), .u, .u, .u, .u, .u, .u, .u, .u, .u, .u, .u, .u, .u, .u, .u, .u, .u, .u, .u, .u, .u, .u, .u, .u, .u, .u, .u, .u, .u, .u, .u, .u, .u, .u, .u, .u, .u, .u, .u, .u, .u, .u, .u, .u, .u, .u, .u, .u, .u, .u, .u, .u, .u, .u, .u, .u, .u, .u, .u, .u, .u, .u, .u, .u, .u, .u, .u, .u, .u, .u, .u, .u, .u, .u, .u, .u, .u, .u, .u, .u, .u, .u, .u, .u, .u, .u, .u, .u, .u, .u, .u, .u, .u, .u, .u, .u, .u, .u, .u, .u, .u, .u, .u, .u, .u, .u, .u, .u, .u, .u, .u, .u, .u, .u, .u, .u, .u, .u, .u, .u, .u, .u, .u, .u, .u, .u, .u, .u, .u, .u, .u, .u, .u, .u, .u, .u, .u, .u, .u, .u, .u, .u, .u, .u, .u, .u, .u, .u, .u, .u, .u, .u, .u, .u, .u, .u, .u, .u, .u, .u, .u, .u, .u, .u, .u, .u, .u, .u, .u, .u, .u, .u, .u, .u, .u, .u, .u, .u, .u, .u, .u, .u, .u, .u], []⟩ : St)) p) (fun p => I p) (fun p => μ p) _ h0 ?_ ?_
          · refine GSt.ren [] rfl rfl rfl (fun i hi => absurd hi (Nat.not_lt_zero i)) (Nat.zero_le _) ?_ ?_
            all_goals (repeat' (first | exact trivial | exact Or.inl rfl | exact Or.inr rfl | refine And.intro ?_ ?_))
          · rintro i12 h
            replace h := hI i12 h
            cbv
            refine ⟨fun hb36 => ?_, fun hb36 => ?_⟩
            · replace h := h.t hb36
              obtain ⟨I, μ, h0, hI⟩ := h
              refine LoopW.inv (fun R R' s h k => RCode.wp_mono _ R R' s h k) (fun p : Bool × Int => (fun (b14 : Bool) (i15 : Int) => (⟨[.c (.sl [.int .i64, .int .i64, .int .i64, .int .i64, .int .i64, .int .i64] x1), .c (.int .i64 x2), .u, .u, .u, .c (.sl [.int .i64, .int .i64, .int .i64, .int .i64, .int .i64, .int .i64] (E.gl ((E.res 11 [.c (.sl [.int .i64, .int .i64, .int .i64, .int .i64, .int .i64, .int .i64] x1), .c (.int .i64 x2)]) 0))), .u, .u, .u, .u, .u, .c (.int .i64 i12), .c (.bool b14), .c (.int .i64 i15), .u, .u, .u, .u, .u, .u, .u, .u, .u, .u, .u, .u, .u, .u, .u, .u, .u, .u, .u, .u, .u, .u, .u, .u, .u, .u, .u, .u, .u, .u, .u, .u, .u, .u, .u, .u, .u, .u, .u, .u, .u, .u, .u, .u, .u, .u, .u, .u, .u, .u, .u, .u, .u, .u, .u, .u, .u, .u, .u, .u, .u, .u, .u, .u, .u, .u, .u, .u, .u, .u, .u, .u, .u, .u, .u, .u, .u, .u, .u, .u, .u, .u, .u, .u, .u, .u, .u, .u, .u, .u, .u, .u, .u, .u, .u, .u, .u, .u, .u, .u, .u, .u, .u, .u, .u, .u, .u, .u, .u, .u, .u, .u, .u, .u, .u, .u, .u, .u, .u, .u, .u, .u, .u, .u, .u, .u, .u, .u, .u, .u, .u, .u, .u, .u, .u, .u, .u, .u, .u, .u, .u, .u, .u, .u, .u, .u, .u, .u, .u, .u, .u, .u, .u, .u, .u, .u, .u, .u, .u, .u, .u, .u, .u, .u, .u, .u, .u, .u, .u, .u, .u, .u, .u, .u, .u, .u, .u, .u, .u, .u, .u, .u], []⟩ : St)) p.1 p.2) (fun p => I p.1 p.2) (fun p => μ p.1 p.2) (_, _) h0 ?_ ?_
              · refine GSt.ren [] rfl rfl rfl (fun i hi => absurd hi (Nat.not_lt_zero i)) (Nat.zero_le _) ?_ ?_
                all_goals (repeat' (first | exact trivial | exact Or.inl rfl | exact Or.inr rfl | refine And.intro ?_ ?_))
              · rintro ⟨b14, i15⟩ h
                replace h := hI b14 i15 h
                cbv
                refine ⟨fun hb37 => ?_, fun hb37 => ?_⟩
                · replace h := h.t hb37
                  refine ⟨⟨fun hh => hh⟩, ?_⟩
                  refine ⟨⟨fun hh => hh⟩, ?_⟩
                  have c38 := h.1
                  refine ⟨c38, ?_⟩
                  replace h := h.2
                  refine ⟨⟨fun _ => hb37⟩, ?_⟩
                  refine ⟨⟨fun hh => hh⟩, ?_⟩
                  refine ⟨⟨fun hh => hh⟩, ?_⟩
                  refine ⟨⟨fun hh => hh⟩, ?_⟩
                  refine ⟨⟨fun hh => hh⟩, ?_⟩
                  have c39 := h.1
                  refine ⟨c39, ?_⟩
                  replace h := h.2
                  refine ⟨⟨fun _ => hb36⟩, ?_⟩
                  refine ⟨⟨fun hh => hh⟩, ?_⟩
                  refine ⟨⟨fun hh => hh⟩, ?_⟩
                  refine ⟨⟨fun hh => hh⟩, ?_⟩
                  refine ⟨⟨fun hh => hh⟩, ?_⟩
                  refine ⟨⟨fun hh => hh⟩, ?_⟩
                  refine ⟨⟨fun hh => hh⟩, ?_⟩
                  refine ⟨⟨fun hh => hh⟩, ?_⟩
                  have c40 := h.1
                  refine ⟨c40, ?_⟩
                  replace h := h.2
                  refine ⟨⟨fun _ => hb37⟩, ?_⟩
                  refine ⟨⟨fun hh => hh⟩, ?_⟩
                  refine ⟨⟨fun hh => hh⟩, ?_⟩
                  refine ⟨⟨fun hh => hh⟩, ?_⟩
                  refine ⟨⟨fun hh => hh⟩, ?_⟩
                  have c41 := h.1
                  refine ⟨c41, ?_⟩
                  replace h := h.2
                  refine ⟨⟨fun _ => hb36⟩, ?_⟩
                  refine ⟨⟨fun hh => hh⟩, ?_⟩
                  refine ⟨⟨fun hh => hh⟩, ?_⟩
                  refine ⟨⟨fun hh => hh⟩, ?_⟩
                  refine ⟨⟨fun hh => hh⟩, ?_⟩
                  refine ⟨⟨fun hh => hh⟩, ?_⟩
                  have c42 := h.1
                  refine ⟨c42, ?_⟩
                  replace h := h.2
                  refine ⟨⟨fun hh => hh⟩, ?_⟩
                  refine ⟨⟨fun hh => hh⟩, ?_⟩
                  refine ⟨⟨fun hh => hh⟩, ?_⟩
                  have c43 := h.1
                  refine ⟨c43, ?_⟩
                  replace h := h.2
                  refine ⟨⟨fun _ => hb36⟩, ?_⟩
                  refine ⟨⟨fun hh => hh⟩, ?_⟩
                  refine ⟨⟨fun hh => hh⟩, ?_⟩
                  refine ⟨⟨fun hh => hh⟩, ?_⟩
                  refine ⟨⟨fun hh => hh⟩, ?_⟩
                  have c44 := h.1
                  refine ⟨c44, ?_⟩
                  replace h := h.2
                  refine ⟨⟨fun _ => hb37⟩, ?_⟩
                  refine ⟨⟨fun hh => hh⟩, ?_⟩
                  refine ⟨⟨fun hh => hh⟩, ?_⟩
                  refine ⟨⟨fun hh => hh⟩, ?_⟩
                  refine ⟨⟨fun hh => hh⟩, ?_⟩
                  have c45 := h.1
                  refine ⟨c45, ?_⟩
                  replace h := h.2 _ rfl
                  refine ⟨⟨fun hh => hh⟩, ?_⟩
                  have c46 := h.1
                  refine ⟨c46, ?_⟩
                  replace h := h.2
                  refine ⟨⟨fun hh => hh⟩, ?_⟩
                  refine ⟨(_, _), h.1, GSt.ren [] rfl rfl rfl (fun i hi => absurd hi (Nat.not_lt_zero i)) (Nat.zero_le _) ?_ ?_, h.2⟩
                  all_goals (repeat' (first | exact trivial | exact Or.inl rfl | exact Or.inr rfl | refine And.intro ?_ ?_))
                · replace h := h.f hb37
                  refine ⟨fun hb47 => ?_, fun hb47 => ?_⟩
                  · replace h := h.t hb47
                    have h : _ = row := h
                    subst h
                    repeat' (first | exact trivial | exact rfl | refine And.intro ?_ ?_)
                  · replace h := h.f hb47
                    refine ⟨_, h.1, GSt.ren [] rfl rfl rfl (fun i hi => absurd hi (Nat.not_lt_zero i)) (Nat.zero_le _) ?_ ?_, h.2⟩
                    all_goals (repeat' (first | exact trivial | exact Or.inl rfl | exact Or.inr rfl | refine And.intro ?_ ?_))
            · replace h := h.f hb36
              have c48 := h.1
              refine ⟨c48, ?_⟩
              replace h := h.2 _ rfl
              have c49 := h.1
              refine ⟨c49, ?_⟩
              replace h := h.2 _ rfl
              have c50 := h.1
              refine ⟨c50, ?_⟩
              replace h := h.2 _ rfl
              refine ⟨⟨fun hh => hh⟩, ?_⟩
              refine ⟨⟨fun hh => hh⟩, ?_⟩
              refine ⟨⟨fun hh => hh⟩, ?_⟩
              refine ⟨⟨fun hh => hh⟩, ?_⟩
              have c51 := h.1
              refine ⟨c51, ?_⟩
              replace h := h.2 _ rfl
              refine ⟨⟨fun hh => hh⟩, ?_⟩
              refine ⟨⟨fun hh => hh⟩, ?_⟩
              refine ⟨⟨fun hh => hh⟩, ?_⟩
              refine ⟨⟨fun hh => hh⟩, ?_⟩
              refine ⟨⟨fun hh => hh⟩, ?_⟩
              refine ⟨⟨fun hh => hh⟩, ?_⟩
              refine ⟨⟨fun hh => hh⟩, ?_⟩
              refine ⟨⟨fun hh => hh⟩, ?_⟩
              have c52 := h.1
              refine ⟨c52, ?_⟩
              replace h := h.2 _ rfl
              refine ⟨⟨fun hh => hh⟩, ?_⟩
              have h : _ = row := h
              subst h
              repeat' (first | exact trivial | exact rfl | refine And.intro ?_ ?_)
def vc7 (E : Env) (x1 : List (List C)) (x2 : Int) (Q : List C → Prop) : Prop :=
  Br (E.lt 130 (E.len x1))
  ((E.pok 10 [(false, [.bool])] []) ∧ (∀ r3 : Nat → C, r3 = E.res 10 [] → 
    (Q [.bool (E.gb (r3 0))])))
  ((E.pok 11 [(false, [.sl [.int .i64, .int .i64, .int .i64, .int .i64, .int .i64, .int .i64]]), (false, [.int .i64])] [.c (.sl [.int .i64, .int .i64, .int .i64, .int .i64, .int .i64, .int .i64] x1), .c (.int .i64 x2)]) ∧ (∀ r4 : Nat → C, r4 = E.res 11 [.c (.sl [.int .i64, .int .i64, .int .i64, .int .i64, .int .i64, .int .i64] x1), .c (.int .i64 x2)] → 
    (Br (E.not (E.eq (E.gi (r4 1)) 0))
    ((E.pok 10 [(false, [.bool])] []) ∧ (∀ r5 : Nat → C, r5 = E.res 10 [] → 
      (Q [.bool (E.gb (r5 0))])))
    (LoopP1 (fun (i6 : Int) (K7 : (Int) → Prop) =>
      Br (E.lt i6 (E.len (E.gl (r4 0))))
        (((E.le 0 i6) = true) ∧ 
          (LoopP6 (fun (b8 : Bool) (b9 : Bool) (b10 : Bool) (b11 : Bool) (b12 : Bool) (i13 : Int) (K14 : (Bool) → (Bool) → (Bool) → (Bool) → (Bool) → (Int) → Prop) =>
          Br (E.lt i13 (E.len x1))
            (((E.le 0 i13) = true) ∧ 
              ((Imp (E.eq (E.gi (E.cell x1 i13 4)) (E.gi (E.cell (E.gl (r4 0)) i6 4))) (E.pok 26 [(false, [.bool])] [.agg [.c (.int .i64 (E.gi (E.cell x1 i13 0))), .c (.int .i64 (E.gi (E.cell x1 i13 1))), .c (.int .i64 (E.gi (E.cell x1 i13 2))), .c (.int .i64 (E.gi (E.cell x1 i13 3)))], .agg [.c (.int .i64 (E.gi (E.cell (E.gl (r4 0)) i6 0))), .c (.int .i64 (E.gi (E.cell (E.gl (r4 0)) i6 1))), .c (.int .i64 (E.gi (E.cell (E.gl (r4 0)) i6 2))), .c (.int .i64 (E.gi (E.cell (E.gl (r4 0)) i6 3)))]])) ∧ (∀ r15 : Nat → C, r15 = E.res 26 [.agg [.c (.int .i64 (E.gi (E.cell x1 i13 0))), .c (.int .i64 (E.gi (E.cell x1 i13 1))), .c (.int .i64 (E.gi (E.cell x1 i13 2))), .c (.int .i64 (E.gi (E.cell x1 i13 3)))], .agg [.c (.int .i64 (E.gi (E.cell (E.gl (r4 0)) i6 0))), .c (.int .i64 (E.gi (E.cell (E.gl (r4 0)) i6 1))), .c (.int .i64 (E.gi (E.cell (E.gl (r4 0)) i6 2))), .c (.int .i64 (E.gi (E.cell (E.gl (r4 0)) i6 3)))]] → 
              (Br (E.bite (E.eq (E.gi (E.cell x1 i13 4)) (E.gi (E.cell (E.gl (r4 0)) i6 4))) (E.gb (r15 0)) false)
              (((E.le 0 0) = true) ∧ ((E.lt 0 5) = true) ∧ 
                (((E.le 0 1) = true) ∧ ((E.lt 1 5) = true) ∧ 
                (((E.le 0 2) = true) ∧ ((E.lt 2 5) = true) ∧ 
                (((E.le 0 3) = true) ∧ ((E.lt 3 5) = true) ∧ 
                (((E.le 0 4) = true) ∧ ((E.lt 4 5) = true) ∧ 
                (K14 ((E.bite b8 true (E.eq (E.gi (E.cell x1 i13 0)) (E.gi (E.cell (E.gl (r4 0)) i6 0))))) ((E.bite b9 true (E.eq (E.gi (E.cell x1 i13 1)) (E.gi (E.cell (E.gl (r4 0)) i6 1))))) ((E.bite b10 true (E.eq (E.gi (E.cell x1 i13 2)) (E.gi (E.cell (E.gl (r4 0)) i6 2))))) ((E.bite b11 true (E.eq (E.gi (E.cell x1 i13 3)) (E.gi (E.cell (E.gl (r4 0)) i6 3))))) ((E.bite b12 true (E.eq (E.gi (E.cell x1 i13 5)) (E.gi (E.cell (E.gl (r4 0)) i6 5))))) ((E.add .i64 i13 1))))))))
              (K14 (b8) (b9) (b10) (b11) (b12) ((E.add .i64 i13 1)))))))
            (((E.le 0 0) = true) ∧ ((E.lt 0 5) = true) ∧ 
              ((Imp (E.not (E.not b8)) ((E.le 0 1) = true)) ∧ (Imp (E.not (E.not b8)) ((E.lt 1 5) = true)) ∧ 
              ((Imp (E.not (E.bite (E.not b8) true (E.not b9))) ((E.le 0 2) = true)) ∧ (Imp (E.not (E.bite (E.not b8) true (E.not b9))) ((E.lt 2 5) = true)) ∧ 
              ((Imp (E.not (E.bite (E.bite (E.not b8) true (E.not b9)) true (E.not b10))) ((E.le 0 3) = true)) ∧ (Imp (E.not (E.bite (E.bite (E.not b8) true (E.not b9)) true (E.not b10))) ((E.lt 3 5) = true)) ∧ 
              ((Imp (E.not (E.bite (E.bite (E.bite (E.not b8) true (E.not b9)) true (E.not b10)) true (E.not b11))) ((E.le 0 4) = true)) ∧ (Imp (E.not (E.bite (E.bite (E.bite (E.not b8) true (E.not b9)) true (E.not b10)) true (E.not b11))) ((E.lt 4 5) = true)) ∧ 
              (Br (E.bite (E.bite (E.bite (E.bite (E.not b8) true (E.not b9)) true (E.not b10)) true (E.not b11)) true (E.not b12))
              (Q [.bool false])
              (K7 ((E.add .i64 i6 1))))))))))
          (false) (false) (false) (false) (false) (0)))
        ((Imp (E.beq (E.eq (E.len x1) 0) (E.eq (E.len (E.gl (r4 0))) 0)) (E.pok 10 [(false, [.bool])] [])) ∧ (∀ r16 : Nat → C, r16 = E.res 10 [] → 
          (Q [.bool (E.bite (E.beq (E.eq (E.len x1) 0) (E.eq (E.len (E.gl (r4 0))) 0)) (E.gb (r16 0)) false)]))))
      (0)))))
theorem w7 {P : Program} {tbl : FuncId → List A → List C}  {x1 : List (List C)} {x2 : Int} {row : List C} (h : vc7 (stdE P tbl) x1 x2 fun c => c = row) : WPg P tbl rf7 [(false, [.bool])] row [.c (.sl [.int .i64, .int .i64, .int .i64, .int .i64, .int .i64, .int .i64] x1), .c (.int .i64 x2)] := by
  refine ⟨?_⟩
  revert h
  generalize hE : stdE P tbl = E
  intro h
  unfold vc7 at h
  cbv
  refine ⟨fun hb17 => ?_, fun hb17 => ?_⟩
  · replace h := h.t hb17
    have c18 := h.1
    refine ⟨c18, ?_⟩
    replace h := h.2 _ rfl
    have h : _ = row := h
    subst h
    repeat' (first | exact trivial | exact rfl | refine And.intro ?_ ?_)
  · replace h := h.f hb17
    have c19 := h.1
    refine ⟨c19, ?_⟩
    replace h := h.2 _ rfl
    refine ⟨fun hb20 => ?_, fun hb20 => ?_⟩
    · replace h := h.t hb20
      have c21 := h.1
      refine ⟨c21, ?_⟩
      replace h := h.2 _ rfl
      have h : _ = row := h
      subst h
      repeat' (first | exact trivial | exact rfl | refine And.intro ?_ ?_)
    · replace h := h.f hb20
      obtain ⟨I, μ, h0, hI⟩ := h
      refine LoopW.inv (fun R R' s h k => RCode.wp_mono _ R R' s h k) (fun p : Int => (fun (i6 : Int) => (⟨[.c (.sl [.int .i64, .int .i64, .int .i64, .int .i64, .int .i64, .int .i64] x1), .u, .u, .u, .u, .c (.sl [.int .i64, .int .i64, .int .i64, .int .i64, .int .i64, .int .i64] (E.gl ((E.res 11 [.c (.sl [.int .i64, .int .i64, .int .i64, .int .i64, .int .i64, .int .i64] x1), .c (.int .i64 x2)]) 0))), .u, .c (.int .i64 i6), .u, .u, .u, .u, .u, .u, .u, .u, .u, .u, .u, .u, .u, .u, .u, .u, .u, .u, .u, .u, .u, .u, .u, .u, .u, .u, .u, .u, .u, .u, .u, .u, .u, .u, .u, .u, .u, .u, .u, .u, .u, .u, .u, .u, .u, .u, .u, .u, .u, .u, .u, .u, .u, .u, .u, .u, .u, .u, .u, .u, .u, .u, .u, .u, .u, .u, .u, .u, .u, .u, .u, .u, .u, .u, .u, .u, .u, .u, .u, .u, .u, .u, .u, .u, .u, .u, .u, .u, .u, .u, .u, .u, .u, .u, .u, .u, .u, .u, .u, .u, .u, .u, .u, .u, .u, .u, .u, .u, .u, .u, .u, .u, .u, .u, .u, .u, .u, .u, .u, .u, .u, .u, .u, .u, .u, .u, .u, .u, .u, .u, .u, .u, .u, .u, .u, .u, .u, .u, .u, .u, .u, .u, .u, .u], []⟩ : St)) p) (fun p => I p) (fun p => μ p) _ h0 ?_ ?_
      · refine GSt.ren [] rfl rfl rfl (fun i hi => absurd hi (Nat.not_lt_zero i)) (Nat.zero_le _) ?_ ?_
        all_goals (repeat' (first | exact trivial | exact Or.inl rfl | exact Or.inr rfl | refine And.intro ?_ ?_))
      · rintro i6 h
        replace h := hI i6 h
        cbv
        refine ⟨fun hb22 => ?_, fun hb22 => ?_⟩
        · replace h := h.t hb22
          have c23 := h.1
          refine ⟨c23, ?_⟩
          replace h := h.2
          refine ⟨hb22, ?_⟩
          obtain ⟨I, μ, h0, hI⟩ := h
          refine LoopW.inv (fun R R' s h k => RCode.wp_mono _ R R' s h k) (fun p : Bool × Bool × Bool × Bool × Bool × Int => (fun (b8 : Bool) (b9 : Bool) (b10 : Bool) (b11 : Bool) (b12 : Bool) (i13 : Int) => (⟨[.c (.sl [.int .i64, .int .i64, .int .i64, .int .i64, .int .i64, .int .i64] x1), .u, .u, .u, .u, .c (.sl [.int .i64, .int .i64, .int .i64, .int .i64, .int .i64, .int .i64] (E.gl ((E.res 11 [.c (.sl [.int .i64, .int .i64, .int .i64, .int .i64, .int .i64, .int .i64] x1), .c (.int .i64 x2)]) 0))), .u, .c (.int .i64 i6), .ptr 0 0, .ptr 1 0, .c (.int .i64 i13), .u, .u, .u, .u, .u, .u, .u, .u, .u, .u, .u, .u, .u, .u, .u, .u, .u, .u, .u, .u, .u, .u, .u, .u, .u, .u, .u, .u, .u, .u, .u, .u, .u, .u, .u, .u, .u, .u, .u, .u, .u, .u, .u, .u, .u, .u, .u, .u, .u, .u, .u, .u, .u, .u, .u, .u, .u, .u, .u, .u, .u, .u, .u, .u, .u, .u, .u, .u, .u, .u, .u, .u, .u, .u, .u, .u, .u, .u, .u, .u, .u, .u, .u, .u, .u, .u, .u, .u, .u, .u, .u, .u, .u, .u, .u, .u, .u, .u, .u, .u, .u, .u, .u, .u, .u, .u, .u, .u, .u, .u, .u, .u, .u, .u, .u, .u, .u, .u, .u, .u, .u, .u, .u, .u, .u, .u, .u, .u, .u, .u, .u, .u, .u, .u, .u, .u, .u, .u, .u, .u, .u], [.box 47 [.c (.bool b8), .c (.bool b9), .c (.bool b10), .c (.bool b11), .c (.bool b12)], .box 36 [.c (.int .i64 (E.gi (E.cell (E.gl ((E.res 11 [.c (.sl [.int .i64, .int .i64, .int .i64, .int .i64, .int .i64, .int .i64] x1), .c (.int .i64 x2)]) 0)) i6 0))), .c (.int .i64 (E.gi (E.cell (E.gl ((E.res 11 [.c (.sl [.int .i64, .int .i64, .int .i64, .int .i64, .int .i64, .int .i64] x1), .c (.int .i64 x2)]) 0)) i6 1))), .c (.int .i64 (E.gi (E.cell (E.gl ((E.res 11 [.c (.sl [.int .i64, .int .i64, .int .i64, .int .i64, .int .i64, .int .i64] x1), .c (.int .i64 x2)]) 0)) i6 2))), .c (.int .i64 (E.gi (E.cell (E.gl ((E.res 11 [.c (.sl [.int .i64, .int .i64, .int .i64, .int .i64, .int .i64, .int .i64] x1), .c (.int .i64 x2)]) 0)) i6 3)))]]⟩ : St)) p.1 p.2.1 p.2.2.1 p.2.2.2.1 p.2.2.2.2.1 p.2.2.2.2.2) (fun p => I p.1 p.2.1 p.2.2.1 p.2.2.2.1 p.2.2.2.2.1 p.2.2.2.2.2) (fun p => μ p.1 p.2.1 p.2.2.1 p.2.2.2.1 p.2.2.2.2.1 p.2.2.2.2.2) (_, _, _, _, _, _) h0 ?_ ?_
          · refine GSt.ren [0, 1] rfl rfl rfl (fun i hi => absurd hi (Nat.not_lt_zero i)) (Nat.zero_le _) ?_ ?_
            all_goals (repeat' (first | exact trivial | exact Or.inl rfl | exact Or.inr rfl | refine And.intro ?_ ?_))
          · rintro ⟨b8, b9, b10, b11, b12, i13⟩ h
            replace h := hI b8 b9 b10 b11 b12 i13 h
            cbv
            refine ⟨fun hb24 => ?_, fun hb24 => ?_⟩
            · replace h := h.t hb24
              have c25 := h.1
              refine ⟨c25, ?_⟩
              replace h := h.2
              refine ⟨hb24, ?_⟩
              refine ⟨c25, ?_⟩
              refine ⟨hb24, ?_⟩
              refine ⟨c23, ?_⟩
              refine ⟨hb22, ?_⟩
              refine ⟨⟨fun hh => hh⟩, ?_⟩
              refine ⟨⟨fun hh => hh⟩, ?_⟩
              have c26 := h.1
              refine ⟨c26, ?_⟩
              replace h := h.2 _ rfl
              refine ⟨⟨fun hh => hh⟩, ?_⟩
              refine ⟨fun hb27 => ?_, fun hb27 => ?_⟩
              · replace h := h.t hb27
                have c28 := h.1
                refine ⟨c28, ?_⟩
                replace h := h.2
                have c29 := h.1
                refine ⟨c29, ?_⟩
                replace h := h.2
                refine ⟨⟨fun hh => hh⟩, ?_⟩
                refine ⟨⟨fun hh => hh⟩, ?_⟩
                refine ⟨⟨fun hh => hh⟩, ?_⟩
                refine ⟨⟨fun hh => hh⟩, ?_⟩
                refine ⟨⟨fun hh => hh⟩, ?_⟩
                refine ⟨c28, ?_⟩
                refine ⟨c29, ?_⟩
                have c30 := h.1
                refine ⟨c30, ?_⟩
                replace h := h.2
                have c31 := h.1
                refine ⟨c31, ?_⟩
                replace h := h.2
                refine ⟨⟨fun hh => hh⟩, ?_⟩
                refine ⟨⟨fun hh => hh⟩, ?_⟩
                refine ⟨⟨fun hh => hh⟩, ?_⟩
                refine ⟨⟨fun hh => hh⟩, ?_⟩
                refine ⟨⟨fun hh => hh⟩, ?_⟩
                refine ⟨c30, ?_⟩
                refine ⟨c31, ?_⟩
                have c32 := h.1
                refine ⟨c32, ?_⟩
                replace h := h.2
                have c33 := h.1
                refine ⟨c33, ?_⟩
                replace h := h.2
                refine ⟨⟨fun hh => hh⟩, ?_⟩
                refine ⟨⟨fun hh => hh⟩, ?_⟩
                refine ⟨⟨fun hh => hh⟩, ?_⟩
                refine ⟨⟨fun hh => hh⟩, ?_⟩
                refine ⟨⟨fun hh => hh⟩, ?_⟩
                refine ⟨c32, ?_⟩
                refine ⟨c33, ?_⟩
                have c34 := h.1
                refine ⟨c34, ?_⟩
                replace h := h.2
                have c35 := h.1
                refine ⟨c35, ?_⟩
                replace h := h.2
                refine ⟨⟨fun hh => hh⟩, ?_⟩
                refine ⟨⟨fun hh => hh⟩, ?_⟩
                refine ⟨⟨fun hh => hh⟩, ?_⟩
                refine ⟨⟨fun hh => hh⟩, ?_⟩
                refine ⟨⟨fun hh => hh⟩, ?_⟩
                refine ⟨c34, ?_⟩
                refine ⟨c35, ?_⟩
                have c36 := h.1
                refine ⟨c36, ?_⟩
                replace h := h.2
                have c37 := h.1
                refine ⟨c37, ?_⟩
                replace h := h.2
                refine ⟨⟨fun hh => hh⟩, ?_⟩
                refine ⟨⟨fun hh => hh⟩, ?_⟩
                refine ⟨⟨fun _ => c25⟩, ?_⟩
                refine ⟨⟨fun _ => hb24⟩, ?_⟩
                refine ⟨⟨fun hh => hh⟩, ?_⟩
                refine ⟨⟨fun hh => hh⟩, ?_⟩
                refine ⟨⟨fun hh => hh⟩, ?_⟩
                refine ⟨⟨fun hh => hh⟩, ?_⟩
                refine ⟨⟨fun _ => c23⟩, ?_⟩
                refine ⟨⟨fun _ => hb22⟩, ?_⟩
                refine ⟨⟨fun hh => hh⟩, ?_⟩
                refine ⟨⟨fun hh => hh⟩, ?_⟩
                refine ⟨⟨fun hh => hh⟩, ?_⟩
                refine ⟨⟨fun hh => hh⟩, ?_⟩
                refine ⟨⟨fun hh => hh⟩, ?_⟩
                refine ⟨c36, ?_⟩
                refine ⟨c37, ?_⟩
                refine ⟨(_, _, _, _, _, _), h.1, GSt.ren [0, 1] rfl rfl rfl (fun i hi => absurd hi (Nat.not_lt_zero i)) (Nat.zero_le _) ?_ ?_, h.2⟩
                all_goals (repeat' (first | exact trivial | exact Or.inl rfl | exact Or.inr rfl | refine And.intro ?_ ?_))
              · replace h := h.f hb27
                refine ⟨(_, _, _, _, _, _), h.1, GSt.ren [0, 1] rfl rfl rfl (fun i hi => absurd hi (Nat.not_lt_zero i)) (Nat.zero_le _) ?_ ?_, h.2⟩
                all_goals (repeat' (first | exact trivial | exact Or.inl rfl | exact Or.inr rfl | refine And.intro ?_ ?_))
            · replace h := h.f hb24
              have c38 := h.1
              refine ⟨c38, ?_⟩
              replace h := h.2
              have c39 := h.1
              refine ⟨c39, ?_⟩
              replace h := h.2
              have c40 := h.1
              refine ⟨c40, ?_⟩
              replace h := h.2
              have c41 := h.1
              refine ⟨c41, ?_⟩
              replace h := h.2
              refine ⟨⟨fun hh => hh⟩, ?_⟩
              refine ⟨⟨fun hh => hh⟩, ?_⟩
              refine ⟨⟨fun hh => hh⟩, ?_⟩
              have c42 := h.1
              refine ⟨c42, ?_⟩
              replace h := h.2
              have c43 := h.1
              refine ⟨c43, ?_⟩
              replace h := h.2
              refine ⟨⟨fun hh => hh⟩, ?_⟩
              refine ⟨⟨fun hh => hh⟩, ?_⟩
              refine ⟨⟨fun hh => hh⟩, ?_⟩
              have c44 := h.1
              refine ⟨c44, ?_⟩
              replace h := h.2
              have c45 := h.1
              refine ⟨c45, ?_⟩
              replace h := h.2
              refine ⟨⟨fun hh => hh⟩, ?_⟩
              refine ⟨⟨fun hh => hh⟩, ?_⟩
              refine ⟨⟨fun hh => hh⟩, ?_⟩
              have c46 := h.1
              refine ⟨c46, ?_⟩
              replace h := h.2
              have c47 := h.1
              refine ⟨c47, ?_⟩
              replace h := h.2
              refine ⟨⟨fun hh => hh⟩, ?_⟩
              refine ⟨⟨fun hh => hh⟩, ?_⟩
              refine ⟨⟨fun hh => hh⟩, ?_⟩
              refine ⟨fun hb48 => ?_, fun hb48 => ?_⟩
              · replace h := h.t hb48
                have h : _ = row := h
                subst h
                repeat' (first | exact trivial | exact rfl | refine And.intro ?_ ?_)
              · replace h := h.f hb48
                refine ⟨_, h.1, GSt.ren [] rfl rfl rfl (fun i hi => absurd hi (Nat.not_lt_zero i)) (Nat.zero_le _) ?_ ?_, h.2⟩
                all_goals (repeat' (first | exact trivial | exact Or.inl rfl | exact Or.inr rfl | refine And.intro ?_ ?_))
        · replace h := h.f hb22
          have c49 := h.1
          refine ⟨c49, ?_⟩
          replace h := h.2 _ rfl
          refine ⟨⟨fun hh => hh⟩, ?_⟩
          have h : _ = row := h
          subst h
          repeat' (first | exact trivial | exact rfl | refine And.intro ?_ ?_)
end Go.Proofs.Ytkdapoipnkpbeaa.V
