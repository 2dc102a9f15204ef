/- Rectangles and spans: the walks of their functions (2 of 3). No conditions. -/
import Derived.Test.YtkdapoipnkpbeaaClips
import Derived.Test.YtkdapoipnkpbeaaE4
set_option linter.unusedVariables false
set_option linter.unusedSimpArgs false
namespace Go.Proofs.Ytkdapoipnkpbeaa.R
open Go Go.Eng
set_option maxRecDepth 1000000
set_option maxHeartbeats 1000000
/-- papermill papermillref04.Norm -/
def rf43 : RFn := ⟨(.seq (.ops 0 [⟨(some 2), (.v (.mv (.k (.c .nil)))), none, []⟩, ⟨(some 3), (.v (.mv (.k (.c (.int .i64 0))))), none, []⟩]) (.seq (.ops 0 [⟨(some 4), (.v (.mv (.t 0))), none, []⟩, ⟨(some 5), (.v (.det 54 [⟨false, [(.sl [(.int .i64), (.int .i64)])]⟩, ⟨false, [(.int .i64)]⟩] [(.t 4), (.k (.c .nil)), (.k (.c (.int .i64 0)))])), none, []⟩, ⟨(some 6), (.v (.ext (.t 5) 0)), none, []⟩, ⟨(some 7), (.v (.ext (.t 5) 1)), none, []⟩, ⟨(some 2), (.v (.mv (.t 6))), none, []⟩, ⟨(some 3), (.v (.mv (.t 7))), none, []⟩]) .ret)), 8, [(.t 2), (.t 3)]⟩
theorem h43 : fnR Try.prog DD 43 = some rf43 := by kernel_rfl
/-- papermill papermillref04.both -/
def rf54 : RFn := ⟨(.seq (.ops 0 [⟨(some 6), (.v (.mv (.k (.c .nil)))), none, []⟩, ⟨(some 7), (.v (.mv (.k (.c (.int .i64 0))))), none, []⟩]) (.seq (.seq (.ops 0 [⟨(some 11), (.v (.mv (.t 0))), none, []⟩, ⟨(some 12), (.v (.det 69 [⟨false, [(.int .i64)]⟩] [(.t 11)])), none, []⟩, ⟨(some 8), (.v (.mv (.t 12))), none, []⟩]) (.seq (.ops 0 [⟨(some 13), (.v (.mv (.t 8))), none, []⟩, ⟨(some 14), (.v (.bin .neq (.t 13) (.k (.c (.int .i64 0))))), none, []⟩]) (.cond (.t 14) (.seq (.ops 0 [⟨(some 15), (.v (.mv (.t 8))), none, []⟩, ⟨(some 6), (.v (.mv (.k (.c .nil)))), none, []⟩, ⟨(some 7), (.v (.mv (.t 15))), none, []⟩]) .ret) .skip))) (.seq (.seq (.ops 0 [⟨(some 16), (.v (.mv (.t 1))), none, []⟩, ⟨(some 17), (.v (.det 69 [⟨false, [(.int .i64)]⟩] [(.t 16)])), none, []⟩, ⟨(some 9), (.v (.mv (.t 17))), none, []⟩]) (.seq (.ops 0 [⟨(some 18), (.v (.mv (.t 9))), none, []⟩, ⟨(some 19), (.v (.bin .neq (.t 18) (.k (.c (.int .i64 0))))), none, []⟩]) (.cond (.t 19) (.seq (.ops 0 [⟨(some 20), (.v (.mv (.t 9))), none, []⟩, ⟨(some 6), (.v (.mv (.k (.c .nil)))), none, []⟩, ⟨(some 7), (.v (.mv (.t 20))), none, []⟩]) .ret) .skip))) (.seq (.ops 0 [⟨(some 21), (.v (.mv (.t 0))), none, []⟩, ⟨(some 22), (.v (.mv (.t 1))), none, []⟩, ⟨(some 23), (.v (.mv (.t 2))), none, []⟩, ⟨(some 24), (.v (.det 70 [⟨false, [(.sl [(.int .i64), (.int .i64)])]⟩] [(.t 21), (.t 22), (.t 23)])), none, []⟩, ⟨(some 10), (.v (.mv (.t 24))), none, []⟩]) (.seq (.seq (.ops 0 [⟨(some 25), (.v (.mv (.t 10))), none, []⟩, ⟨(some 26), (.v (.lenS (.t 25))), none, []⟩, ⟨(some 27), (.v (.bin .gtr (.t 26) (.k (.c (.int .i64 256))))), none, []⟩]) (.cond (.t 27) (.seq (.ops 0 [⟨(some 6), (.v (.mv (.k (.c .nil)))), none, []⟩, ⟨(some 7), (.v (.mv (.k (.c (.int .i64 8))))), none, []⟩]) .ret) .skip)) (.seq (.ops 0 [⟨(some 28), (.v (.mv (.t 10))), none, []⟩, ⟨(some 6), (.v (.mv (.t 28))), none, []⟩, ⟨(some 7), (.v (.mv (.k (.c (.int .i64 0))))), none, []⟩]) .ret)))))), 29, [(.t 6), (.t 7)]⟩
theorem h54 : fnR Try.prog DD 54 = some rf54 := by kernel_rfl
/-- papermill papermillref04.Check -/
def rf69 : RFn := ⟨(.seq (.ops 0 [⟨(some 2), (.v (.mv (.k (.c (.int .i64 0))))), none, []⟩]) (.seq (.seq (.ops 0 [⟨(some 4), (.v (.mv (.t 0))), none, []⟩, ⟨(some 5), (.v (.lenS (.t 4))), none, []⟩, ⟨(some 6), (.v (.bin .gtr (.t 5) (.k (.c (.int .i64 256))))), none, []⟩]) (.cond (.t 6) (.seq (.ops 0 [⟨(some 2), (.v (.mv (.k (.c (.int .i64 8))))), none, []⟩]) .ret) .skip)) (.seq (.seq (.ops 0 [⟨(some 3), (.v (.mv (.k (.c (.int .i64 0))))), none, []⟩]) (.block 0 (.loop (.seq (.seq (.ops 0 [⟨(some 7), (.v (.mv (.t 3))), none, []⟩, ⟨(some 8), (.v (.mv (.t 0))), none, []⟩, ⟨(some 9), (.v (.lenS (.t 8))), none, []⟩, ⟨(some 10), (.v (.bin .lss (.t 7) (.t 9))), none, []⟩]) (.cond (.t 10) .skip (.exit 0))) (.seq (.block 1 (.seq (.any 0 [⟨0, ⟨[], ⟨(some 13), (.v (.mv (.t 0))), none, []⟩⟩⟩, ⟨1, ⟨[], ⟨(some 14), (.v (.mv (.t 3))), none, []⟩⟩⟩, ⟨2, ⟨[0, 1], ⟨(some 15), (.v (.ia 2 (.t 13) (.t 14))), none, []⟩⟩⟩, ⟨3, ⟨[2, 0, 1], ⟨(some 16), (.v (.fa 0 (.t 15))), none, []⟩⟩⟩, ⟨4, ⟨[3, 2, 0, 1], ⟨(some 17), (.v (.ld (.t 16))), none, []⟩⟩⟩, ⟨5, ⟨[4, 3, 2, 0, 1], ⟨(some 18), (.v (.bin .lss (.t 17) (.k (.c (.int .i64 0))))), none, []⟩⟩⟩, ⟨6, ⟨[5, 4, 3, 2, 0, 1], ⟨(some 19), (.v (.mv (.t 18))), none, []⟩⟩⟩, ⟨7, ⟨[6, 5, 4, 3, 2, 0, 1], ⟨(some 20), (.v (.mv (.t 0))), (some ⟨19, false⟩), [(.t 0)]⟩⟩⟩, ⟨8, ⟨[6, 5, 4, 3, 2, 0, 1], ⟨(some 21), (.v (.mv (.t 3))), (some ⟨19, false⟩), [(.t 3)]⟩⟩⟩, ⟨9, ⟨[7, 8, 6, 5, 4, 3, 2, 0, 1], ⟨(some 22), (.v (.ia 2 (.t 20) (.t 21))), (some ⟨19, false⟩), [(.t 20), (.t 21)]⟩⟩⟩, ⟨10, ⟨[9, 7, 8, 6, 5, 4, 3, 2, 0, 1], ⟨(some 23), (.v (.fa 0 (.t 22))), (some ⟨19, false⟩), [(.t 22)]⟩⟩⟩, ⟨11, ⟨[10, 9, 7, 8, 6, 5, 4, 3, 2, 0, 1], ⟨(some 24), (.v (.ld (.t 23))), (some ⟨19, false⟩), [(.t 23)]⟩⟩⟩, ⟨12, ⟨[6, 5, 4, 3, 2, 0, 1], ⟨(some 25), (.v (.mv (.t 0))), (some ⟨19, false⟩), [(.t 0)]⟩⟩⟩, ⟨13, ⟨[6, 5, 4, 3, 2, 0, 1], ⟨(some 26), (.v (.mv (.t 3))), (some ⟨19, false⟩), [(.t 3)]⟩⟩⟩, ⟨14, ⟨[12, 13, 6, 5, 4, 3, 2, 0, 1], ⟨(some 27), (.v (.ia 2 (.t 25) (.t 26))), (some ⟨19, false⟩), [(.t 25), (.t 26)]⟩⟩⟩, ⟨15, ⟨[14, 12, 13, 6, 5, 4, 3, 2, 0, 1], ⟨(some 28), (.v (.fa 1 (.t 27))), (some ⟨19, false⟩), [(.t 27)]⟩⟩⟩, ⟨16, ⟨[15, 14, 12, 13, 6, 5, 4, 3, 2, 0, 1], ⟨(some 29), (.v (.ld (.t 28))), (some ⟨19, false⟩), [(.t 28)]⟩⟩⟩, ⟨17, ⟨[11, 10, 9, 7, 8, 16, 15, 14, 12, 13, 6, 5, 4, 3, 2, 0, 1], ⟨(some 30), (.v (.bin .gtr (.t 24) (.t 29))), (some ⟨19, false⟩), [(.t 24), (.t 29)]⟩⟩⟩, ⟨18, ⟨[17, 11, 10, 9, 7, 8, 16, 15, 14, 12, 13, 6, 5, 4, 3, 2, 0, 1], ⟨(some 31), (.v (.pick (.t 19) (.k (.c (.bool true))) (.t 30))), none, []⟩⟩⟩, ⟨19, ⟨[18, 17, 11, 10, 9, 7, 8, 16, 15, 14, 12, 13, 6, 5, 4, 3, 2, 0, 1], ⟨(some 32), (.v (.mv (.t 31))), none, []⟩⟩⟩, ⟨20, ⟨[19, 18, 17, 11, 10, 9, 7, 8, 16, 15, 14, 12, 13, 6, 5, 4, 3, 2, 0, 1], ⟨(some 33), (.v (.mv (.t 0))), (some ⟨32, false⟩), [(.t 0)]⟩⟩⟩, ⟨21, ⟨[19, 18, 17, 11, 10, 9, 7, 8, 16, 15, 14, 12, 13, 6, 5, 4, 3, 2, 0, 1], ⟨(some 34), (.v (.mv (.t 3))), (some ⟨32, false⟩), [(.t 3)]⟩⟩⟩, ⟨22, ⟨[20, 21, 19, 18, 17, 11, 10, 9, 7, 8, 16, 15, 14, 12, 13, 6, 5, 4, 3, 2, 0, 1], ⟨(some 35), (.v (.ia 2 (.t 33) (.t 34))), (some ⟨32, false⟩), [(.t 33), (.t 34)]⟩⟩⟩, ⟨23, ⟨[22, 20, 21, 19, 18, 17, 11, 10, 9, 7, 8, 16, 15, 14, 12, 13, 6, 5, 4, 3, 2, 0, 1], ⟨(some 36), (.v (.fa 1 (.t 35))), (some ⟨32, false⟩), [(.t 35)]⟩⟩⟩, ⟨24, ⟨[23, 22, 20, 21, 19, 18, 17, 11, 10, 9, 7, 8, 16, 15, 14, 12, 13, 6, 5, 4, 3, 2, 0, 1], ⟨(some 37), (.v (.ld (.t 36))), (some ⟨32, false⟩), [(.t 36)]⟩⟩⟩, ⟨25, ⟨[24, 23, 22, 20, 21, 19, 18, 17, 11, 10, 9, 7, 8, 16, 15, 14, 12, 13, 6, 5, 4, 3, 2, 0, 1], ⟨(some 38), (.v (.bin .gtr (.t 37) (.k (.c (.int .i64 17179869184))))), (some ⟨32, false⟩), [(.t 37), (.k (.c (.int .i64 17179869184)))]⟩⟩⟩, ⟨26, ⟨[25, 24, 23, 22, 20, 21, 19, 18, 17, 11, 10, 9, 7, 8, 16, 15, 14, 12, 13, 6, 5, 4, 3, 2, 0, 1], ⟨(some 39), (.v (.pick (.t 32) (.k (.c (.bool true))) (.t 38))), none, []⟩⟩⟩]) (.cond (.t 39) (.seq (.ops 0 [⟨(some 2), (.v (.mv (.k (.c (.int .i64 1))))), none, []⟩]) .ret) .skip))) (.ops 0 [⟨(some 11), (.v (.mv (.t 3))), none, []⟩, ⟨(some 12), (.v (.bin .add (.t 11) (.k (.c (.int .i64 1))))), none, []⟩, ⟨(some 3), (.v (.mv (.t 12))), none, []⟩])))))) (.seq (.ops 0 [⟨(some 2), (.v (.mv (.k (.c (.int .i64 0))))), none, []⟩]) .ret)))), 40, [(.t 2)]⟩
theorem h69 : fnR Try.prog DD 69 = some rf69 := by kernel_rfl
/-- papermill papermillref04.combine -/
def rf70 : RFn := ⟨(.seq (.ops 0 [⟨(some 6), (.v (.mv (.k (.c .nil)))), none, []⟩]) (.seq (.ops 0 [⟨(some 13), (.v (.mv (.t 0))), none, []⟩, ⟨(some 14), (.v (.mv (.t 1))), none, []⟩, ⟨(some 15), (.v (.det 80 [⟨false, [(.sl [(.int .i64)])]⟩] [(.t 13), (.t 14)])), none, []⟩, ⟨(some 7), (.v (.mv (.t 15))), none, []⟩]) (.seq (.ops 0 [⟨(some 8), (.v (.mv (.k (.c .nil)))), none, []⟩]) (.seq (.seq (.ops 0 [⟨(some 9), (.v (.mv (.k (.c (.int .i64 0))))), none, []⟩]) (.block 0 (.loop (.seq (.seq (.ops 0 [⟨(some 16), (.v (.mv (.t 9))), none, []⟩, ⟨(some 17), (.v (.bin .add (.t 16) (.k (.c (.int .i64 1))))), none, []⟩, ⟨(some 18), (.v (.mv (.t 7))), none, []⟩, ⟨(some 19), (.v (.lenS (.t 18))), none, []⟩, ⟨(some 20), (.v (.bin .lss (.t 17) (.t 19))), none, []⟩]) (.cond (.t 20) .skip (.exit 0))) (.seq (.block 1 (.seq (.any 0 [⟨0, ⟨[], ⟨(some 23), (.v (.mv (.t 0))), none, []⟩⟩⟩, ⟨1, ⟨[], ⟨(some 24), (.v (.mv (.t 7))), none, []⟩⟩⟩, ⟨2, ⟨[], ⟨(some 25), (.v (.mv (.t 9))), none, []⟩⟩⟩, ⟨3, ⟨[1, 2], ⟨(some 26), (.v (.ia 1 (.t 24) (.t 25))), none, []⟩⟩⟩, ⟨4, ⟨[3, 1, 2], ⟨(some 27), (.v (.ld (.t 26))), none, []⟩⟩⟩, ⟨5, ⟨[0, 4, 3, 1, 2], ⟨(some 28), (.v (.det 81 [⟨false, [.bool]⟩] [(.t 23), (.t 27)])), none, []⟩⟩⟩, ⟨6, ⟨[], ⟨(some 29), (.v (.mv (.t 1))), none, []⟩⟩⟩, ⟨7, ⟨[], ⟨(some 30), (.v (.mv (.t 7))), none, []⟩⟩⟩, ⟨8, ⟨[], ⟨(some 31), (.v (.mv (.t 9))), none, []⟩⟩⟩, ⟨9, ⟨[7, 8], ⟨(some 32), (.v (.ia 1 (.t 30) (.t 31))), none, []⟩⟩⟩, ⟨10, ⟨[9, 7, 8], ⟨(some 33), (.v (.ld (.t 32))), none, []⟩⟩⟩, ⟨11, ⟨[6, 10, 9, 7, 8, 5, 0, 4, 3, 1, 2], ⟨(some 34), (.v (.det 81 [⟨false, [.bool]⟩] [(.t 29), (.t 33)])), none, []⟩⟩⟩, ⟨12, ⟨[11, 6, 10, 9, 7, 8, 5, 0, 4, 3, 1, 2], ⟨(some 10), (.v (.mv (.t 28))), none, []⟩⟩⟩, ⟨13, ⟨[12, 11, 6, 10, 9, 7, 8, 5, 0, 4, 3, 1, 2], ⟨(some 11), (.v (.mv (.t 34))), none, []⟩⟩⟩]) (.seq (.seq (.ops 0 [⟨(some 35), (.v (.mv (.t 2))), none, []⟩, ⟨(some 36), (.v (.bin .eql (.t 35) (.k (.c (.int .i64 0))))), none, []⟩, ⟨(some 37), (.v (.mv (.t 36))), none, []⟩, ⟨(some 38), (.v (.mv (.t 10))), (some ⟨37, true⟩), [(.t 10)]⟩, ⟨(some 39), (.v (.un .not (.t 38))), (some ⟨37, true⟩), [(.t 38)]⟩, ⟨(some 40), (.v (.pick (.t 37) (.t 39) (.k (.c (.bool false))))), none, []⟩, ⟨(some 41), (.v (.mv (.t 40))), none, []⟩, ⟨(some 42), (.v (.mv (.t 11))), (some ⟨41, true⟩), [(.t 11)]⟩, ⟨(some 43), (.v (.un .not (.t 42))), (some ⟨41, true⟩), [(.t 42)]⟩, ⟨(some 44), (.v (.pick (.t 41) (.t 43) (.k (.c (.bool false))))), none, []⟩, ⟨(some 45), (.v (.mv (.t 44))), none, []⟩, ⟨(some 46), (.v (.mv (.t 2))), (some ⟨45, false⟩), [(.t 2)]⟩, ⟨(some 47), (.v (.bin .eql (.t 46) (.k (.c (.int .i64 1))))), (some ⟨45, false⟩), [(.t 46), (.k (.c (.int .i64 1)))]⟩, ⟨(some 48), (.v (.mv (.t 47))), (some ⟨45, false⟩), [(.t 47)]⟩, ⟨(some 49), (.v (.mv (.t 10))), (some ⟨48, true⟩), [(.t 10)]⟩, ⟨(some 50), (.v (.mv (.t 49))), (some ⟨48, true⟩), [(.t 49)]⟩, ⟨(some 51), (.v (.mv (.t 11))), (some ⟨50, true⟩), [(.t 11)]⟩, ⟨(some 52), (.v (.pick (.t 50) (.t 51) (.k (.c (.bool false))))), (some ⟨48, true⟩), [(.t 50), (.t 51), (.k (.c (.bool false)))]⟩, ⟨(some 53), (.v (.un .not (.t 52))), (some ⟨48, true⟩), [(.t 52)]⟩, ⟨(some 54), (.v (.pick (.t 48) (.t 53) (.k (.c (.bool false))))), (some ⟨45, false⟩), [(.t 48), (.t 53), (.k (.c (.bool false)))]⟩, ⟨(some 55), (.v (.pick (.t 45) (.k (.c (.bool true))) (.t 54))), none, []⟩, ⟨(some 56), (.v (.mv (.t 55))), none, []⟩, ⟨(some 57), (.v (.mv (.t 2))), (some ⟨56, false⟩), [(.t 2)]⟩, ⟨(some 58), (.v (.bin .eql (.t 57) (.k (.c (.int .i64 2))))), (some ⟨56, false⟩), [(.t 57), (.k (.c (.int .i64 2)))]⟩, ⟨(some 59), (.v (.mv (.t 58))), (some ⟨56, false⟩), [(.t 58)]⟩, ⟨(some 60), (.v (.mv (.t 10))), (some ⟨59, true⟩), [(.t 10)]⟩, ⟨(some 61), (.v (.un .not (.t 60))), (some ⟨59, true⟩), [(.t 60)]⟩, ⟨(some 62), (.v (.mv (.t 61))), (some ⟨59, true⟩), [(.t 61)]⟩, ⟨(some 63), (.v (.mv (.t 11))), (some ⟨62, false⟩), [(.t 11)]⟩, ⟨(some 64), (.v (.pick (.t 62) (.k (.c (.bool true))) (.t 63))), (some ⟨59, true⟩), [(.t 62), (.k (.c (.bool true))), (.t 63)]⟩, ⟨(some 65), (.v (.pick (.t 59) (.t 64) (.k (.c (.bool false))))), (some ⟨56, false⟩), [(.t 59), (.t 64), (.k (.c (.bool false)))]⟩, ⟨(some 66), (.v (.pick (.t 56) (.k (.c (.bool true))) (.t 65))), none, []⟩]) (.cond (.t 66) (.exit 1) .skip)) (.seq (.ops 0 [⟨(some 67), (.v (.mv (.t 8))), none, []⟩, ⟨(some 68), (.v (.lenS (.t 67))), none, []⟩, ⟨(some 69), (.v (.bin .sub (.t 68) (.k (.c (.int .i64 1))))), none, []⟩, ⟨(some 12), (.v (.mv (.t 69))), none, []⟩]) (.seq (.any 0 [⟨0, ⟨[], ⟨(some 70), (.v (.mv (.t 12))), none, []⟩⟩⟩, ⟨1, ⟨[0], ⟨(some 71), (.v (.bin .geq (.t 70) (.k (.c (.int .i64 0))))), none, []⟩⟩⟩, ⟨2, ⟨[1, 0], ⟨(some 72), (.v (.mv (.t 71))), none, []⟩⟩⟩, ⟨3, ⟨[2, 1, 0], ⟨(some 73), (.v (.mv (.t 8))), (some ⟨72, true⟩), [(.t 8)]⟩⟩⟩, ⟨4, ⟨[2, 1, 0], ⟨(some 74), (.v (.mv (.t 12))), (some ⟨72, true⟩), [(.t 12)]⟩⟩⟩, ⟨5, ⟨[3, 4, 2, 1, 0], ⟨(some 75), (.v (.ia 2 (.t 73) (.t 74))), (some ⟨72, true⟩), [(.t 73), (.t 74)]⟩⟩⟩, ⟨6, ⟨[5, 3, 4, 2, 1, 0], ⟨(some 76), (.v (.fa 1 (.t 75))), (some ⟨72, true⟩), [(.t 75)]⟩⟩⟩, ⟨7, ⟨[6, 5, 3, 4, 2, 1, 0], ⟨(some 77), (.v (.ld (.t 76))), (some ⟨72, true⟩), [(.t 76)]⟩⟩⟩, ⟨8, ⟨[2, 1, 0], ⟨(some 78), (.v (.mv (.t 7))), (some ⟨72, true⟩), [(.t 7)]⟩⟩⟩, ⟨9, ⟨[2, 1, 0], ⟨(some 79), (.v (.mv (.t 9))), (some ⟨72, true⟩), [(.t 9)]⟩⟩⟩, ⟨10, ⟨[8, 9, 2, 1, 0], ⟨(some 80), (.v (.ia 1 (.t 78) (.t 79))), (some ⟨72, true⟩), [(.t 78), (.t 79)]⟩⟩⟩, ⟨11, ⟨[10, 8, 9, 2, 1, 0], ⟨(some 81), (.v (.ld (.t 80))), (some ⟨72, true⟩), [(.t 80)]⟩⟩⟩, ⟨12, ⟨[7, 6, 5, 3, 4, 11, 10, 8, 9, 2, 1, 0], ⟨(some 82), (.v (.bin .eql (.t 77) (.t 81))), (some ⟨72, true⟩), [(.t 77), (.t 81)]⟩⟩⟩, ⟨13, ⟨[12, 7, 6, 5, 3, 4, 11, 10, 8, 9, 2, 1, 0], ⟨(some 83), (.v (.pick (.t 72) (.t 82) (.k (.c (.bool false))))), none, []⟩⟩⟩]) (.cond (.t 83) (.ops 0 [⟨(some 84), (.v (.mv (.t 8))), none, []⟩, ⟨(some 85), (.v (.mv (.t 12))), none, []⟩, ⟨(some 86), (.v (.mv (.t 7))), none, []⟩, ⟨(some 87), (.v (.mv (.t 9))), none, []⟩, ⟨(some 88), (.v (.bin .add (.t 87) (.k (.c (.int .i64 1))))), none, []⟩, ⟨(some 89), (.v (.ia 1 (.t 86) (.t 88))), none, []⟩, ⟨(some 90), (.v (.ld (.t 89))), none, []⟩, ⟨(some 91), (.v (.ia 2 (.t 84) (.t 85))), none, []⟩, ⟨(some 92), (.v (.fa 1 (.t 91))), none, []⟩, ⟨none, (.v (.st 1 (.t 92) (.t 90))), none, []⟩]) (.any 2 [⟨0, ⟨[], ⟨(some 93), (.v (.mv (.t 8))), none, []⟩⟩⟩, ⟨1, ⟨[], ⟨(some 94), (.v (.mv (.t 7))), none, []⟩⟩⟩, ⟨2, ⟨[], ⟨(some 95), (.v (.mv (.t 9))), none, []⟩⟩⟩, ⟨3, ⟨[1, 2], ⟨(some 96), (.v (.ia 1 (.t 94) (.t 95))), none, []⟩⟩⟩, ⟨4, ⟨[3, 1, 2], ⟨(some 97), (.v (.ld (.t 96))), none, []⟩⟩⟩, ⟨5, ⟨[], ⟨(some 98), (.v (.mv (.t 7))), none, []⟩⟩⟩, ⟨6, ⟨[], ⟨(some 99), (.v (.mv (.t 9))), none, []⟩⟩⟩, ⟨7, ⟨[6], ⟨(some 100), (.v (.bin .add (.t 99) (.k (.c (.int .i64 1))))), none, []⟩⟩⟩, ⟨8, ⟨[5, 7, 6], ⟨(some 101), (.v (.ia 1 (.t 98) (.t 100))), none, []⟩⟩⟩, ⟨9, ⟨[8, 5, 7, 6], ⟨(some 102), (.v (.ld (.t 101))), none, []⟩⟩⟩, ⟨10, ⟨[4, 3, 1, 2, 9, 8, 5, 7, 6], ⟨(some 103), (.v (.build [(.c (.int .i64 0)), (.c (.int .i64 0))] [⟨0, ⟨1, (.t 97)⟩⟩, ⟨1, ⟨1, (.t 102)⟩⟩])), none, []⟩⟩⟩, ⟨11, ⟨[10, 4, 3, 1, 2, 9, 8, 5, 7, 6], ⟨(some 104), (.v (.bsl 0 34 [(.int .i64), (.int .i64)] [(.t 103)])), none, []⟩⟩⟩, ⟨12, ⟨[0, 11, 10, 4, 3, 1, 2, 9, 8, 5, 7, 6], ⟨(some 105), (.v (.app 1 34 [(.int .i64), (.int .i64)] 8796093022208 (.t 93) (.t 104))), none, []⟩⟩⟩, ⟨13, ⟨[12, 0, 11, 10, 4, 3, 1, 2, 9, 8, 5, 7, 6], ⟨(some 8), (.v (.mv (.t 105))), none, []⟩⟩⟩]))))))) (.ops 0 [⟨(some 21), (.v (.mv (.t 9))), none, []⟩, ⟨(some 22), (.v (.bin .add (.t 21) (.k (.c (.int .i64 1))))), none, []⟩, ⟨(some 9), (.v (.mv (.t 22))), none, []⟩])))))) (.seq (.ops 0 [⟨(some 106), (.v (.mv (.t 8))), none, []⟩, ⟨(some 6), (.v (.mv (.t 106))), none, []⟩]) .ret))))), 107, [(.t 6)]⟩
theorem h70 : fnR Try.prog DD 70 = some rf70 := by kernel_rfl
/-- papermill papermillref04.ends -/
def rf80 : RFn := ⟨(.seq (.ops 0 [⟨(some 4), (.v (.mv (.k (.c .nil)))), none, []⟩]) (.seq (.ops 0 [⟨(some 5), (.v (.mv (.k (.c .nil)))), none, []⟩]) (.seq (.seq (.ops 0 [⟨(some 6), (.v (.mv (.k (.c (.int .i64 0))))), none, []⟩]) (.block 0 (.loop (.seq (.seq (.ops 0 [⟨(some 8), (.v (.mv (.t 6))), none, []⟩, ⟨(some 9), (.v (.mv (.t 0))), none, []⟩, ⟨(some 10), (.v (.lenS (.t 9))), none, []⟩, ⟨(some 11), (.v (.bin .lss (.t 8) (.t 10))), none, []⟩]) (.cond (.t 11) .skip (.exit 0))) (.seq (.block 1 (.any 0 [⟨0, ⟨[], ⟨(some 14), (.v (.mv (.t 5))), none, []⟩⟩⟩, ⟨1, ⟨[], ⟨(some 15), (.v (.mv (.t 0))), none, []⟩⟩⟩, ⟨2, ⟨[], ⟨(some 16), (.v (.mv (.t 6))), none, []⟩⟩⟩, ⟨3, ⟨[1, 2], ⟨(some 17), (.v (.ia 2 (.t 15) (.t 16))), none, []⟩⟩⟩, ⟨4, ⟨[3, 1, 2], ⟨(some 18), (.v (.fa 0 (.t 17))), none, []⟩⟩⟩, ⟨5, ⟨[4, 3, 1, 2], ⟨(some 19), (.v (.ld (.t 18))), none, []⟩⟩⟩, ⟨6, ⟨[0, 5, 4, 3, 1, 2], ⟨(some 20), (.v (.det 94 [⟨false, [(.sl [(.int .i64)])]⟩] [(.t 14), (.t 19)])), none, []⟩⟩⟩, ⟨7, ⟨[], ⟨(some 21), (.v (.mv (.t 0))), none, []⟩⟩⟩, ⟨8, ⟨[], ⟨(some 22), (.v (.mv (.t 6))), none, []⟩⟩⟩, ⟨9, ⟨[7, 8], ⟨(some 23), (.v (.ia 2 (.t 21) (.t 22))), none, []⟩⟩⟩, ⟨10, ⟨[9, 7, 8], ⟨(some 24), (.v (.fa 1 (.t 23))), none, []⟩⟩⟩, ⟨11, ⟨[10, 9, 7, 8], ⟨(some 25), (.v (.ld (.t 24))), none, []⟩⟩⟩, ⟨12, ⟨[11, 10, 9, 7, 8, 6, 0, 5, 4, 3, 1, 2], ⟨(some 26), (.v (.det 94 [⟨false, [(.sl [(.int .i64)])]⟩] [(.t 20), (.t 25)])), none, []⟩⟩⟩, ⟨13, ⟨[12, 11, 10, 9, 7, 8, 6, 0, 5, 4, 3, 1, 2], ⟨(some 5), (.v (.mv (.t 26))), none, []⟩⟩⟩])) (.ops 0 [⟨(some 12), (.v (.mv (.t 6))), none, []⟩, ⟨(some 13), (.v (.bin .add (.t 12) (.k (.c (.int .i64 1))))), none, []⟩, ⟨(some 6), (.v (.mv (.t 13))), none, []⟩])))))) (.seq (.seq (.ops 0 [⟨(some 7), (.v (.mv (.k (.c (.int .i64 0))))), none, []⟩]) (.block 2 (.loop (.seq (.seq (.ops 0 [⟨(some 27), (.v (.mv (.t 7))), none, []⟩, ⟨(some 28), (.v (.mv (.t 1))), none, []⟩, ⟨(some 29), (.v (.lenS (.t 28))), none, []⟩, ⟨(some 30), (.v (.bin .lss (.t 27) (.t 29))), none, []⟩]) (.cond (.t 30) .skip (.exit 2))) (.seq (.block 3 (.any 0 [⟨0, ⟨[], ⟨(some 33), (.v (.mv (.t 5))), none, []⟩⟩⟩, ⟨1, ⟨[], ⟨(some 34), (.v (.mv (.t 1))), none, []⟩⟩⟩, ⟨2, ⟨[], ⟨(some 35), (.v (.mv (.t 7))), none, []⟩⟩⟩, ⟨3, ⟨[1, 2], ⟨(some 36), (.v (.ia 2 (.t 34) (.t 35))), none, []⟩⟩⟩, ⟨4, ⟨[3, 1, 2], ⟨(some 37), (.v (.fa 0 (.t 36))), none, []⟩⟩⟩, ⟨5, ⟨[4, 3, 1, 2], ⟨(some 38), (.v (.ld (.t 37))), none, []⟩⟩⟩, ⟨6, ⟨[0, 5, 4, 3, 1, 2], ⟨(some 39), (.v (.det 94 [⟨false, [(.sl [(.int .i64)])]⟩] [(.t 33), (.t 38)])), none, []⟩⟩⟩, ⟨7, ⟨[], ⟨(some 40), (.v (.mv (.t 1))), none, []⟩⟩⟩, ⟨8, ⟨[], ⟨(some 41), (.v (.mv (.t 7))), none, []⟩⟩⟩, ⟨9, ⟨[7, 8], ⟨(some 42), (.v (.ia 2 (.t 40) (.t 41))), none, []⟩⟩⟩, ⟨10, ⟨[9, 7, 8], ⟨(some 43), (.v (.fa 1 (.t 42))), none, []⟩⟩⟩, ⟨11, ⟨[10, 9, 7, 8], ⟨(some 44), (.v (.ld (.t 43))), none, []⟩⟩⟩, ⟨12, ⟨[11, 10, 9, 7, 8, 6, 0, 5, 4, 3, 1, 2], ⟨(some 45), (.v (.det 94 [⟨false, [(.sl [(.int .i64)])]⟩] [(.t 39), (.t 44)])), none, []⟩⟩⟩, ⟨13, ⟨[12, 11, 10, 9, 7, 8, 6, 0, 5, 4, 3, 1, 2], ⟨(some 5), (.v (.mv (.t 45))), none, []⟩⟩⟩])) (.ops 0 [⟨(some 31), (.v (.mv (.t 7))), none, []⟩, ⟨(some 32), (.v (.bin .add (.t 31) (.k (.c (.int .i64 1))))), none, []⟩, ⟨(some 7), (.v (.mv (.t 32))), none, []⟩])))))) (.seq (.ops 0 [⟨(some 46), (.v (.mv (.t 5))), none, []⟩, ⟨(some 4), (.v (.mv (.t 46))), none, []⟩]) .ret))))), 47, [(.t 4)]⟩
theorem h80 : fnR Try.prog DD 80 = some rf80 := by kernel_rfl
/-- papermill papermillref04.Has -/
def rf81 : RFn := ⟨(.seq (.ops 0 [⟨(some 4), (.v (.mv (.k (.c (.bool false))))), none, []⟩]) (.seq (.seq (.ops 0 [⟨(some 5), (.v (.mv (.k (.c (.int .i64 0))))), none, []⟩]) (.block 0 (.loop (.seq (.seq (.ops 0 [⟨(some 6), (.v (.mv (.t 5))), none, []⟩, ⟨(some 7), (.v (.mv (.t 0))), none, []⟩, ⟨(some 8), (.v (.lenS (.t 7))), none, []⟩, ⟨(some 9), (.v (.bin .lss (.t 6) (.t 8))), none, []⟩]) (.cond (.t 9) .skip (.exit 0))) (.seq (.block 1 (.seq (.ops 0 [⟨(some 12), (.v (.mv (.t 0))), none, []⟩, ⟨(some 13), (.v (.mv (.t 5))), none, []⟩, ⟨(some 14), (.v (.ia 2 (.t 12) (.t 13))), none, []⟩, ⟨(some 15), (.v (.fa 0 (.t 14))), none, []⟩, ⟨(some 16), (.v (.ld (.t 15))), none, []⟩, ⟨(some 17), (.v (.mv (.t 1))), none, []⟩, ⟨(some 18), (.v (.bin .leq (.t 16) (.t 17))), none, []⟩, ⟨(some 19), (.v (.mv (.t 18))), none, []⟩, ⟨(some 20), (.v (.mv (.t 1))), (some ⟨19, true⟩), [(.t 1)]⟩, ⟨(some 21), (.v (.mv (.t 0))), (some ⟨19, true⟩), [(.t 0)]⟩, ⟨(some 22), (.v (.mv (.t 5))), (some ⟨19, true⟩), [(.t 5)]⟩, ⟨(some 23), (.v (.ia 2 (.t 21) (.t 22))), (some ⟨19, true⟩), [(.t 21), (.t 22)]⟩, ⟨(some 24), (.v (.fa 1 (.t 23))), (some ⟨19, true⟩), [(.t 23)]⟩, ⟨(some 25), (.v (.ld (.t 24))), (some ⟨19, true⟩), [(.t 24)]⟩, ⟨(some 26), (.v (.bin .lss (.t 20) (.t 25))), (some ⟨19, true⟩), [(.t 20), (.t 25)]⟩, ⟨(some 27), (.v (.pick (.t 19) (.t 26) (.k (.c (.bool false))))), none, []⟩]) (.cond (.t 27) (.seq (.ops 0 [⟨(some 4), (.v (.mv (.k (.c (.bool true))))), none, []⟩]) .ret) .skip))) (.ops 0 [⟨(some 10), (.v (.mv (.t 5))), none, []⟩, ⟨(some 11), (.v (.bin .add (.t 10) (.k (.c (.int .i64 1))))), none, []⟩, ⟨(some 5), (.v (.mv (.t 11))), none, []⟩])))))) (.seq (.ops 0 [⟨(some 4), (.v (.mv (.k (.c (.bool false))))), none, []⟩]) .ret))), 28, [(.t 4)]⟩
theorem h81 : fnR Try.prog DD 81 = some rf81 := by kernel_rfl
/-- papermill papermillref04.with -/
def rf94 : RFn := ⟨(.seq (.ops 0 [⟨(some 4), (.v (.mv (.k (.c .nil)))), none, []⟩]) (.seq (.ops 0 [⟨(some 5), (.v (.mv (.k (.c (.int .i64 0))))), none, []⟩]) (.seq (.block 0 (.loop (.seq (.seq (.ops 0 [⟨(some 7), (.v (.mv (.t 5))), none, []⟩, ⟨(some 8), (.v (.mv (.t 0))), none, []⟩, ⟨(some 9), (.v (.lenS (.t 8))), none, []⟩, ⟨(some 10), (.v (.bin .lss (.t 7) (.t 9))), none, []⟩, ⟨(some 11), (.v (.mv (.t 10))), none, []⟩, ⟨(some 12), (.v (.mv (.t 0))), (some ⟨11, true⟩), [(.t 0)]⟩, ⟨(some 13), (.v (.mv (.t 5))), (some ⟨11, true⟩), [(.t 5)]⟩, ⟨(some 14), (.v (.ia 1 (.t 12) (.t 13))), (some ⟨11, true⟩), [(.t 12), (.t 13)]⟩, ⟨(some 15), (.v (.ld (.t 14))), (some ⟨11, true⟩), [(.t 14)]⟩, ⟨(some 16), (.v (.mv (.t 1))), (some ⟨11, true⟩), [(.t 1)]⟩, ⟨(some 17), (.v (.bin .lss (.t 15) (.t 16))), (some ⟨11, true⟩), [(.t 15), (.t 16)]⟩, ⟨(some 18), (.v (.pick (.t 11) (.t 17) (.k (.c (.bool false))))), none, []⟩]) (.cond (.t 18) .skip (.exit 0))) (.block 1 (.ops 0 [⟨(some 19), (.v (.mv (.t 5))), none, []⟩, ⟨(some 20), (.v (.bin .add (.t 19) (.k (.c (.int .i64 1))))), none, []⟩, ⟨(some 5), (.v (.mv (.t 20))), none, []⟩]))))) (.seq (.seq (.ops 0 [⟨(some 21), (.v (.mv (.t 5))), none, []⟩, ⟨(some 22), (.v (.mv (.t 0))), none, []⟩, ⟨(some 23), (.v (.lenS (.t 22))), none, []⟩, ⟨(some 24), (.v (.bin .lss (.t 21) (.t 23))), none, []⟩, ⟨(some 25), (.v (.mv (.t 24))), none, []⟩, ⟨(some 26), (.v (.mv (.t 0))), (some ⟨25, true⟩), [(.t 0)]⟩, ⟨(some 27), (.v (.mv (.t 5))), (some ⟨25, true⟩), [(.t 5)]⟩, ⟨(some 28), (.v (.ia 1 (.t 26) (.t 27))), (some ⟨25, true⟩), [(.t 26), (.t 27)]⟩, ⟨(some 29), (.v (.ld (.t 28))), (some ⟨25, true⟩), [(.t 28)]⟩, ⟨(some 30), (.v (.mv (.t 1))), (some ⟨25, true⟩), [(.t 1)]⟩, ⟨(some 31), (.v (.bin .eql (.t 29) (.t 30))), (some ⟨25, true⟩), [(.t 29), (.t 30)]⟩, ⟨(some 32), (.v (.pick (.t 25) (.t 31) (.k (.c (.bool false))))), none, []⟩]) (.cond (.t 32) (.seq (.ops 0 [⟨(some 33), (.v (.mv (.t 0))), none, []⟩, ⟨(some 4), (.v (.mv (.t 33))), none, []⟩]) .ret) .skip)) (.seq (.ops 2 [⟨(some 34), (.v (.bsl 0 3 [(.int .i64)] [])), none, []⟩, ⟨(some 35), (.v (.mv (.t 0))), none, []⟩, ⟨(some 36), (.v (.mv (.t 5))), none, []⟩, ⟨(some 37), (.v (.sls 1 (.t 35) none (some (.t 36)))), none, []⟩, ⟨(some 38), (.v (.app 1 3 [(.int .i64)] 17592186044416 (.t 34) (.t 37))), none, []⟩, ⟨(some 6), (.v (.mv (.t 38))), none, []⟩]) (.seq (.ops 2 [⟨(some 39), (.v (.mv (.t 6))), none, []⟩, ⟨(some 40), (.v (.mv (.t 1))), none, []⟩, ⟨(some 41), (.v (.bsl 0 3 [(.int .i64)] [(.t 40)])), none, []⟩, ⟨(some 42), (.v (.app 1 3 [(.int .i64)] 17592186044416 (.t 39) (.t 41))), none, []⟩, ⟨(some 6), (.v (.mv (.t 42))), none, []⟩]) (.seq (.ops 1 [⟨(some 43), (.v (.mv (.t 6))), none, []⟩, ⟨(some 44), (.v (.mv (.t 0))), none, []⟩, ⟨(some 45), (.v (.mv (.t 5))), none, []⟩, ⟨(some 46), (.v (.sls 1 (.t 44) (some (.t 45)) none)), none, []⟩, ⟨(some 47), (.v (.app 0 3 [(.int .i64)] 17592186044416 (.t 43) (.t 46))), none, []⟩, ⟨(some 4), (.v (.mv (.t 47))), none, []⟩]) .ret))))))), 48, [(.t 4)]⟩
theorem h94 : fnR Try.prog DD 94 = some rf94 := by kernel_rfl
def vc24 (E : Env) (x1 : List (List C)) (x2 : List (List C)) (Q : List C → Prop) : Prop :=
  Br (E.not (E.eq (E.len x1) (E.len x2)))
  (Q [.bool false])
  (LoopP1 (fun (i3 : Int) (K4 : (Int) → Prop) =>
    Br (E.lt i3 (E.len x1))
      (((E.le 0 i3) = true) ∧ 
        (((E.lt i3 (E.len x2)) = true) ∧ 
        (Br (E.not (E.and (E.eq (E.gi (E.cell x1 i3 0)) (E.gi (E.cell x2 i3 0))) (E.and (E.eq (E.gi (E.cell x1 i3 1)) (E.gi (E.cell x2 i3 1))) true)))
        (Q [.bool false])
        (K4 ((E.add .i64 i3 1))))))
      (Q [.bool true]))
    (0))
theorem w24 {P : Program} {tbl : FuncId → List A → List C}  {x1 : List (List C)} {x2 : List (List C)} {row : List C} (h : vc24 (stdE P tbl) x1 x2 fun c => c = row) : WPg P tbl rf24 [(false, [.bool])] row [.c (.sl [.int .i64, .int .i64] x1), .c (.sl [.int .i64, .int .i64] x2)] := by
  refine ⟨?_⟩
  revert h
  generalize hE : stdE P tbl = E
  intro h
  unfold vc24 at h
  cbv
  refine ⟨fun hb5 => ?_, fun hb5 => ?_⟩
  · replace h := h.t hb5
    have h : _ = row := h
    subst h
    repeat' (first | exact trivial | exact rfl | refine And.intro ?_ ?_)
  · replace h := h.f hb5
    obtain ⟨I, μ, h0, hI⟩ := h
    refine LoopW.inv (fun R R' s h k => RCode.wp_mono _ R R' s h k) (fun p : Int => (fun (i3 : Int) => (⟨[.c (.sl [.int .i64, .int .i64] x1), .c (.sl [.int .i64, .int .i64] x2), .u, .u, .u, .c (.int .i64 i3), .u, .u, .u, .u, .u, .u, .u, .u, .u, .u, .u, .u, .u, .u, .u, .u, .u, .u, .u, .u], []⟩ : St)) p) (fun p => I p) (fun p => μ p) _ h0 ?_ ?_
    · refine GSt.ren [] rfl rfl rfl (fun i hi => absurd hi (Nat.not_lt_zero i)) (Nat.zero_le _) ?_ ?_
      all_goals (repeat' (first | exact trivial | exact Or.inl rfl | exact Or.inr rfl | refine And.intro ?_ ?_))
    · rintro i3 h
      replace h := hI i3 h
      cbv
      refine ⟨fun hb6 => ?_, fun hb6 => ?_⟩
      · replace h := h.t hb6
        have c7 := h.1
        refine ⟨c7, ?_⟩
        replace h := h.2
        refine ⟨hb6, ?_⟩
        refine ⟨c7, ?_⟩
        have c8 := h.1
        refine ⟨c8, ?_⟩
        replace h := h.2
        refine ⟨fun hb9 => ?_, fun hb9 => ?_⟩
        · replace h := h.t hb9
          have h : _ = row := h
          subst h
          repeat' (first | exact trivial | exact rfl | refine And.intro ?_ ?_)
        · replace h := h.f hb9
          refine ⟨_, h.1, GSt.ren [] rfl rfl rfl (fun i hi => absurd hi (Nat.not_lt_zero i)) (Nat.zero_le _) ?_ ?_, h.2⟩
          all_goals (repeat' (first | exact trivial | exact Or.inl rfl | exact Or.inr rfl | refine And.intro ?_ ?_))
      · replace h := h.f hb6
        have h : _ = row := h
        subst h
        repeat' (first | exact trivial | exact rfl | refine And.intro ?_ ?_)
def vc39 (E : Env) (x1 : List (List C)) (Q : List C → Prop) : Prop :=
  (E.pok 49 [(false, [.sl [.int .i64, .int .i64]]), (false, [.int .i64])] [.c (.sl [.int .i64, .int .i64] x1), .c (.nil), .fn 50 []]) ∧ (∀ r2 : Nat → C, r2 = E.res 49 [.c (.sl [.int .i64, .int .i64] x1), .c (.nil), .fn 50 []] → 
  (Q [.sl [.int .i64, .int .i64] (E.gl (r2 0)), .int .i64 (E.gi (r2 1))]))
theorem w39 {P : Program} {tbl : FuncId → List A → List C}  {x1 : List (List C)} {row : List C} (h : vc39 (stdE P tbl) x1 fun c => c = row) : WPg P tbl rf39 [(false, [.sl [.int .i64, .int .i64]]), (false, [.int .i64])] row [.c (.sl [.int .i64, .int .i64] x1)] := by
  refine ⟨?_⟩
  revert h
  generalize hE : stdE P tbl = E
  intro h
  unfold vc39 at h
  cbv
  have c3 := h.1
  refine ⟨c3, ?_⟩
  replace h := h.2 _ rfl
  have h : _ = row := h
  subst h
  repeat' (first | exact trivial | exact rfl | refine And.intro ?_ ?_)
def vc43 (E : Env) (x1 : List (List C)) (Q : List C → Prop) : Prop :=
  (E.pok 54 [(false, [.sl [.int .i64, .int .i64]]), (false, [.int .i64])] [.c (.sl [.int .i64, .int .i64] x1), .c (.nil), .c (.int .i64 0)]) ∧ (∀ r2 : Nat → C, r2 = E.res 54 [.c (.sl [.int .i64, .int .i64] x1), .c (.nil), .c (.int .i64 0)] → 
  (Q [.sl [.int .i64, .int .i64] (E.gl (r2 0)), .int .i64 (E.gi (r2 1))]))
theorem w43 {P : Program} {tbl : FuncId → List A → List C}  {x1 : List (List C)} {row : List C} (h : vc43 (stdE P tbl) x1 fun c => c = row) : WPg P tbl rf43 [(false, [.sl [.int .i64, .int .i64]]), (false, [.int .i64])] row [.c (.sl [.int .i64, .int .i64] x1)] := by
  refine ⟨?_⟩
  revert h
  generalize hE : stdE P tbl = E
  intro h
  unfold vc43 at h
  cbv
  have c3 := h.1
  refine ⟨c3, ?_⟩
  replace h := h.2 _ rfl
  have h : _ = row := h
  subst h
  repeat' (first | exact trivial | exact rfl | refine And.intro ?_ ?_)
def vc49 (E : Env) (x1 : List (List C)) (Q : List C → Prop) : Prop :=
  (E.pok 59 [(false, [.int .i64])] [.c (.sl [.int .i64, .int .i64] x1)]) ∧ (∀ r1 : Nat → C, r1 = E.res 59 [.c (.sl [.int .i64, .int .i64] x1)] → 
  (Br (E.not (E.eq (E.gi (r1 0)) 0))
  (Q [.sl [.int .i64, .int .i64] [], .int .i64 (E.gi (r1 0))])
  ((E.pok 59 [(false, [.int .i64])] [.c (.nil)]) ∧ (∀ r2 : Nat → C, r2 = E.res 59 [.c (.nil)] → 
    (Br (E.not (E.eq (E.gi (r2 0)) 0))
    (Q [.sl [.int .i64, .int .i64] [], .int .i64 (E.gi (r2 0))])
    ((E.pok 60 [(false, [.sl [.int .i64, .int .i64]])] [.c (.sl [.int .i64, .int .i64] x1)]) ∧ (∀ r3 : Nat → C, r3 = E.res 60 [.c (.sl [.int .i64, .int .i64] x1)] → 
      ((E.pok 60 [(false, [.sl [.int .i64, .int .i64]])] [.c (.nil)]) ∧ (∀ r4 : Nat → C, r4 = E.res 60 [.c (.nil)] → 
      ((E.pok 61 [(false, [.sl [.int .i64, .int .i64]])] [.c (.sl [.sl [.int .i64, .int .i64]] [[.sl [.int .i64, .int .i64] (E.gl (r3 0))], [.sl [.int .i64, .int .i64] (E.gl (r4 0))]])]) ∧ (∀ r5 : Nat → C, r5 = E.res 61 [.c (.sl [.sl [.int .i64, .int .i64]] [[.sl [.int .i64, .int .i64] (E.gl (r3 0))], [.sl [.int .i64, .int .i64] (E.gl (r4 0))]])] → 
      (LoopP2 (fun (l6 : List (List C)) (i7 : Int) (K8 : (List (List C)) → (Int) → Prop) =>
      Br (E.lt i7 (E.len (E.gl (r5 0))))
        (((E.le 0 i7) = true) ∧ 
          (((E.le (E.pl (E.len l6) (E.len [[.int .i64 (E.gi (E.cell (E.gl (r5 0)) i7 0))], [.int .i64 (E.gi (E.cell (E.gl (r5 0)) i7 1))]])) 17592186044416) = true) ∧ 
          (K8 ((E.cat l6 [[.int .i64 (E.gi (E.cell (E.gl (r5 0)) i7 0))], [.int .i64 (E.gi (E.cell (E.gl (r5 0)) i7 1))]])) ((E.add .i64 i7 1)))))
        (spSort (l6) (fun (l9 : List (List C)) => 
          LoopP4 (fun (l10 : List (List C)) (i11 : Int) (i12 : Int) (i13 : Int) (K14 : (List (List C)) → (Int) → (Int) → (Int) → Prop) =>
            Br (E.lt i13 (E.len l9))
              (((E.le 0 i13) = true) ∧ 
                (LoopP1 (fun (i15 : Int) (K16 : (Int) → Prop) =>
                (Imp (E.lt i15 (E.len (E.gl (r3 0)))) ((E.le 0 i15) = true)) ∧ 
                  (Br (E.bite (E.lt i15 (E.len (E.gl (r3 0)))) (E.le (E.gi (E.cell (E.gl (r3 0)) i15 1)) (E.gi (E.cell l9 i13 0))) false)
                  (K16 ((E.add .i64 i15 1)))
                  (LoopP1 (fun (i17 : Int) (K18 : (Int) → Prop) =>
                    (Imp (E.lt i17 (E.len (E.gl (r4 0)))) ((E.le 0 i17) = true)) ∧ 
                      (Br (E.bite (E.lt i17 (E.len (E.gl (r4 0)))) (E.le (E.gi (E.cell (E.gl (r4 0)) i17 1)) (E.gi (E.cell l9 i13 0))) false)
                      (K18 ((E.add .i64 i17 1)))
                      ((Imp (E.not (E.eq (E.add .i64 i13 1) (E.len l9))) ((E.le 0 (E.add .i64 i13 1)) = true)) ∧ (Imp (E.not (E.eq (E.add .i64 i13 1) (E.len l9))) ((E.lt (E.add .i64 i13 1) (E.len l9)) = true)) ∧ 
                        (Br (E.bite (E.eq (E.add .i64 i13 1) (E.len l9)) true (E.eq (E.gi (E.cell l9 (E.add .i64 i13 1) 0)) (E.gi (E.cell l9 i13 0))))
                        (K14 (l10) (i15) (i17) ((E.add .i64 i13 1)))
                        ((E.pok 50 [(false, [.bool])] [.c (.bool (E.bite (E.lt i15 (E.len (E.gl (r3 0)))) (E.le (E.gi (E.cell (E.gl (r3 0)) i15 0)) (E.gi (E.cell l9 i13 0))) false)), .c (.bool (E.bite (E.lt i17 (E.len (E.gl (r4 0)))) (E.le (E.gi (E.cell (E.gl (r4 0)) i17 0)) (E.gi (E.cell l9 i13 0))) false))]) ∧ (∀ r19 : Nat → C, r19 = E.res 50 [.c (.bool (E.bite (E.lt i15 (E.len (E.gl (r3 0)))) (E.le (E.gi (E.cell (E.gl (r3 0)) i15 0)) (E.gi (E.cell l9 i13 0))) false)), .c (.bool (E.bite (E.lt i17 (E.len (E.gl (r4 0)))) (E.le (E.gi (E.cell (E.gl (r4 0)) i17 0)) (E.gi (E.cell l9 i13 0))) false))] → 
                          (Br (E.gb (r19 0))
                          (((E.le 0 (E.add .i64 i13 1)) = true) ∧ ((E.lt (E.add .i64 i13 1) (E.len l9)) = true) ∧ 
                            (((E.le (E.pl (E.len l10) (E.len [[.int .i64 (E.gi (E.cell l9 i13 0)), .int .i64 (E.gi (E.cell l9 (E.add .i64 i13 1) 0))]])) 8796093022208) = true) ∧ 
                            (K14 ((E.cat l10 [[.int .i64 (E.gi (E.cell l9 i13 0)), .int .i64 (E.gi (E.cell l9 (E.add .i64 i13 1) 0))]])) (i15) (i17) ((E.add .i64 i13 1)))))
                          (K14 (l10) (i15) (i17) ((E.add .i64 i13 1))))))))))
                    (i12))))
                (i11)))
              ((E.pok 60 [(false, [.sl [.int .i64, .int .i64]])] [.c (.sl [.int .i64, .int .i64] l10)]) ∧ (∀ r20 : Nat → C, r20 = E.res 60 [.c (.sl [.int .i64, .int .i64] l10)] → 
                (Br (E.lt 256 (E.len (E.gl (r20 0))))
                (Q [.sl [.int .i64, .int .i64] [], .int .i64 8])
                (Q [.sl [.int .i64, .int .i64] (E.gl (r20 0)), .int .i64 0])))))
            ([]) (0) (0) (0))))
      ([]) (0)))))))))))))
theorem w49 {P : Program} {tbl : FuncId → List A → List C} (ce62 : OnArr spSort [.int .i64] P 62) {x1 : List (List C)} {row : List C} (h : vc49 (stdE P tbl) x1 fun c => c = row) : WPg P tbl rf49 [(false, [.sl [.int .i64, .int .i64]]), (false, [.int .i64])] row [.c (.sl [.int .i64, .int .i64] x1), .c (.nil), .fn 50 []] := by
  refine ⟨?_⟩
  revert h
  generalize hE : stdE P tbl = E
  intro h
  unfold vc49 at h
  cbv
  have c21 := h.1
  refine ⟨c21, ?_⟩
  replace h := h.2 _ rfl
  refine ⟨fun hb22 => ?_, fun hb22 => ?_⟩
  · replace h := h.t hb22
    have h : _ = row := h
    subst h
    repeat' (first | exact trivial | exact rfl | refine And.intro ?_ ?_)
  · replace h := h.f hb22
    have c23 := h.1
    refine ⟨c23, ?_⟩
    replace h := h.2 _ rfl
    refine ⟨fun hb24 => ?_, fun hb24 => ?_⟩
    · replace h := h.t hb24
      have h : _ = row := h
      subst h
      repeat' (first | exact trivial | exact rfl | refine And.intro ?_ ?_)
    · replace h := h.f hb24
      have c25 := h.1
      refine ⟨c25, ?_⟩
      replace h := h.2 _ rfl
      have c26 := h.1
      refine ⟨c26, ?_⟩
      replace h := h.2 _ rfl
      have c27 := h.1
      refine ⟨c27, ?_⟩
      replace h := h.2 _ rfl
      obtain ⟨I, μ, h0, hI⟩ := h
      refine LoopW.inv (fun R R' s h k => RCode.wp_mono _ R R' s h k) (fun p : List (List C) × Int => (fun (l6 : List (List C)) (i7 : Int) => (⟨[.c (.sl [.int .i64, .int .i64] (E.gl ((E.res 60 [.c (.sl [.int .i64, .int .i64] x1)]) 0))), .c (.sl [.int .i64, .int .i64] (E.gl ((E.res 60 [.c (.nil)]) 0))), .fn 50 [], .u, .u, .u, .u, .u, .u, .u, .gr 0, .u, .u, .u, .u, .u, .u, .u, .u, .u, .u, .u, .u, .u, .u, .u, .u, .u, .u, .u, .u, .u, .u, .u, .u, .c (.sl [.int .i64, .int .i64] (E.gl ((E.res 61 [.c (.sl [.sl [.int .i64, .int .i64]] [[.sl [.int .i64, .int .i64] (E.gl ((E.res 60 [.c (.sl [.int .i64, .int .i64] x1)]) 0))], [.sl [.int .i64, .int .i64] (E.gl ((E.res 60 [.c (.nil)]) 0))]])]) 0))), .c (.int .i64 (E.len (E.gl ((E.res 61 [.c (.sl [.sl [.int .i64, .int .i64]] [[.sl [.int .i64, .int .i64] (E.gl ((E.res 60 [.c (.sl [.int .i64, .int .i64] x1)]) 0))], [.sl [.int .i64, .int .i64] (E.gl ((E.res 60 [.c (.nil)]) 0))]])]) 0)))), .c (.int .i64 i7), .u, .u, .u, .u, .u, .u, .u, .u, .u, .u, .u, .u, .u, .u, .u, .u, .u, .u, .u, .u, .u, .u, .u, .u, .u, .u, .u, .u, .u, .u, .u, .u, .u, .u, .u, .u, .u, .u, .u, .u, .u, .u, .u, .u, .u, .u, .u, .u, .u, .u, .u, .u, .u, .u, .u, .u, .u, .u, .u, .u, .u, .u, .u, .u, .u, .u, .u, .u, .u, .u, .u, .u, .u, .u, .u, .u, .u, .u, .u, .u, .u, .u, .u, .u, .u, .u, .u, .u, .u, .u, .u, .u, .u, .u, .u, .u, .u, .u, .u, .u, .u, .u, .u, .u, .u, .u, .u, .u, .u], [.arr 3 [.int .i64] l6]⟩ : St)) p.1 p.2) (fun p => I p.1 p.2) (fun p => μ p.1 p.2) (_, _) h0 ?_ ?_
      · refine GSt.trans (GSt.nil 10 3 [.int .i64] rfl) (GSt.ren [1] rfl rfl rfl (fun i hi => absurd hi (Nat.not_lt_zero i)) (Nat.zero_le _) ?_ ?_)
        all_goals (repeat' (first | exact trivial | exact Or.inl rfl | exact Or.inr rfl | refine And.intro ?_ ?_))
      · rintro ⟨l6, i7⟩ h
        replace h := hI l6 i7 h
        cbv
        refine ⟨fun hb28 => ?_, fun hb28 => ?_⟩
        · replace h := h.t hb28
          have c29 := h.1
          refine ⟨c29, ?_⟩
          replace h := h.2
          refine ⟨hb28, ?_⟩
          have c30 := h.1
          refine ⟨c30, ?_⟩
          replace h := h.2
          refine ⟨(_, _), h.1, GSt.ren [3] rfl rfl rfl (fun i hi => absurd hi (Nat.not_lt_zero i)) (Nat.zero_le _) ?_ ?_, h.2⟩
          all_goals (repeat' (first | exact trivial | exact Or.inl rfl | exact Or.inr rfl | refine And.intro ?_ ?_))
        · replace h := h.f hb28
          refine HCall.mk ce62.1 ((ACalls.frame (ce62.2 (T := 3) _ _ h) (H := _) (tgt := [0]) rfl (by decide) ?_).mono fun r H' hq => ?_)
          · intro i o ho
            match i, ho with
            | 0, ho => cases ho; rfl
          obtain ⟨r1, H1', ⟨l9, h, rfl, rfl⟩, _, rfl, rfl⟩ := hq
          cbv
          obtain ⟨I, μ, h0, hI⟩ := h
          refine LoopW.inv (fun R R' s h k => RCode.wp_mono _ R R' s h k) (fun p : List (List C) × Int × Int × Int => (fun (l10 : List (List C)) (i11 : Int) (i12 : Int) (i13 : Int) => (⟨[.c (.sl [.int .i64, .int .i64] (E.gl ((E.res 60 [.c (.sl [.int .i64, .int .i64] x1)]) 0))), .c (.sl [.int .i64, .int .i64] (E.gl ((E.res 60 [.c (.nil)]) 0))), .fn 50 [], .u, .u, .u, .u, .u, .u, .u, .gr 0, .u, .u, .gr 1, .c (.int .i64 i11), .c (.int .i64 i12), .u, .u, .u, .u, .u, .u, .u, .u, .u, .u, .u, .u, .u, .u, .u, .u, .u, .u, .u, .u, .u, .u, .u, .u, .u, .u, .u, .u, .u, .u, .u, .u, .u, .u, .u, .gr 0, .c (.int .i64 (E.len l9)), .c (.int .i64 i13), .u, .u, .u, .u, .u, .u, .u, .u, .u, .u, .u, .u, .u, .u, .u, .u, .u, .u, .u, .u, .u, .u, .u, .u, .u, .u, .u, .u, .u, .u, .u, .u, .u, .u, .u, .u, .u, .u, .u, .u, .u, .u, .u, .u, .u, .u, .u, .u, .u, .u, .u, .u, .u, .u, .u, .u, .u, .u, .u, .u, .u, .u, .u, .u, .u, .u, .u, .u, .u, .u, .u, .u, .u, .u, .u, .u, .u, .u, .u, .u, .u, .u, .u, .u, .u, .u, .u, .u, .u, .u, .u, .u, .u], [.arr 3 [.int .i64] l9, .arr 34 [.int .i64, .int .i64] l10]⟩ : St)) p.1 p.2.1 p.2.2.1 p.2.2.2) (fun p => I p.1 p.2.1 p.2.2.1 p.2.2.2) (fun p => μ p.1 p.2.1 p.2.2.1 p.2.2.2) (_, _, _, _) h0 ?_ ?_
          · refine GSt.trans (GSt.nil 13 34 [.int .i64, .int .i64] rfl) (GSt.ren [0, 1] rfl rfl rfl (fun i hi => absurd hi (Nat.not_lt_zero i)) (Nat.zero_le _) ?_ ?_)
            all_goals (repeat' (first | exact trivial | exact Or.inl rfl | exact Or.inr rfl | refine And.intro ?_ ?_))
          · rintro ⟨l10, i11, i12, i13⟩ h
            replace h := hI l10 i11 i12 i13 h
            cbv
            refine ⟨fun hb31 => ?_, fun hb31 => ?_⟩
            · replace h := h.t hb31
              have c32 := h.1
              refine ⟨c32, ?_⟩
              replace h := h.2
              refine ⟨hb31, ?_⟩
              obtain ⟨I, μ, h0, hI⟩ := h
              refine LoopW.inv (fun R R' s h k => RCode.wp_mono _ R R' s h k) (fun p : Int => (fun (i15 : Int) => (⟨[.c (.sl [.int .i64, .int .i64] (E.gl ((E.res 60 [.c (.sl [.int .i64, .int .i64] x1)]) 0))), .c (.sl [.int .i64, .int .i64] (E.gl ((E.res 60 [.c (.nil)]) 0))), .fn 50 [], .u, .u, .u, .u, .u, .u, .u, .gr 0, .u, .u, .gr 1, .c (.int .i64 i15), .c (.int .i64 i12), .c (.int .i64 i13), .c (.int .i64 (E.gi (E.cell l9 i13 0))), .u, .u, .u, .u, .u, .u, .u, .u, .u, .u, .u, .u, .u, .u, .u, .u, .u, .u, .u, .u, .u, .u, .u, .u, .u, .u, .u, .u, .u, .u, .u, .u, .u, .gr 0, .c (.int .i64 (E.len l9)), .c (.int .i64 i13), .u, .u, .u, .u, .u, .u, .u, .u, .u, .u, .u, .u, .u, .u, .u, .u, .u, .u, .u, .u, .u, .u, .u, .u, .u, .u, .u, .u, .u, .u, .u, .u, .u, .u, .u, .u, .u, .u, .u, .u, .u, .u, .u, .u, .u, .u, .u, .u, .u, .u, .u, .u, .u, .u, .u, .u, .u, .u, .u, .u, .u, .u, .u, .u, .u, .u, .u, .u, .u, .u, .u, .u, .u, .u, .u, .u, .u, .u, .u, .u, .u, .u, .u, .u, .u, .u, .u, .u, .u, .u, .u, .u, .u], [.arr 3 [.int .i64] l9, .arr 34 [.int .i64, .int .i64] l10]⟩ : St)) p) (fun p => I p) (fun p => μ p) _ h0 ?_ ?_
              · refine GSt.ren [0, 1] rfl rfl rfl (fun i hi => absurd hi (Nat.not_lt_zero i)) (Nat.zero_le _) ?_ ?_
                all_goals (repeat' (first | exact trivial | exact Or.inl rfl | exact Or.inr rfl | refine And.intro ?_ ?_))
              · rintro i15 h
                replace h := hI i15 h
                cbv
                refine ⟨⟨fun hh => hh⟩, ?_⟩
                refine ⟨⟨fun hh => hh⟩, ?_⟩
                have c33 := h.1
                refine ⟨c33, ?_⟩
                replace h := h.2
                refine ⟨⟨fun hh => hh⟩, ?_⟩
                refine ⟨⟨fun hh => hh⟩, ?_⟩
                refine ⟨⟨fun hh => hh⟩, ?_⟩
                refine ⟨⟨fun hh => hh⟩, ?_⟩
                refine ⟨⟨fun hh => hh⟩, ?_⟩
                refine ⟨⟨fun hh => hh⟩, ?_⟩
                refine ⟨fun hb34 => ?_, fun hb34 => ?_⟩
                · replace h := h.t hb34
                  refine ⟨_, h.1, GSt.ren [0, 1] rfl rfl rfl (fun i hi => absurd hi (Nat.not_lt_zero i)) (Nat.zero_le _) ?_ ?_, h.2⟩
                  all_goals (repeat' (first | exact trivial | exact Or.inl rfl | exact Or.inr rfl | refine And.intro ?_ ?_))
                · replace h := h.f hb34
                  obtain ⟨I, μ, h0, hI⟩ := h
                  refine LoopW.inv (fun R R' s h k => RCode.wp_mono _ R R' s h k) (fun p : Int => (fun (i17 : Int) => (⟨[.c (.sl [.int .i64, .int .i64] (E.gl ((E.res 60 [.c (.sl [.int .i64, .int .i64] x1)]) 0))), .c (.sl [.int .i64, .int .i64] (E.gl ((E.res 60 [.c (.nil)]) 0))), .fn 50 [], .u, .u, .u, .u, .u, .u, .u, .gr 0, .u, .u, .gr 1, .c (.int .i64 i15), .c (.int .i64 i17), .c (.int .i64 i13), .c (.int .i64 (E.gi (E.cell l9 i13 0))), .u, .u, .u, .u, .u, .u, .u, .u, .u, .u, .u, .u, .u, .u, .u, .u, .u, .u, .u, .u, .u, .u, .u, .u, .u, .u, .u, .u, .u, .u, .u, .u, .u, .gr 0, .c (.int .i64 (E.len l9)), .c (.int .i64 i13), .u, .u, .u, .u, .u, .u, .u, .u, .u, .u, .u, .u, .u, .u, .u, .u, .u, .u, .u, .u, .u, .u, .u, .u, .u, .u, .u, .u, .u, .u, .u, .u, .u, .u, .u, .u, .u, .u, .u, .u, .u, .u, .u, .u, .u, .u, .u, .u, .u, .u, .u, .u, .u, .u, .u, .u, .u, .u, .u, .u, .u, .u, .u, .u, .u, .u, .u, .u, .u, .u, .u, .u, .u, .u, .u, .u, .u, .u, .u, .u, .u, .u, .u, .u, .u, .u, .u, .u, .u, .u, .u, .u, .u], [.arr 3 [.int .i64] l9, .arr 34 [.int .i64, .int .i64] l10]⟩ : St)) p) (fun p => I p) (fun p => μ p) _ h0 ?_ ?_
                  · refine GSt.ren [0, 1] rfl rfl rfl (fun i hi => absurd hi (Nat.not_lt_zero i)) (Nat.zero_le _) ?_ ?_
                    all_goals (repeat' (first | exact trivial | exact Or.inl rfl | exact Or.inr rfl | refine And.intro ?_ ?_))
                  · rintro i17 h
                    replace h := hI i17 h
                    cbv
                    refine ⟨⟨fun hh => hh⟩, ?_⟩
                    refine ⟨⟨fun hh => hh⟩, ?_⟩
                    have c35 := h.1
                    refine ⟨c35, ?_⟩
                    replace h := h.2
                    refine ⟨⟨fun hh => hh⟩, ?_⟩
                    refine ⟨⟨fun hh => hh⟩, ?_⟩
                    refine ⟨⟨fun hh => hh⟩, ?_⟩
                    refine ⟨⟨fun hh => hh⟩, ?_⟩
                    refine ⟨⟨fun hh => hh⟩, ?_⟩
                    refine ⟨⟨fun hh => hh⟩, ?_⟩
                    refine ⟨fun hb36 => ?_, fun hb36 => ?_⟩
                    · replace h := h.t hb36
                      refine ⟨_, h.1, GSt.ren [0, 1] rfl rfl rfl (fun i hi => absurd hi (Nat.not_lt_zero i)) (Nat.zero_le _) ?_ ?_, h.2⟩
                      all_goals (repeat' (first | exact trivial | exact Or.inl rfl | exact Or.inr rfl | refine And.intro ?_ ?_))
                    · replace h := h.f hb36
                      refine ⟨⟨fun hh => hh⟩, ?_⟩
                      refine ⟨⟨fun hh => hh⟩, ?_⟩
                      refine ⟨⟨fun hh => hh⟩, ?_⟩
                      have c37 := h.1
                      refine ⟨c37, ?_⟩
                      replace h := h.2
                      have c38 := h.1
                      refine ⟨c38, ?_⟩
                      replace h := h.2
                      refine ⟨⟨fun hh => hh⟩, ?_⟩
                      refine ⟨⟨fun hh => hh⟩, ?_⟩
                      refine ⟨⟨fun hh => hh⟩, ?_⟩
                      refine ⟨⟨fun hh => hh⟩, ?_⟩
                      refine ⟨fun hb39 => ?_, fun hb39 => ?_⟩
                      · replace h := h.t hb39
                        refine ⟨(_, _, _, _), h.1, GSt.ren [0, 1] rfl rfl rfl (fun i hi => absurd hi (Nat.not_lt_zero i)) (Nat.zero_le _) ?_ ?_, h.2⟩
                        all_goals (repeat' (first | exact trivial | exact Or.inl rfl | exact Or.inr rfl | refine And.intro ?_ ?_))
                      · replace h := h.f hb39
                        refine ⟨⟨fun hh => hh⟩, ?_⟩
                        refine ⟨⟨fun hh => hh⟩, ?_⟩
                        refine ⟨c33, ?_⟩
                        refine ⟨⟨fun hh => hh⟩, ?_⟩
                        refine ⟨⟨fun hh => hh⟩, ?_⟩
                        refine ⟨⟨fun hh => hh⟩, ?_⟩
                        refine ⟨⟨fun hh => hh⟩, ?_⟩
                        refine ⟨⟨fun hh => hh⟩, ?_⟩
                        refine ⟨⟨fun hh => hh⟩, ?_⟩
                        refine ⟨⟨fun hh => hh⟩, ?_⟩
                        refine ⟨⟨fun hh => hh⟩, ?_⟩
                        refine ⟨c35, ?_⟩
                        refine ⟨⟨fun hh => hh⟩, ?_⟩
                        refine ⟨⟨fun hh => hh⟩, ?_⟩
                        refine ⟨⟨fun hh => hh⟩, ?_⟩
                        refine ⟨⟨fun hh => hh⟩, ?_⟩
                        refine ⟨⟨fun hh => hh⟩, ?_⟩
                        refine ⟨⟨fun hh => hh⟩, ?_⟩
                        have c40 := h.1
                        refine ⟨c40, ?_⟩
                        replace h := h.2 _ rfl
                        refine ⟨fun hb41 => ?_, fun hb41 => ?_⟩
                        · replace h := h.t hb41
                          have c42 := h.1
                          refine ⟨c42, ?_⟩
                          replace h := h.2
                          have c43 := h.1
                          refine ⟨c43, ?_⟩
                          replace h := h.2
                          have c44 := h.1
                          refine ⟨c44, ?_⟩
                          replace h := h.2
                          refine ⟨(_, _, _, _), h.1, GSt.ren [0, 3] rfl rfl rfl (fun i hi => absurd hi (Nat.not_lt_zero i)) (Nat.zero_le _) ?_ ?_, h.2⟩
                          all_goals (repeat' (first | exact trivial | exact Or.inl rfl | exact Or.inr rfl | refine And.intro ?_ ?_))
                        · replace h := h.f hb41
                          refine ⟨(_, _, _, _), h.1, GSt.ren [0, 1] rfl rfl rfl (fun i hi => absurd hi (Nat.not_lt_zero i)) (Nat.zero_le _) ?_ ?_, h.2⟩
                          all_goals (repeat' (first | exact trivial | exact Or.inl rfl | exact Or.inr rfl | refine And.intro ?_ ?_))
            · replace h := h.f hb31
              have c45 := h.1
              refine ⟨c45, ?_⟩
              replace h := h.2 _ rfl
              refine ⟨fun hb46 => ?_, fun hb46 => ?_⟩
              · replace h := h.t hb46
                have h : _ = row := h
                subst h
                repeat' (first | exact trivial | exact rfl | refine And.intro ?_ ?_)
              · replace h := h.f hb46
                have h : _ = row := h
                subst h
                repeat' (first | exact trivial | exact rfl | refine And.intro ?_ ?_)
def vc50 (E : Env) (x1 : Bool) (x2 : Bool) (Q : List C → Prop) : Prop :=
  Q [.bool x1]
theorem w50 {P : Program} {tbl : FuncId → List A → List C}  {x1 : Bool} {x2 : Bool} {row : List C} (h : vc50 (stdE P tbl) x1 x2 fun c => c = row) : WPg P tbl rf50 [(false, [.bool])] row [.c (.bool x1), .c (.bool x2)] := by
  refine ⟨?_⟩
  revert h
  generalize hE : stdE P tbl = E
  intro h
  unfold vc50 at h
  cbv
  have h : _ = row := h
  subst h
  repeat' (first | exact trivial | exact rfl | refine And.intro ?_ ?_)
def vc54 (E : Env) (x1 : List (List C)) (x2 : List (List C)) (x3 : Int) (Q : List C → Prop) : Prop :=
  (E.pok 69 [(false, [.int .i64])] [.c (.sl [.int .i64, .int .i64] x1)]) ∧ (∀ r4 : Nat → C, r4 = E.res 69 [.c (.sl [.int .i64, .int .i64] x1)] → 
  (Br (E.not (E.eq (E.gi (r4 0)) 0))
  (Q [.sl [.int .i64, .int .i64] [], .int .i64 (E.gi (r4 0))])
  ((E.pok 69 [(false, [.int .i64])] [.c (.sl [.int .i64, .int .i64] x2)]) ∧ (∀ r5 : Nat → C, r5 = E.res 69 [.c (.sl [.int .i64, .int .i64] x2)] → 
    (Br (E.not (E.eq (E.gi (r5 0)) 0))
    (Q [.sl [.int .i64, .int .i64] [], .int .i64 (E.gi (r5 0))])
    ((E.pok 70 [(false, [.sl [.int .i64, .int .i64]])] [.c (.sl [.int .i64, .int .i64] x1), .c (.sl [.int .i64, .int .i64] x2), .c (.int .i64 x3)]) ∧ (∀ r6 : Nat → C, r6 = E.res 70 [.c (.sl [.int .i64, .int .i64] x1), .c (.sl [.int .i64, .int .i64] x2), .c (.int .i64 x3)] → 
      (Br (E.lt 256 (E.len (E.gl (r6 0))))
      (Q [.sl [.int .i64, .int .i64] [], .int .i64 8])
      (Q [.sl [.int .i64, .int .i64] (E.gl (r6 0)), .int .i64 0])))))))))
theorem w54 {P : Program} {tbl : FuncId → List A → List C}  {x1 : List (List C)} {x2 : List (List C)} {x3 : Int} {row : List C} (h : vc54 (stdE P tbl) x1 x2 x3 fun c => c = row) : WPg P tbl rf54 [(false, [.sl [.int .i64, .int .i64]]), (false, [.int .i64])] row [.c (.sl [.int .i64, .int .i64] x1), .c (.sl [.int .i64, .int .i64] x2), .c (.int .i64 x3)] := by
  refine ⟨?_⟩
  revert h
  generalize hE : stdE P tbl = E
  intro h
  unfold vc54 at h
  cbv
  have c7 := h.1
  refine ⟨c7, ?_⟩
  replace h := h.2 _ rfl
  refine ⟨fun hb8 => ?_, fun hb8 => ?_⟩
  · replace h := h.t hb8
    have h : _ = row := h
    subst h
    repeat' (first | exact trivial | exact rfl | refine And.intro ?_ ?_)
  · replace h := h.f hb8
    have c9 := h.1
    refine ⟨c9, ?_⟩
    replace h := h.2 _ rfl
    refine ⟨fun hb10 => ?_, fun hb10 => ?_⟩
    · replace h := h.t hb10
      have h : _ = row := h
      subst h
      repeat' (first | exact trivial | exact rfl | refine And.intro ?_ ?_)
    · replace h := h.f hb10
      have c11 := h.1
      refine ⟨c11, ?_⟩
      replace h := h.2 _ rfl
      refine ⟨fun hb12 => ?_, fun hb12 => ?_⟩
      · replace h := h.t hb12
        have h : _ = row := h
        subst h
        repeat' (first | exact trivial | exact rfl | refine And.intro ?_ ?_)
      · replace h := h.f hb12
        have h : _ = row := h
        subst h
        repeat' (first | exact trivial | exact rfl | refine And.intro ?_ ?_)
def vc61 (E : Env) (x1 : List (List C)) (Q : List C → Prop) : Prop :=
  LoopP2 (fun (i2 : Int) (i3 : Int) (K4 : (Int) → (Int) → Prop) =>
  Br (E.lt i3 (E.len x1))
    (((E.le 0 i3) = true) ∧ 
      (Br (E.lt (E.add .i64 i2 (E.len (E.gl (E.cell x1 i3 0)))) 0)
      (False)
      (K4 ((E.add .i64 i2 (E.len (E.gl (E.cell x1 i3 0))))) ((E.add .i64 i3 1)))))
    (spGrow (i2) (fun (l5 : List (List C)) => 
      LoopP3 (fun (l6 : List (List C)) (i7 : Int) (i8 : Int) (K9 : (List (List C)) → (Int) → (Int) → Prop) =>
        Br (E.lt i8 (E.len x1))
          (((E.le 0 i8) = true) ∧ 
            (((E.le (E.pl i7 (E.len (E.gl (E.cell x1 i8 0)))) 8796093022208) = true) ∧ 
            (K9 ((E.cat (E.cut l6 0 i7) (E.gl (E.cell x1 i8 0)))) (((E.cat (E.cut l6 0 i7) (E.gl (E.cell x1 i8 0))).length : Int)) ((E.add .i64 i8 1)))))
          (Q [.sl [.int .i64, .int .i64] (E.cut l6 0 (E.pl 0 i7))]))
        (l5) (0) (0))))
  (0) (0)
theorem w61 {P : Program} {tbl : FuncId → List A → List C} (ce76 : GrowC 34 [.int .i64, .int .i64] P 76) {x1 : List (List C)} {row : List C} (h : vc61 (stdE P tbl) x1 fun c => c = row) : WPg P tbl rf61 [(false, [.sl [.int .i64, .int .i64]])] row [.c (.sl [.sl [.int .i64, .int .i64]] x1)] := by
  refine ⟨?_⟩
  revert h
  generalize hE : stdE P tbl = E
  intro h
  unfold vc61 at h
  cbv
  obtain ⟨I, μ, h0, hI⟩ := h
  refine LoopW.inv (fun R R' s h k => RCode.wp_mono _ R R' s h k) (fun p : Int × Int => (fun (i2 : Int) (i3 : Int) => (⟨[.c (.sl [.sl [.int .i64, .int .i64]] x1), .u, .u, .c (.int .i64 i2), .u, .u, .u, .u, .u, .c (.sl [.sl [.int .i64, .int .i64]] x1), .c (.int .i64 (E.len x1)), .c (.int .i64 i3), .u, .u, .u, .u, .u, .u, .u, .u, .u, .u, .u, .u, .u, .u, .u, .u, .u, .u, .u, .u, .u, .u, .u, .u], []⟩ : St)) p.1 p.2) (fun p => I p.1 p.2) (fun p => μ p.1 p.2) (_, _) h0 ?_ ?_
  · refine GSt.ren [] rfl rfl rfl (fun i hi => absurd hi (Nat.not_lt_zero i)) (Nat.zero_le _) ?_ ?_
    all_goals (repeat' (first | exact trivial | exact Or.inl rfl | exact Or.inr rfl | refine And.intro ?_ ?_))
  · rintro ⟨i2, i3⟩ h
    replace h := hI i2 i3 h
    cbv
    refine ⟨fun hb10 => ?_, fun hb10 => ?_⟩
    · replace h := h.t hb10
      have c11 := h.1
      refine ⟨c11, ?_⟩
      replace h := h.2
      refine ⟨hb10, ?_⟩
      refine ⟨fun hb12 => ?_, fun hb12 => ?_⟩
      · replace h := h.t hb12
        exact h.elim
      · replace h := h.f hb12
        refine ⟨(_, _), h.1, GSt.ren [] rfl rfl rfl (fun i hi => absurd hi (Nat.not_lt_zero i)) (Nat.zero_le _) ?_ ?_, h.2⟩
        all_goals (repeat' (first | exact trivial | exact Or.inl rfl | exact Or.inr rfl | refine And.intro ?_ ?_))
    · replace h := h.f hb10
      refine HCall.mk ce76.1 ((ACalls.frame (ce76.2 _ _ h) (H := _) (tgt := []) rfl (by decide) ?_).mono fun r H' hq => ?_)
      · intro i o ho
        cases ho
      obtain ⟨r1, H1', ⟨l5, h, rfl, rfl⟩, _, rfl, rfl⟩ := hq
      cbv
      obtain ⟨I, μ, h0, hI⟩ := h
      refine LoopW.inv (fun R R' s h k => RCode.wp_mono _ R R' s h k) (fun p : List (List C) × Int × Int => (fun (l6 : List (List C)) (i7 : Int) (i8 : Int) => (⟨[.u, .u, .u, .u, .u, .u, .own 0 0 i7, .u, .u, .u, .u, .u, .u, .u, .u, .u, .u, .u, .u, .u, .u, .u, .u, .u, .u, .c (.sl [.sl [.int .i64, .int .i64]] x1), .c (.int .i64 (E.len x1)), .c (.int .i64 i8), .u, .u, .u, .u, .u, .u, .u, .u], [.arr 34 [.int .i64, .int .i64] l6]⟩ : St)) p.1 p.2.1 p.2.2) (fun p => I p.1 p.2.1 p.2.2) (fun p => μ p.1 p.2.1 p.2.2) (_, _, _) h0 ?_ ?_
      · refine GSt.ren [0] rfl rfl rfl (fun i hi => absurd hi (Nat.not_lt_zero i)) (Nat.zero_le _) ?_ ?_
        all_goals (repeat' (first | exact trivial | exact Or.inl rfl | exact Or.inr rfl | refine And.intro ?_ ?_))
      · rintro ⟨l6, i7, i8⟩ h
        replace h := hI l6 i7 i8 h
        cbv
        refine ⟨fun hb13 => ?_, fun hb13 => ?_⟩
        · replace h := h.t hb13
          have c14 := h.1
          refine ⟨c14, ?_⟩
          replace h := h.2
          refine ⟨hb13, ?_⟩
          have c15 := h.1
          refine ⟨c15, ?_⟩
          replace h := h.2
          refine ⟨(_, _, _), h.1, GSt.trans (GSt.grOwn 6 rfl rfl) (GSt.ren [1] rfl rfl rfl (fun i hi => absurd hi (Nat.not_lt_zero i)) (Nat.zero_le _) ?_ ?_), h.2⟩
          all_goals (repeat' (first | exact trivial | exact Or.inl rfl | exact Or.inr rfl | refine And.intro ?_ ?_))
        · replace h := h.f hb13
          have h : _ = row := h
          subst h
          repeat' (first | exact trivial | exact rfl | refine And.intro ?_ ?_)
def vc69 (E : Env) (x1 : List (List C)) (Q : List C → Prop) : Prop :=
  Br (E.lt 256 (E.len x1))
  (Q [.int .i64 8])
  (LoopP1 (fun (i2 : Int) (K3 : (Int) → Prop) =>
    Br (E.lt i2 (E.len x1))
      (((E.le 0 i2) = true) ∧ 
        (Br (E.bite (E.bite (E.lt (E.gi (E.cell x1 i2 0)) 0) true (E.lt (E.gi (E.cell x1 i2 1)) (E.gi (E.cell x1 i2 0)))) true (E.lt 17179869184 (E.gi (E.cell x1 i2 1))))
        (Q [.int .i64 1])
        (K3 ((E.add .i64 i2 1)))))
      (Q [.int .i64 0]))
    (0))
theorem w69 {P : Program} {tbl : FuncId → List A → List C}  {x1 : List (List C)} {row : List C} (h : vc69 (stdE P tbl) x1 fun c => c = row) : WPg P tbl rf69 [(false, [.int .i64])] row [.c (.sl [.int .i64, .int .i64] x1)] := by
  refine ⟨?_⟩
  revert h
  generalize hE : stdE P tbl = E
  intro h
  unfold vc69 at h
  cbv
  refine ⟨fun hb4 => ?_, fun hb4 => ?_⟩
  · replace h := h.t hb4
    have h : _ = row := h
    subst h
    repeat' (first | exact trivial | exact rfl | refine And.intro ?_ ?_)
  · replace h := h.f hb4
    obtain ⟨I, μ, h0, hI⟩ := h
    refine LoopW.inv (fun R R' s h k => RCode.wp_mono _ R R' s h k) (fun p : Int => (fun (i2 : Int) => (⟨[.c (.sl [.int .i64, .int .i64] x1), .u, .u, .c (.int .i64 i2), .u, .u, .u, .u, .u, .u, .u, .u, .u, .u, .u, .u, .u, .u, .u, .u, .u, .u, .u, .u, .u, .u, .u, .u, .u, .u, .u, .u, .u, .u, .u, .u, .u, .u, .u, .u], []⟩ : St)) p) (fun p => I p) (fun p => μ p) _ h0 ?_ ?_
    · refine GSt.ren [] rfl rfl rfl (fun i hi => absurd hi (Nat.not_lt_zero i)) (Nat.zero_le _) ?_ ?_
      all_goals (repeat' (first | exact trivial | exact Or.inl rfl | exact Or.inr rfl | refine And.intro ?_ ?_))
    · rintro i2 h
      replace h := hI i2 h
      cbv
      refine ⟨fun hb5 => ?_, fun hb5 => ?_⟩
      · replace h := h.t hb5
        have c6 := h.1
        refine ⟨c6, ?_⟩
        replace h := h.2
        refine ⟨hb5, ?_⟩
        refine ⟨⟨fun hh => hh⟩, ?_⟩
        refine ⟨⟨fun hh => hh⟩, ?_⟩
        refine ⟨⟨fun _ => c6⟩, ?_⟩
        refine ⟨⟨fun _ => hb5⟩, ?_⟩
        refine ⟨⟨fun hh => hh⟩, ?_⟩
        refine ⟨⟨fun hh => hh⟩, ?_⟩
        refine ⟨⟨fun hh => hh⟩, ?_⟩
        refine ⟨⟨fun hh => hh⟩, ?_⟩
        refine ⟨⟨fun _ => c6⟩, ?_⟩
        refine ⟨⟨fun _ => hb5⟩, ?_⟩
        refine ⟨⟨fun hh => hh⟩, ?_⟩
        refine ⟨⟨fun hh => hh⟩, ?_⟩
        refine ⟨⟨fun hh => hh⟩, ?_⟩
        refine ⟨⟨fun hh => hh⟩, ?_⟩
        refine ⟨⟨fun hh => hh⟩, ?_⟩
        refine ⟨⟨fun hh => hh⟩, ?_⟩
        refine ⟨⟨fun hh => hh⟩, ?_⟩
        refine ⟨⟨fun _ => c6⟩, ?_⟩
        refine ⟨⟨fun _ => hb5⟩, ?_⟩
        refine ⟨⟨fun hh => hh⟩, ?_⟩
        refine ⟨⟨fun hh => hh⟩, ?_⟩
        refine ⟨⟨fun hh => hh⟩, ?_⟩
        refine ⟨⟨fun hh => hh⟩, ?_⟩
        refine ⟨fun hb7 => ?_, fun hb7 => ?_⟩
        · replace h := h.t hb7
          have h : _ = row := h
          subst h
          repeat' (first | exact trivial | exact rfl | refine And.intro ?_ ?_)
        · replace h := h.f hb7
          refine ⟨_, h.1, GSt.ren [] rfl rfl rfl (fun i hi => absurd hi (Nat.not_lt_zero i)) (Nat.zero_le _) ?_ ?_, h.2⟩
          all_goals (repeat' (first | exact trivial | exact Or.inl rfl | exact Or.inr rfl | refine And.intro ?_ ?_))
      · replace h := h.f hb5
        have h : _ = row := h
        subst h
        repeat' (first | exact trivial | exact rfl | refine And.intro ?_ ?_)
def vc70 (E : Env) (x1 : List (List C)) (x2 : List (List C)) (x3 : Int) (Q : List C → Prop) : Prop :=
  (E.pok 80 [(false, [.sl [.int .i64]])] [.c (.sl [.int .i64, .int .i64] x1), .c (.sl [.int .i64, .int .i64] x2)]) ∧ (∀ r4 : Nat → C, r4 = E.res 80 [.c (.sl [.int .i64, .int .i64] x1), .c (.sl [.int .i64, .int .i64] x2)] → 
  (LoopP2 (fun (l5 : List (List C)) (i6 : Int) (K7 : (List (List C)) → (Int) → Prop) =>
  Br (E.lt (E.add .i64 i6 1) (E.len (E.gl (r4 0))))
    (((E.le 0 i6) = true) ∧ ((E.lt i6 (E.len (E.gl (r4 0)))) = true) ∧ 
      ((E.pok 81 [(false, [.bool])] [.c (.sl [.int .i64, .int .i64] x1), .c (.int .i64 (E.gi (E.cell (E.gl (r4 0)) i6 0)))]) ∧ (∀ r8 : Nat → C, r8 = E.res 81 [.c (.sl [.int .i64, .int .i64] x1), .c (.int .i64 (E.gi (E.cell (E.gl (r4 0)) i6 0)))] → 
      ((E.pok 81 [(false, [.bool])] [.c (.sl [.int .i64, .int .i64] x2), .c (.int .i64 (E.gi (E.cell (E.gl (r4 0)) i6 0)))]) ∧ (∀ r9 : Nat → C, r9 = E.res 81 [.c (.sl [.int .i64, .int .i64] x2), .c (.int .i64 (E.gi (E.cell (E.gl (r4 0)) i6 0)))] → 
      ((Imp (E.and (E.not (E.bite (E.bite (E.eq x3 0) (E.not (E.gb (r8 0))) false) (E.not (E.gb (r9 0))) false)) (E.eq x3 1)) (Imp (E.gb (r8 0)) ((E.and (E.and (E.not (E.bite (E.bite (E.eq x3 0) (E.not (E.gb (r8 0))) false) (E.not (E.gb (r9 0))) false)) (E.eq x3 1)) (E.gb (r8 0))) = true))) ∧ 
      ((Imp (E.not (E.bite (E.bite (E.eq x3 0) (E.not (E.gb (r8 0))) false) (E.not (E.gb (r9 0))) false)) (Imp (E.eq x3 1) ((E.and (E.not (E.bite (E.bite (E.eq x3 0) (E.not (E.gb (r8 0))) false) (E.not (E.gb (r9 0))) false)) (E.eq x3 1)) = true))) ∧ 
      ((Imp (E.and (E.not (E.bite (E.bite (E.bite (E.eq x3 0) (E.not (E.gb (r8 0))) false) (E.not (E.gb (r9 0))) false) true (E.bite (E.eq x3 1) (E.not (E.bite (E.gb (r8 0)) (E.gb (r9 0)) false)) false))) (E.eq x3 2)) (Imp (E.not (E.not (E.gb (r8 0)))) ((E.and (E.and (E.not (E.bite (E.bite (E.bite (E.eq x3 0) (E.not (E.gb (r8 0))) false) (E.not (E.gb (r9 0))) false) true (E.bite (E.eq x3 1) (E.not (E.bite (E.gb (r8 0)) (E.gb (r9 0)) false)) false))) (E.eq x3 2)) (E.not (E.not (E.gb (r8 0))))) = true))) ∧ 
      ((Imp (E.not (E.bite (E.bite (E.bite (E.eq x3 0) (E.not (E.gb (r8 0))) false) (E.not (E.gb (r9 0))) false) true (E.bite (E.eq x3 1) (E.not (E.bite (E.gb (r8 0)) (E.gb (r9 0)) false)) false))) (Imp (E.eq x3 2) ((E.and (E.not (E.bite (E.bite (E.bite (E.eq x3 0) (E.not (E.gb (r8 0))) false) (E.not (E.gb (r9 0))) false) true (E.bite (E.eq x3 1) (E.not (E.bite (E.gb (r8 0)) (E.gb (r9 0)) false)) false))) (E.eq x3 2)) = true))) ∧ 
      (Br (E.bite (E.bite (E.bite (E.bite (E.eq x3 0) (E.not (E.gb (r8 0))) false) (E.not (E.gb (r9 0))) false) true (E.bite (E.eq x3 1) (E.not (E.bite (E.gb (r8 0)) (E.gb (r9 0)) false)) false)) true (E.bite (E.eq x3 2) (E.bite (E.not (E.gb (r8 0))) true (E.gb (r9 0))) false))
      (K7 (l5) ((E.add .i64 i6 1)))
      ((Imp (E.le 0 (E.sub .i64 (E.len l5) 1)) ((E.lt (E.sub .i64 (E.len l5) 1) (E.len l5)) = true)) ∧ 
        (Br (E.bite (E.le 0 (E.sub .i64 (E.len l5) 1)) (E.eq (E.gi (E.cell l5 (E.sub .i64 (E.len l5) 1) 1)) (E.gi (E.cell (E.gl (r4 0)) i6 0))) false)
        (((E.le 0 (E.add .i64 i6 1)) = true) ∧ 
          (((E.le 0 (E.sub .i64 (E.len l5) 1)) = true) ∧ ((E.lt (E.sub .i64 (E.len l5) 1) (E.len l5)) = true) ∧ 
          (K7 ((E.upd l5 (E.sub .i64 (E.len l5) 1) 1 (.int .i64 (E.gi (E.cell (E.gl (r4 0)) (E.add .i64 i6 1) 0))))) ((E.add .i64 i6 1)))))
        (((E.le 0 (E.add .i64 i6 1)) = true) ∧ 
          (((E.le (E.pl (E.len l5) (E.len [[.int .i64 (E.gi (E.cell (E.gl (r4 0)) i6 0)), .int .i64 (E.gi (E.cell (E.gl (r4 0)) (E.add .i64 i6 1) 0))]])) 8796093022208) = true) ∧ 
          (K7 ((E.cat l5 [[.int .i64 (E.gi (E.cell (E.gl (r4 0)) i6 0)), .int .i64 (E.gi (E.cell (E.gl (r4 0)) (E.add .i64 i6 1) 0))]])) ((E.add .i64 i6 1)))))))))))))))))
    (Q [.sl [.int .i64, .int .i64] l5]))
  ([]) (0)))
theorem w70 {P : Program} {tbl : FuncId → List A → List C}  {x1 : List (List C)} {x2 : List (List C)} {x3 : Int} {row : List C} (h : vc70 (stdE P tbl) x1 x2 x3 fun c => c = row) : WPg P tbl rf70 [(false, [.sl [.int .i64, .int .i64]])] row [.c (.sl [.int .i64, .int .i64] x1), .c (.sl [.int .i64, .int .i64] x2), .c (.int .i64 x3)] := by
  refine ⟨?_⟩
  revert h
  generalize hE : stdE P tbl = E
  intro h
  unfold vc70 at h
  cbv
  have c10 := h.1
  refine ⟨c10, ?_⟩
  replace h := h.2 _ rfl
  obtain ⟨I, μ, h0, hI⟩ := h
  refine LoopW.inv (fun R R' s h k => RCode.wp_mono _ R R' s h k) (fun p : List (List C) × Int => (fun (l5 : List (List C)) (i6 : Int) => (⟨[.c (.sl [.int .i64, .int .i64] x1), .c (.sl [.int .i64, .int .i64] x2), .c (.int .i64 x3), .u, .u, .u, .u, .c (.sl [.int .i64] (E.gl ((E.res 80 [.c (.sl [.int .i64, .int .i64] x1), .c (.sl [.int .i64, .int .i64] x2)]) 0))), .gr 0, .c (.int .i64 i6), .u, .u, .u, .u, .u, .u, .u, .u, .u, .u, .u, .u, .u, .u, .u, .u, .u, .u, .u, .u, .u, .u, .u, .u, .u, .u, .u, .u, .u, .u, .u, .u, .u, .u, .u, .u, .u, .u, .u, .u, .u, .u, .u, .u, .u, .u, .u, .u, .u, .u, .u, .u, .u, .u, .u, .u, .u, .u, .u, .u, .u, .u, .u, .u, .u, .u, .u, .u, .u, .u, .u, .u, .u, .u, .u, .u, .u, .u, .u, .u, .u, .u, .u, .u, .u, .u, .u, .u, .u, .u, .u, .u, .u, .u, .u, .u, .u], [.arr 34 [.int .i64, .int .i64] l5]⟩ : St)) p.1 p.2) (fun p => I p.1 p.2) (fun p => μ p.1 p.2) (_, _) h0 ?_ ?_
  · refine GSt.trans (GSt.nil 8 34 [.int .i64, .int .i64] rfl) (GSt.ren [0] rfl rfl rfl (fun i hi => absurd hi (Nat.not_lt_zero i)) (Nat.zero_le _) ?_ ?_)
    all_goals (repeat' (first | exact trivial | exact Or.inl rfl | exact Or.inr rfl | refine And.intro ?_ ?_))
  · rintro ⟨l5, i6⟩ h
    replace h := hI l5 i6 h
    cbv
    refine ⟨fun hb11 => ?_, fun hb11 => ?_⟩
    · replace h := h.t hb11
      have c12 := h.1
      refine ⟨c12, ?_⟩
      replace h := h.2
      have c13 := h.1
      refine ⟨c13, ?_⟩
      replace h := h.2
      have c14 := h.1
      refine ⟨c14, ?_⟩
      replace h := h.2 _ rfl
      refine ⟨c12, ?_⟩
      refine ⟨c13, ?_⟩
      have c15 := h.1
      refine ⟨c15, ?_⟩
      replace h := h.2 _ rfl
      refine ⟨⟨fun hh => hh⟩, ?_⟩
      refine ⟨⟨fun hh => hh⟩, ?_⟩
      refine ⟨⟨fun hh => hh⟩, ?_⟩
      refine ⟨⟨fun hh => hh⟩, ?_⟩
      refine ⟨⟨fun hh => hh⟩, ?_⟩
      refine ⟨⟨fun hh => hh⟩, ?_⟩
      refine ⟨⟨fun hh => hh⟩, ?_⟩
      refine ⟨⟨fun hh => hh⟩, ?_⟩
      have c16 := h.1
      refine ⟨c16, ?_⟩
      replace h := h.2
      refine ⟨⟨fun hh => hh⟩, ?_⟩
      refine ⟨⟨fun hh => hh⟩, ?_⟩
      have c17 := h.1
      refine ⟨c17, ?_⟩
      replace h := h.2
      refine ⟨⟨fun hh => hh⟩, ?_⟩
      refine ⟨⟨fun hh => hh⟩, ?_⟩
      refine ⟨⟨fun hh => hh⟩, ?_⟩
      refine ⟨⟨fun hh => hh⟩, ?_⟩
      refine ⟨⟨fun hh => hh⟩, ?_⟩
      refine ⟨⟨fun hh => hh⟩, ?_⟩
      have c18 := h.1
      refine ⟨c18, ?_⟩
      replace h := h.2
      refine ⟨⟨fun hh => hh⟩, ?_⟩
      have c19 := h.1
      refine ⟨c19, ?_⟩
      replace h := h.2
      refine ⟨⟨fun hh => hh⟩, ?_⟩
      refine ⟨fun hb20 => ?_, fun hb20 => ?_⟩
      · replace h := h.t hb20
        refine ⟨(_, _), h.1, GSt.ren [0] rfl rfl rfl (fun i hi => absurd hi (Nat.not_lt_zero i)) (Nat.zero_le _) ?_ ?_, h.2⟩
        all_goals (repeat' (first | exact trivial | exact Or.inl rfl | exact Or.inr rfl | refine And.intro ?_ ?_))
      · replace h := h.f hb20
        refine ⟨⟨fun hh => hh⟩, ?_⟩
        refine ⟨⟨fun hh => hh⟩, ?_⟩
        refine ⟨⟨fun hh => hh⟩, ?_⟩
        have c21 := h.1
        refine ⟨c21, ?_⟩
        replace h := h.2
        refine ⟨⟨fun hh => hh⟩, ?_⟩
        refine ⟨⟨fun hh => hh⟩, ?_⟩
        refine ⟨⟨fun hh => hh⟩, ?_⟩
        refine ⟨⟨fun hh => hh⟩, ?_⟩
        refine ⟨⟨fun _ => c12⟩, ?_⟩
        refine ⟨⟨fun _ => c13⟩, ?_⟩
        refine ⟨⟨fun hh => hh⟩, ?_⟩
        refine ⟨⟨fun hh => hh⟩, ?_⟩
        refine ⟨⟨fun hh => hh⟩, ?_⟩
        refine ⟨⟨fun hh => hh⟩, ?_⟩
        refine ⟨fun hb22 => ?_, fun hb22 => ?_⟩
        · replace h := h.t hb22
          have c23 := h.1
          refine ⟨c23, ?_⟩
          replace h := h.2
          refine ⟨hb11, ?_⟩
          have c24 := h.1
          refine ⟨c24, ?_⟩
          replace h := h.2
          have c25 := h.1
          refine ⟨c25, ?_⟩
          replace h := h.2
          refine ⟨(_, _), h.1, GSt.ren [0] rfl rfl rfl (fun i hi => absurd hi (Nat.not_lt_zero i)) (Nat.zero_le _) ?_ ?_, h.2⟩
          all_goals (repeat' (first | exact trivial | exact Or.inl rfl | exact Or.inr rfl | refine And.intro ?_ ?_))
        · replace h := h.f hb22
          refine ⟨c12, ?_⟩
          refine ⟨c13, ?_⟩
          have c26 := h.1
          refine ⟨c26, ?_⟩
          replace h := h.2
          refine ⟨hb11, ?_⟩
          have c27 := h.1
          refine ⟨c27, ?_⟩
          replace h := h.2
          refine ⟨(_, _), h.1, GSt.ren [2] rfl rfl rfl (fun i hi => absurd hi (Nat.not_lt_zero i)) (Nat.zero_le _) ?_ ?_, h.2⟩
          all_goals (repeat' (first | exact trivial | exact Or.inl rfl | exact Or.inr rfl | refine And.intro ?_ ?_))
    · replace h := h.f hb11
      have h : _ = row := h
      subst h
      repeat' (first | exact trivial | exact rfl | refine And.intro ?_ ?_)
def vc76 (E : Env) (x1 : Int) (Q0 : (List (List C)) → (Int) → Prop) : Prop :=
  Br (E.lt x1 0)
  (False)
  (Br (E.lt 0 (E.sub .i64 x1 (E.sub .i64 0 0)))
    (((E.eq 0 0) = true) ∧ 
      (((E.le 0 (E.sub .i64 x1 (E.sub .i64 0 0))) = true) ∧ ((E.le (E.sub .i64 x1 (E.sub .i64 0 0)) 8796093022208) = true) ∧ 
      (((E.le 0 0) = true) ∧ ((E.le 0 (E.len (E.rep (E.sub .i64 x1 (E.sub .i64 0 0)) [.int .i64 0, .int .i64 0]))) = true) ∧ 
      (Q0 ((E.rep (E.sub .i64 x1 (E.sub .i64 0 0)) [.int .i64 0, .int .i64 0])) ((E.mi 0 0))))))
    (Q0 ([]) (0)))
theorem w76 {P : Program} {tbl : FuncId → List A → List C}  {x1 : Int} {Q0 : (List (List C)) → (Int) → Prop} (h : vc76 (stdE P tbl) x1 Q0) : WEg P tbl rf76 (fun r H' => (∃ l1 : List (List C), ∃ i2 : Int, Q0 l1 i2 ∧ r = .own 0 0 i2 ∧ H' = [.arr 34 [.int .i64, .int .i64] l1])) [.c (.nil), .c (.int .i64 x1)] [] := by
  refine ⟨?_⟩
  revert h
  generalize hE : stdE P tbl = E
  intro h
  unfold vc76 at h
  cbv
  refine ⟨fun hb3 => ?_, fun hb3 => ?_⟩
  · replace h := h.t hb3
    exact h.elim
  · replace h := h.f hb3
    refine ⟨fun hb4 => ?_, fun hb4 => ?_⟩
    · replace h := h.t hb4
      have c5 := h.1
      refine ⟨c5, ?_⟩
      replace h := h.2
      refine ⟨c5, ?_⟩
      have c6 := h.1
      refine ⟨c6, ?_⟩
      replace h := h.2
      have c7 := h.1
      refine ⟨c7, ?_⟩
      replace h := h.2
      have c8 := h.1
      refine ⟨c8, ?_⟩
      replace h := h.2
      refine ⟨c8, ?_⟩
      have c9 := h.1
      refine ⟨c9, ?_⟩
      replace h := h.2
      refine ⟨_, _, GFin.of (GSt.ren [0] rfl rfl rfl (fun i hi => absurd hi (Nat.not_lt_zero i)) (Nat.zero_le _) ?_ ?_), ⟨_, _, h, rfl, rfl⟩⟩
      all_goals (repeat' (first | exact trivial | exact Or.inl rfl | exact Or.inr rfl | refine And.intro ?_ ?_))
    · replace h := h.f hb4
      refine ⟨_, _, GFin.of (GSt.trans (GSt.nilOwn 0 34 [.int .i64, .int .i64] rfl) (GSt.ren [0] rfl rfl rfl (fun i hi => absurd hi (Nat.not_lt_zero i)) (Nat.zero_le _) ?_ ?_)), ⟨_, _, h, rfl, rfl⟩⟩
      all_goals (repeat' (first | exact trivial | exact Or.inl rfl | exact Or.inr rfl | refine And.intro ?_ ?_))
def vc80 (E : Env) (x1 : List (List C)) (x2 : List (List C)) (Q : List C → Prop) : Prop :=
  LoopP2 (fun (l3 : List (List C)) (i4 : Int) (K5 : (List (List C)) → (Int) → Prop) =>
  Br (E.lt i4 (E.len x1))
    (((E.le 0 i4) = true) ∧ 
      ((E.pok 94 [(false, [.sl [.int .i64]])] [.c (.sl [.int .i64] l3), .c (.int .i64 (E.gi (E.cell x1 i4 0)))]) ∧ (∀ r6 : Nat → C, r6 = E.res 94 [.c (.sl [.int .i64] l3), .c (.int .i64 (E.gi (E.cell x1 i4 0)))] → 
      ((E.pok 94 [(false, [.sl [.int .i64]])] [.c (.sl [.int .i64] (E.gl (r6 0))), .c (.int .i64 (E.gi (E.cell x1 i4 1)))]) ∧ (∀ r7 : Nat → C, r7 = E.res 94 [.c (.sl [.int .i64] (E.gl (r6 0))), .c (.int .i64 (E.gi (E.cell x1 i4 1)))] → 
      (K5 ((E.gl (r7 0))) ((E.add .i64 i4 1))))))))
    (LoopP2 (fun (l8 : List (List C)) (i9 : Int) (K10 : (List (List C)) → (Int) → Prop) =>
      Br (E.lt i9 (E.len x2))
        (((E.le 0 i9) = true) ∧ 
          ((E.pok 94 [(false, [.sl [.int .i64]])] [.c (.sl [.int .i64] l8), .c (.int .i64 (E.gi (E.cell x2 i9 0)))]) ∧ (∀ r11 : Nat → C, r11 = E.res 94 [.c (.sl [.int .i64] l8), .c (.int .i64 (E.gi (E.cell x2 i9 0)))] → 
          ((E.pok 94 [(false, [.sl [.int .i64]])] [.c (.sl [.int .i64] (E.gl (r11 0))), .c (.int .i64 (E.gi (E.cell x2 i9 1)))]) ∧ (∀ r12 : Nat → C, r12 = E.res 94 [.c (.sl [.int .i64] (E.gl (r11 0))), .c (.int .i64 (E.gi (E.cell x2 i9 1)))] → 
          (K10 ((E.gl (r12 0))) ((E.add .i64 i9 1))))))))
        (Q [.sl [.int .i64] l8]))
      (l3) (0)))
  ([]) (0)
theorem w80 {P : Program} {tbl : FuncId → List A → List C}  {x1 : List (List C)} {x2 : List (List C)} {row : List C} (h : vc80 (stdE P tbl) x1 x2 fun c => c = row) : WPg P tbl rf80 [(false, [.sl [.int .i64]])] row [.c (.sl [.int .i64, .int .i64] x1), .c (.sl [.int .i64, .int .i64] x2)] := by
  refine ⟨?_⟩
  revert h
  generalize hE : stdE P tbl = E
  intro h
  unfold vc80 at h
  cbv
  obtain ⟨I, μ, h0, hI⟩ := h
  refine LoopW.inv (fun R R' s h k => RCode.wp_mono _ R R' s h k) (fun p : List (List C) × Int => (fun (l3 : List (List C)) (i4 : Int) => (⟨[.c (.sl [.int .i64, .int .i64] x1), .c (.sl [.int .i64, .int .i64] x2), .u, .u, .u, .c (.sl [.int .i64] l3), .c (.int .i64 i4), .u, .u, .u, .u, .u, .u, .u, .u, .u, .u, .u, .u, .u, .u, .u, .u, .u, .u, .u, .u, .u, .u, .u, .u, .u, .u, .u, .u, .u, .u, .u, .u, .u, .u, .u, .u, .u, .u, .u, .u], []⟩ : St)) p.1 p.2) (fun p => I p.1 p.2) (fun p => μ p.1 p.2) (_, _) h0 ?_ ?_
  · refine GSt.trans (GSt.nilSl 5 [.int .i64] rfl) (GSt.ren [] rfl rfl rfl (fun i hi => absurd hi (Nat.not_lt_zero i)) (Nat.zero_le _) ?_ ?_)
    all_goals (repeat' (first | exact trivial | exact Or.inl rfl | exact Or.inr rfl | refine And.intro ?_ ?_))
  · rintro ⟨l3, i4⟩ h
    replace h := hI l3 i4 h
    cbv
    refine ⟨fun hb13 => ?_, fun hb13 => ?_⟩
    · replace h := h.t hb13
      have c14 := h.1
      refine ⟨c14, ?_⟩
      replace h := h.2
      refine ⟨hb13, ?_⟩
      have c15 := h.1
      refine ⟨c15, ?_⟩
      replace h := h.2 _ rfl
      refine ⟨c14, ?_⟩
      refine ⟨hb13, ?_⟩
      have c16 := h.1
      refine ⟨c16, ?_⟩
      replace h := h.2 _ rfl
      refine ⟨(_, _), h.1, GSt.ren [] rfl rfl rfl (fun i hi => absurd hi (Nat.not_lt_zero i)) (Nat.zero_le _) ?_ ?_, h.2⟩
      all_goals (repeat' (first | exact trivial | exact Or.inl rfl | exact Or.inr rfl | refine And.intro ?_ ?_))
    · replace h := h.f hb13
      obtain ⟨I, μ, h0, hI⟩ := h
      refine LoopW.inv (fun R R' s h k => RCode.wp_mono _ R R' s h k) (fun p : List (List C) × Int => (fun (l8 : List (List C)) (i9 : Int) => (⟨[.u, .c (.sl [.int .i64, .int .i64] x2), .u, .u, .u, .c (.sl [.int .i64] l8), .u, .c (.int .i64 i9), .u, .u, .u, .u, .u, .u, .u, .u, .u, .u, .u, .u, .u, .u, .u, .u, .u, .u, .u, .u, .u, .u, .u, .u, .u, .u, .u, .u, .u, .u, .u, .u, .u, .u, .u, .u, .u, .u, .u], []⟩ : St)) p.1 p.2) (fun p => I p.1 p.2) (fun p => μ p.1 p.2) (_, _) h0 ?_ ?_
      · refine GSt.ren [] rfl rfl rfl (fun i hi => absurd hi (Nat.not_lt_zero i)) (Nat.zero_le _) ?_ ?_
        all_goals (repeat' (first | exact trivial | exact Or.inl rfl | exact Or.inr rfl | refine And.intro ?_ ?_))
      · rintro ⟨l8, i9⟩ h
        replace h := hI l8 i9 h
        cbv
        refine ⟨fun hb17 => ?_, fun hb17 => ?_⟩
        · replace h := h.t hb17
          have c18 := h.1
          refine ⟨c18, ?_⟩
          replace h := h.2
          refine ⟨hb17, ?_⟩
          have c19 := h.1
          refine ⟨c19, ?_⟩
          replace h := h.2 _ rfl
          refine ⟨c18, ?_⟩
          refine ⟨hb17, ?_⟩
          have c20 := h.1
          refine ⟨c20, ?_⟩
          replace h := h.2 _ rfl
          refine ⟨(_, _), h.1, GSt.ren [] rfl rfl rfl (fun i hi => absurd hi (Nat.not_lt_zero i)) (Nat.zero_le _) ?_ ?_, h.2⟩
          all_goals (repeat' (first | exact trivial | exact Or.inl rfl | exact Or.inr rfl | refine And.intro ?_ ?_))
        · replace h := h.f hb17
          have h : _ = row := h
          subst h
          repeat' (first | exact trivial | exact rfl | refine And.intro ?_ ?_)
def vc81 (E : Env) (x1 : List (List C)) (x2 : Int) (Q : List C → Prop) : Prop :=
  LoopP1 (fun (i3 : Int) (K4 : (Int) → Prop) =>
  Br (E.lt i3 (E.len x1))
    (((E.le 0 i3) = true) ∧ 
      (Br (E.bite (E.le (E.gi (E.cell x1 i3 0)) x2) (E.lt x2 (E.gi (E.cell x1 i3 1))) false)
      (Q [.bool true])
      (K4 ((E.add .i64 i3 1)))))
    (Q [.bool false]))
  (0)
theorem w81 {P : Program} {tbl : FuncId → List A → List C}  {x1 : List (List C)} {x2 : Int} {row : List C} (h : vc81 (stdE P tbl) x1 x2 fun c => c = row) : WPg P tbl rf81 [(false, [.bool])] row [.c (.sl [.int .i64, .int .i64] x1), .c (.int .i64 x2)] := by
  refine ⟨?_⟩
  revert h
  generalize hE : stdE P tbl = E
  intro h
  unfold vc81 at h
  cbv
  obtain ⟨I, μ, h0, hI⟩ := h
  refine LoopW.inv (fun R R' s h k => RCode.wp_mono _ R R' s h k) (fun p : Int => (fun (i3 : Int) => (⟨[.c (.sl [.int .i64, .int .i64] x1), .c (.int .i64 x2), .u, .u, .u, .c (.int .i64 i3), .u, .u, .u, .u, .u, .u, .u, .u, .u, .u, .u, .u, .u, .u, .u, .u, .u, .u, .u, .u, .u, .u], []⟩ : St)) p) (fun p => I p) (fun p => μ p) _ h0 ?_ ?_
  · refine GSt.ren [] rfl rfl rfl (fun i hi => absurd hi (Nat.not_lt_zero i)) (Nat.zero_le _) ?_ ?_
    all_goals (repeat' (first | exact trivial | exact Or.inl rfl | exact Or.inr rfl | refine And.intro ?_ ?_))
  · rintro i3 h
    replace h := hI i3 h
    cbv
    refine ⟨fun hb5 => ?_, fun hb5 => ?_⟩
    · replace h := h.t hb5
      have c6 := h.1
      refine ⟨c6, ?_⟩
      replace h := h.2
      refine ⟨hb5, ?_⟩
      refine ⟨⟨fun hh => hh⟩, ?_⟩
      refine ⟨⟨fun hh => hh⟩, ?_⟩
      refine ⟨⟨fun _ => c6⟩, ?_⟩
      refine ⟨⟨fun _ => hb5⟩, ?_⟩
      refine ⟨⟨fun hh => hh⟩, ?_⟩
      refine ⟨⟨fun hh => hh⟩, ?_⟩
      refine ⟨⟨fun hh => hh⟩, ?_⟩
      refine ⟨⟨fun hh => hh⟩, ?_⟩
      refine ⟨⟨fun hh => hh⟩, ?_⟩
      refine ⟨fun hb7 => ?_, fun hb7 => ?_⟩
      · replace h := h.t hb7
        have h : _ = row := h
        subst h
        repeat' (first | exact trivial | exact rfl | refine And.intro ?_ ?_)
      · replace h := h.f hb7
        refine ⟨_, h.1, GSt.ren [] rfl rfl rfl (fun i hi => absurd hi (Nat.not_lt_zero i)) (Nat.zero_le _) ?_ ?_, h.2⟩
        all_goals (repeat' (first | exact trivial | exact Or.inl rfl | exact Or.inr rfl | refine And.intro ?_ ?_))
    · replace h := h.f hb5
      have h : _ = row := h
      subst h
      repeat' (first | exact trivial | exact rfl | refine And.intro ?_ ?_)
def vc94 (E : Env) (x1 : List (List C)) (x2 : Int) (Q : List C → Prop) : Prop :=
  LoopP1 (fun (i3 : Int) (K4 : (Int) → Prop) =>
  (Imp (E.lt i3 (E.len x1)) ((E.le 0 i3) = true)) ∧ 
    (Br (E.bite (E.lt i3 (E.len x1)) (E.lt (E.gi (E.cell x1 i3 0)) x2) false)
    (K4 ((E.add .i64 i3 1)))
    (Br (E.bite (E.lt i3 (E.len x1)) (E.eq (E.gi (E.cell x1 i3 0)) x2) false)
      (Q [.sl [.int .i64] x1])
      (((E.le 0 0) = true) ∧ ((E.le 0 i3) = true) ∧ ((E.le i3 (E.len x1)) = true) ∧ 
        (((E.le (E.pl (E.len []) (E.len (E.cut x1 0 i3))) 17592186044416) = true) ∧ 
        (((E.le (E.pl (E.len (E.cat [] (E.cut x1 0 i3))) (E.len [[.int .i64 x2]])) 17592186044416) = true) ∧ 
        (((E.le (E.len x1) (E.len x1)) = true) ∧ 
        (((E.le (E.pl (E.len (E.cat (E.cat [] (E.cut x1 0 i3)) [[.int .i64 x2]])) (E.len (E.cut x1 i3 (E.len x1)))) 17592186044416) = true) ∧ 
        (Q [.sl [.int .i64] (E.cat (E.cat (E.cat [] (E.cut x1 0 i3)) [[.int .i64 x2]]) (E.cut x1 i3 (E.len x1)))])))))))))
  (0)
theorem w94 {P : Program} {tbl : FuncId → List A → List C}  {x1 : List (List C)} {x2 : Int} {row : List C} (h : vc94 (stdE P tbl) x1 x2 fun c => c = row) : WPg P tbl rf94 [(false, [.sl [.int .i64]])] row [.c (.sl [.int .i64] x1), .c (.int .i64 x2)] := by
  refine ⟨?_⟩
  revert h
  generalize hE : stdE P tbl = E
  intro h
  unfold vc94 at h
  cbv
  obtain ⟨I, μ, h0, hI⟩ := h
  refine LoopW.inv (fun R R' s h k => RCode.wp_mono _ R R' s h k) (fun p : Int => (fun (i3 : Int) => (⟨[.c (.sl [.int .i64] x1), .c (.int .i64 x2), .u, .u, .u, .c (.int .i64 i3), .u, .u, .u, .u, .u, .u, .u, .u, .u, .u, .u, .u, .u, .u, .u, .u, .u, .u, .u, .u, .u, .u, .u, .u, .u, .u, .u, .u, .u, .u, .u, .u, .u, .u, .u, .u, .u, .u, .u, .u, .u, .u], []⟩ : St)) p) (fun p => I p) (fun p => μ p) _ h0 ?_ ?_
  · refine GSt.ren [] rfl rfl rfl (fun i hi => absurd hi (Nat.not_lt_zero i)) (Nat.zero_le _) ?_ ?_
    all_goals (repeat' (first | exact trivial | exact Or.inl rfl | exact Or.inr rfl | refine And.intro ?_ ?_))
  · rintro i3 h
    replace h := hI i3 h
    cbv
    refine ⟨⟨fun hh => hh⟩, ?_⟩
    refine ⟨⟨fun hh => hh⟩, ?_⟩
    have c5 := h.1
    refine ⟨c5, ?_⟩
    replace h := h.2
    refine ⟨⟨fun hh => hh⟩, ?_⟩
    refine ⟨⟨fun hh => hh⟩, ?_⟩
    refine ⟨⟨fun hh => hh⟩, ?_⟩
    refine ⟨⟨fun hh => hh⟩, ?_⟩
    refine ⟨⟨fun hh => hh⟩, ?_⟩
    refine ⟨fun hb6 => ?_, fun hb6 => ?_⟩
    · replace h := h.t hb6
      refine ⟨_, h.1, GSt.ren [] rfl rfl rfl (fun i hi => absurd hi (Nat.not_lt_zero i)) (Nat.zero_le _) ?_ ?_, h.2⟩
      all_goals (repeat' (first | exact trivial | exact Or.inl rfl | exact Or.inr rfl | refine And.intro ?_ ?_))
    · replace h := h.f hb6
      refine ⟨⟨fun hh => hh⟩, ?_⟩
      refine ⟨⟨fun hh => hh⟩, ?_⟩
      refine ⟨c5, ?_⟩
      refine ⟨⟨fun hh => hh⟩, ?_⟩
      refine ⟨⟨fun hh => hh⟩, ?_⟩
      refine ⟨⟨fun hh => hh⟩, ?_⟩
      refine ⟨⟨fun hh => hh⟩, ?_⟩
      refine ⟨⟨fun hh => hh⟩, ?_⟩
      refine ⟨fun hb7 => ?_, fun hb7 => ?_⟩
      · replace h := h.t hb7
        have h : _ = row := h
        subst h
        repeat' (first | exact trivial | exact rfl | refine And.intro ?_ ?_)
      · replace h := h.f hb7
        have c8 := h.1
        refine ⟨c8, ?_⟩
        replace h := h.2
        have c9 := h.1
        refine ⟨c9, ?_⟩
        replace h := h.2
        have c10 := h.1
        refine ⟨c10, ?_⟩
        replace h := h.2
        have c11 := h.1
        refine ⟨c11, ?_⟩
        replace h := h.2
        have c12 := h.1
        refine ⟨c12, ?_⟩
        replace h := h.2
        refine ⟨c9, ?_⟩
        refine ⟨c10, ?_⟩
        have c13 := h.1
        refine ⟨c13, ?_⟩
        replace h := h.2
        have c14 := h.1
        refine ⟨c14, ?_⟩
        replace h := h.2
        have h : _ = row := h
        subst h
        repeat' (first | exact trivial | exact rfl | refine And.intro ?_ ?_)
end Go.Proofs.Ytkdapoipnkpbeaa.R
