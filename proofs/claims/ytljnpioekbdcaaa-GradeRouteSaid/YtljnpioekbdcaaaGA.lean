/- Grades: the walks of the functions that compare them. No conditions. -/
import Derived.Test.YtljnpioekbdcaaaAwake
set_option linter.unusedVariables false
set_option linter.unusedSimpArgs false
namespace Go.Proofs.Ytljnpioekbdcaaa.V
open Go Go.Eng
set_option maxRecDepth 1000000
set_option maxHeartbeats 1000000
/-- papermill papermillref31.Meets -/
def rf17 : RFn := ⟨(.seq (.ops 2 [⟨(some 2), (.v (.box 0 33 (.t 0))), none, []⟩, ⟨(some 3), (.v (.box 1 35 (.t 1))), none, []⟩, ⟨(some 4), (.v (.mv (.k (.c (.bool false))))), none, []⟩]) (.seq (.ops 0 [⟨(some 5), (.v (.fa 1 (.t 2))), none, []⟩, ⟨(some 6), (.v (.ld (.t 5))), none, []⟩, ⟨(some 7), (.v (.fa 0 (.t 3))), none, []⟩, ⟨(some 8), (.v (.ld (.t 7))), none, []⟩, ⟨(some 9), (.v (.fa 2 (.t 2))), none, []⟩, ⟨(some 10), (.v (.ld (.t 9))), none, []⟩, ⟨(some 11), (.v (.det 35 [⟨false, [.bool]⟩] [(.t 6), (.t 8), (.t 10)])), none, []⟩, ⟨(some 12), (.v (.mv (.t 11))), none, []⟩, ⟨(some 13), (.v (.fa 3 (.t 2))), (some ⟨12, true⟩), [(.t 2)]⟩, ⟨(some 14), (.v (.ld (.t 13))), (some ⟨12, true⟩), [(.t 13)]⟩, ⟨(some 15), (.v (.fa 1 (.t 3))), (some ⟨12, true⟩), [(.t 3)]⟩, ⟨(some 16), (.v (.ld (.t 15))), (some ⟨12, true⟩), [(.t 15)]⟩, ⟨(some 17), (.v (.fa 4 (.t 2))), (some ⟨12, true⟩), [(.t 2)]⟩, ⟨(some 18), (.v (.ld (.t 17))), (some ⟨12, true⟩), [(.t 17)]⟩, ⟨(some 19), (.v (.det 35 [⟨false, [.bool]⟩] [(.t 14), (.t 16), (.t 18)])), (some ⟨12, true⟩), [(.k (.fn 35 [])), (.t 14), (.t 16), (.t 18)]⟩, ⟨(some 20), (.v (.pick (.t 12) (.t 19) (.k (.c (.bool false))))), none, []⟩, ⟨(some 4), (.v (.mv (.t 20))), none, []⟩]) .ret)), 21, [(.t 4)]⟩
theorem h17 : fnR Try.prog DD 17 = some rf17 := by kernel_rfl
/-- papermill papermillref31.within -/
def rf35 : RFn := ⟨(.seq (.ops 0 [⟨(some 6), (.v (.mv (.k (.c (.bool false))))), none, []⟩]) (.seq (.ops 0 [⟨(some 7), (.v (.mv (.t 2))), none, []⟩, ⟨(some 8), (.v (.bin .geq (.t 7) (.k (.c (.int .i64 0))))), none, []⟩, ⟨(some 9), (.v (.mv (.t 8))), none, []⟩, ⟨(some 10), (.v (.mv (.t 0))), (some ⟨9, true⟩), [(.t 0)]⟩, ⟨(some 11), (.v (.mv (.t 1))), (some ⟨9, true⟩), [(.t 1)]⟩, ⟨(some 12), (.v (.det 37 [⟨false, [(.int .u64)]⟩] [(.t 10), (.t 11)])), (some ⟨9, true⟩), [(.k (.fn 37 [])), (.t 10), (.t 11)]⟩, ⟨(some 13), (.v (.mv (.t 2))), (some ⟨9, true⟩), [(.t 2)]⟩, ⟨(some 14), (.v (.cv .u64 (.t 13))), (some ⟨9, true⟩), [(.t 13)]⟩, ⟨(some 15), (.v (.bin .leq (.t 12) (.t 14))), (some ⟨9, true⟩), [(.t 12), (.t 14)]⟩, ⟨(some 16), (.v (.pick (.t 9) (.t 15) (.k (.c (.bool false))))), none, []⟩, ⟨(some 6), (.v (.mv (.t 16))), none, []⟩]) .ret)), 17, [(.t 6)]⟩
theorem h35 : fnR Try.prog DD 35 = some rf35 := by kernel_rfl
/-- papermill papermillref31.apart -/
def rf37 : RFn := ⟨(.seq (.ops 0 [⟨(some 4), (.v (.mv (.k (.c (.int .u64 0))))), none, []⟩]) (.seq (.seq (.ops 0 [⟨(some 5), (.v (.mv (.t 0))), none, []⟩, ⟨(some 6), (.v (.mv (.t 1))), none, []⟩, ⟨(some 7), (.v (.bin .lss (.t 5) (.t 6))), none, []⟩]) (.cond (.t 7) (.ops 0 [⟨(some 8), (.v (.mv (.t 1))), none, []⟩, ⟨(some 9), (.v (.mv (.t 0))), none, []⟩, ⟨(some 0), (.v (.mv (.t 8))), none, []⟩, ⟨(some 1), (.v (.mv (.t 9))), none, []⟩]) .skip)) (.seq (.ops 0 [⟨(some 10), (.v (.mv (.t 0))), none, []⟩, ⟨(some 11), (.v (.cv .u64 (.t 10))), none, []⟩, ⟨(some 12), (.v (.mv (.t 1))), none, []⟩, ⟨(some 13), (.v (.cv .u64 (.t 12))), none, []⟩, ⟨(some 14), (.v (.bin .sub (.t 11) (.t 13))), none, []⟩, ⟨(some 4), (.v (.mv (.t 14))), none, []⟩]) .ret))), 15, [(.t 4)]⟩
theorem h37 : fnR Try.prog DD 37 = some rf37 := by kernel_rfl
/-- papermill papermillref31.Same -/
def rf19 : RFn := ⟨(.seq (.ops 2 [⟨(some 2), (.v (.box 0 33 (.t 0))), none, []⟩, ⟨(some 3), (.v (.box 1 33 (.t 1))), none, []⟩, ⟨(some 4), (.v (.mv (.k (.c (.bool false))))), none, []⟩]) (.seq (.ops 0 [⟨(some 5), (.v (.fa 1 (.t 2))), none, []⟩, ⟨(some 6), (.v (.ld (.t 5))), none, []⟩, ⟨(some 7), (.v (.fa 2 (.t 2))), none, []⟩, ⟨(some 8), (.v (.ld (.t 7))), none, []⟩, ⟨(some 9), (.v (.fa 1 (.t 3))), none, []⟩, ⟨(some 10), (.v (.ld (.t 9))), none, []⟩, ⟨(some 11), (.v (.fa 2 (.t 3))), none, []⟩, ⟨(some 12), (.v (.ld (.t 11))), none, []⟩, ⟨(some 13), (.v (.det 36 [⟨false, [.bool]⟩] [(.t 6), (.t 8), (.t 10), (.t 12)])), none, []⟩, ⟨(some 14), (.v (.mv (.t 13))), none, []⟩, ⟨(some 15), (.v (.fa 3 (.t 2))), (some ⟨14, true⟩), [(.t 2)]⟩, ⟨(some 16), (.v (.ld (.t 15))), (some ⟨14, true⟩), [(.t 15)]⟩, ⟨(some 17), (.v (.fa 4 (.t 2))), (some ⟨14, true⟩), [(.t 2)]⟩, ⟨(some 18), (.v (.ld (.t 17))), (some ⟨14, true⟩), [(.t 17)]⟩, ⟨(some 19), (.v (.fa 3 (.t 3))), (some ⟨14, true⟩), [(.t 3)]⟩, ⟨(some 20), (.v (.ld (.t 19))), (some ⟨14, true⟩), [(.t 19)]⟩, ⟨(some 21), (.v (.fa 4 (.t 3))), (some ⟨14, true⟩), [(.t 3)]⟩, ⟨(some 22), (.v (.ld (.t 21))), (some ⟨14, true⟩), [(.t 21)]⟩, ⟨(some 23), (.v (.det 36 [⟨false, [.bool]⟩] [(.t 16), (.t 18), (.t 20), (.t 22)])), (some ⟨14, true⟩), [(.k (.fn 36 [])), (.t 16), (.t 18), (.t 20), (.t 22)]⟩, ⟨(some 24), (.v (.pick (.t 14) (.t 23) (.k (.c (.bool false))))), none, []⟩, ⟨(some 4), (.v (.mv (.t 24))), none, []⟩]) .ret)), 25, [(.t 4)]⟩
theorem h19 : fnR Try.prog DD 19 = some rf19 := by kernel_rfl
/-- papermill papermillref31.meet -/
def rf36 : RFn := ⟨(.seq (.ops 0 [⟨(some 8), (.v (.mv (.k (.c (.bool false))))), none, []⟩]) (.seq (.ops 0 [⟨(some 9), (.v (.mv (.t 1))), none, []⟩, ⟨(some 10), (.v (.bin .geq (.t 9) (.k (.c (.int .i64 0))))), none, []⟩, ⟨(some 11), (.v (.mv (.t 10))), none, []⟩, ⟨(some 12), (.v (.mv (.t 3))), (some ⟨11, true⟩), [(.t 3)]⟩, ⟨(some 13), (.v (.bin .geq (.t 12) (.k (.c (.int .i64 0))))), (some ⟨11, true⟩), [(.t 12), (.k (.c (.int .i64 0)))]⟩, ⟨(some 14), (.v (.pick (.t 11) (.t 13) (.k (.c (.bool false))))), none, []⟩, ⟨(some 15), (.v (.mv (.t 14))), none, []⟩, ⟨(some 16), (.v (.mv (.t 0))), (some ⟨15, true⟩), [(.t 0)]⟩, ⟨(some 17), (.v (.mv (.t 2))), (some ⟨15, true⟩), [(.t 2)]⟩, ⟨(some 18), (.v (.det 37 [⟨false, [(.int .u64)]⟩] [(.t 16), (.t 17)])), (some ⟨15, true⟩), [(.k (.fn 37 [])), (.t 16), (.t 17)]⟩, ⟨(some 19), (.v (.mv (.t 1))), (some ⟨15, true⟩), [(.t 1)]⟩, ⟨(some 20), (.v (.cv .u64 (.t 19))), (some ⟨15, true⟩), [(.t 19)]⟩, ⟨(some 21), (.v (.mv (.t 3))), (some ⟨15, true⟩), [(.t 3)]⟩, ⟨(some 22), (.v (.cv .u64 (.t 21))), (some ⟨15, true⟩), [(.t 21)]⟩, ⟨(some 23), (.v (.bin .add (.t 20) (.t 22))), (some ⟨15, true⟩), [(.t 20), (.t 22)]⟩, ⟨(some 24), (.v (.bin .leq (.t 18) (.t 23))), (some ⟨15, true⟩), [(.t 18), (.t 23)]⟩, ⟨(some 25), (.v (.pick (.t 15) (.t 24) (.k (.c (.bool false))))), none, []⟩, ⟨(some 8), (.v (.mv (.t 25))), none, []⟩]) .ret)), 26, [(.t 8)]⟩
theorem h36 : fnR Try.prog DD 36 = some rf36 := by kernel_rfl
/-- papermill papermillref31.Steps -/
def rf21 : RFn := ⟨(.seq (.ops 3 [⟨(some 2), (.v (.box 0 33 (.t 0))), none, []⟩, ⟨(some 3), (.v (.box 1 33 (.t 1))), none, []⟩, ⟨(some 4), (.v (.alloc 2 35 [(.c (.int .i64 0)), (.c (.int .i64 0))])), none, []⟩, ⟨(some 5), (.v (.mv (.k (.c (.int .i64 0))))), none, []⟩]) (.seq (.ops 1 [⟨(some 8), (.v (.lda 8 (.t 2))), none, []⟩, ⟨(some 9), (.v (.lda 8 (.t 3))), none, []⟩, ⟨(some 10), (.v (.bsl 0 33 [.str, (.int .i64), (.int .i64), (.int .i64), (.int .i64), (.int .i64), (.sl [(.int .i64)]), (.int .i64)] [(.t 8), (.t 9)])), none, []⟩, ⟨(some 6), (.v (.mv (.t 10))), none, []⟩]) (.seq (.seq (.ops 0 [⟨(some 7), (.v (.mv (.k (.c (.int .i64 0))))), none, []⟩]) (.block 0 (.loop (.seq (.seq (.ops 0 [⟨(some 11), (.v (.mv (.t 7))), none, []⟩, ⟨(some 12), (.v (.bin .lss (.t 11) (.k (.c (.int .i64 2))))), none, []⟩]) (.cond (.t 12) .skip (.exit 0))) (.seq (.block 1 (.seq (.ops 0 [⟨(some 15), (.v (.mv (.t 6))), none, []⟩, ⟨(some 16), (.v (.mv (.t 7))), none, []⟩, ⟨(some 17), (.v (.ia 8 (.t 15) (.t 16))), none, []⟩, ⟨(some 18), (.v (.fa 1 (.t 17))), none, []⟩, ⟨(some 19), (.v (.ld (.t 18))), none, []⟩, ⟨(some 20), (.v (.bin .lss (.t 19) (.k (.c (.int .i64 1))))), none, []⟩, ⟨(some 21), (.v (.mv (.t 20))), none, []⟩, ⟨(some 22), (.v (.mv (.t 6))), (some ⟨21, false⟩), [(.t 6)]⟩, ⟨(some 23), (.v (.mv (.t 7))), (some ⟨21, false⟩), [(.t 7)]⟩, ⟨(some 24), (.v (.ia 8 (.t 22) (.t 23))), (some ⟨21, false⟩), [(.t 22), (.t 23)]⟩, ⟨(some 25), (.v (.fa 1 (.t 24))), (some ⟨21, false⟩), [(.t 24)]⟩, ⟨(some 26), (.v (.ld (.t 25))), (some ⟨21, false⟩), [(.t 25)]⟩, ⟨(some 27), (.v (.bin .gtr (.t 26) (.k (.c (.int .i64 1000000))))), (some ⟨21, false⟩), [(.t 26), (.k (.c (.int .i64 1000000)))]⟩, ⟨(some 28), (.v (.pick (.t 21) (.k (.c (.bool true))) (.t 27))), none, []⟩, ⟨(some 29), (.v (.mv (.t 28))), none, []⟩, ⟨(some 30), (.v (.mv (.t 6))), (some ⟨29, false⟩), [(.t 6)]⟩, ⟨(some 31), (.v (.mv (.t 7))), (some ⟨29, false⟩), [(.t 7)]⟩, ⟨(some 32), (.v (.ia 8 (.t 30) (.t 31))), (some ⟨29, false⟩), [(.t 30), (.t 31)]⟩, ⟨(some 33), (.v (.fa 3 (.t 32))), (some ⟨29, false⟩), [(.t 32)]⟩, ⟨(some 34), (.v (.ld (.t 33))), (some ⟨29, false⟩), [(.t 33)]⟩, ⟨(some 35), (.v (.bin .lss (.t 34) (.k (.c (.int .i64 0))))), (some ⟨29, false⟩), [(.t 34), (.k (.c (.int .i64 0)))]⟩, ⟨(some 36), (.v (.pick (.t 29) (.k (.c (.bool true))) (.t 35))), none, []⟩, ⟨(some 37), (.v (.mv (.t 36))), none, []⟩, ⟨(some 38), (.v (.mv (.t 6))), (some ⟨37, false⟩), [(.t 6)]⟩, ⟨(some 39), (.v (.mv (.t 7))), (some ⟨37, false⟩), [(.t 7)]⟩, ⟨(some 40), (.v (.ia 8 (.t 38) (.t 39))), (some ⟨37, false⟩), [(.t 38), (.t 39)]⟩, ⟨(some 41), (.v (.fa 3 (.t 40))), (some ⟨37, false⟩), [(.t 40)]⟩, ⟨(some 42), (.v (.ld (.t 41))), (some ⟨37, false⟩), [(.t 41)]⟩, ⟨(some 43), (.v (.bin .gtr (.t 42) (.k (.c (.int .i64 2000))))), (some ⟨37, false⟩), [(.t 42), (.k (.c (.int .i64 2000)))]⟩, ⟨(some 44), (.v (.pick (.t 37) (.k (.c (.bool true))) (.t 43))), none, []⟩]) (.cond (.t 44) (.seq (.ops 0 [⟨(some 45), (.v (.build [(.c (.int .i64 0)), (.c (.int .i64 0))] [])), none, []⟩, ⟨none, (.v (.st 2 (.t 4) (.t 45))), none, []⟩, ⟨(some 5), (.v (.mv (.k (.c (.int .i64 1))))), none, []⟩]) .ret) .skip))) (.ops 0 [⟨(some 13), (.v (.mv (.t 7))), none, []⟩, ⟨(some 14), (.v (.bin .add (.t 13) (.k (.c (.int .i64 1))))), none, []⟩, ⟨(some 7), (.v (.mv (.t 14))), none, []⟩])))))) (.seq (.any 0 [⟨0, ⟨[], ⟨(some 46), (.v (.fa 1 (.t 2))), none, []⟩⟩⟩, ⟨1, ⟨[0], ⟨(some 47), (.v (.ld (.t 46))), none, []⟩⟩⟩, ⟨2, ⟨[], ⟨(some 48), (.v (.fa 1 (.t 3))), none, []⟩⟩⟩, ⟨3, ⟨[2], ⟨(some 49), (.v (.ld (.t 48))), none, []⟩⟩⟩, ⟨4, ⟨[1, 0, 3, 2], ⟨(some 50), (.v (.det 37 [⟨false, [(.int .u64)]⟩] [(.t 47), (.t 49)])), none, []⟩⟩⟩, ⟨5, ⟨[4, 1, 0, 3, 2], ⟨(some 51), (.v (.cv .i64 (.t 50))), none, []⟩⟩⟩, ⟨6, ⟨[], ⟨(some 52), (.v (.fa 3 (.t 2))), none, []⟩⟩⟩, ⟨7, ⟨[6], ⟨(some 53), (.v (.ld (.t 52))), none, []⟩⟩⟩, ⟨8, ⟨[], ⟨(some 54), (.v (.fa 3 (.t 3))), none, []⟩⟩⟩, ⟨9, ⟨[8], ⟨(some 55), (.v (.ld (.t 54))), none, []⟩⟩⟩, ⟨10, ⟨[7, 6, 9, 8, 4, 1, 0, 3, 2], ⟨(some 56), (.v (.det 37 [⟨false, [(.int .u64)]⟩] [(.t 53), (.t 55)])), none, []⟩⟩⟩, ⟨11, ⟨[10, 7, 6, 9, 8, 4, 1, 0, 3, 2], ⟨(some 57), (.v (.cv .i64 (.t 56))), none, []⟩⟩⟩, ⟨12, ⟨[5, 11, 10, 7, 6, 9, 8, 4, 1, 0, 3, 2], ⟨(some 58), (.v (.build [(.c (.int .i64 0)), (.c (.int .i64 0))] [⟨0, ⟨1, (.t 51)⟩⟩, ⟨1, ⟨1, (.t 57)⟩⟩])), none, []⟩⟩⟩, ⟨13, ⟨[12, 5, 11, 10, 7, 6, 9, 8, 4, 1, 0, 3, 2], ⟨none, (.v (.st 2 (.t 4) (.t 58))), none, []⟩⟩⟩, ⟨14, ⟨[13, 12, 5, 11, 10, 7, 6, 9, 8, 4, 1, 0, 3, 2], ⟨(some 5), (.v (.mv (.k (.c (.int .i64 0))))), none, []⟩⟩⟩]) .ret)))), 59, [(.la 4 2), (.t 5)]⟩
theorem h21 : fnR Try.prog DD 21 = some rf21 := by kernel_rfl
/-- papermill papermilllaw31.GradeMeets -/
def rf5 : RFn := ⟨(.seq (.ops 3 [⟨(some 3), (.v (.box 0 33 (.t 0))), none, []⟩, ⟨(some 4), (.v (.box 1 33 (.t 1))), none, []⟩, ⟨(some 5), (.v (.box 2 35 (.t 2))), none, []⟩, ⟨(some 6), (.v (.mv (.k (.c (.bool false))))), none, []⟩]) (.seq (.any 0 [⟨0, ⟨[], ⟨(some 7), (.v (.lda 8 (.t 3))), none, []⟩⟩⟩, ⟨1, ⟨[], ⟨(some 8), (.v (.lda 2 (.t 5))), none, []⟩⟩⟩, ⟨2, ⟨[0, 1], ⟨(some 9), (.v (.det 16 [⟨false, [.bool]⟩] [(.t 7), (.t 8)])), none, []⟩⟩⟩, ⟨3, ⟨[], ⟨(some 10), (.v (.lda 8 (.t 3))), none, []⟩⟩⟩, ⟨4, ⟨[], ⟨(some 11), (.v (.lda 2 (.t 5))), none, []⟩⟩⟩, ⟨5, ⟨[3, 4, 2, 0, 1], ⟨(some 12), (.v (.det 17 [⟨false, [.bool]⟩] [(.t 10), (.t 11)])), none, []⟩⟩⟩, ⟨6, ⟨[5, 3, 4, 2, 0, 1], ⟨(some 13), (.v (.eqb false (.t 9) (.t 12))), none, []⟩⟩⟩, ⟨7, ⟨[6, 5, 3, 4, 2, 0, 1], ⟨(some 14), (.v (.mv (.t 13))), none, []⟩⟩⟩, ⟨8, ⟨[7, 6, 5, 3, 4, 2, 0, 1], ⟨(some 15), (.v (.lda 8 (.t 3))), (some ⟨14, true⟩), [(.t 3)]⟩⟩⟩, ⟨9, ⟨[7, 6, 5, 3, 4, 2, 0, 1], ⟨(some 16), (.v (.lda 8 (.t 4))), (some ⟨14, true⟩), [(.t 4)]⟩⟩⟩, ⟨10, ⟨[8, 9, 7, 6, 5, 3, 4, 2, 0, 1], ⟨(some 17), (.v (.det 18 [⟨false, [.bool]⟩] [(.t 15), (.t 16)])), (some ⟨14, true⟩), [(.k (.fn 18 [])), (.t 15), (.t 16)]⟩⟩⟩, ⟨11, ⟨[7, 6, 5, 3, 4, 2, 0, 1], ⟨(some 18), (.v (.lda 8 (.t 3))), (some ⟨14, true⟩), [(.t 3)]⟩⟩⟩, ⟨12, ⟨[7, 6, 5, 3, 4, 2, 0, 1], ⟨(some 19), (.v (.lda 8 (.t 4))), (some ⟨14, true⟩), [(.t 4)]⟩⟩⟩, ⟨13, ⟨[11, 12, 10, 8, 9, 7, 6, 5, 3, 4, 2, 0, 1], ⟨(some 20), (.v (.det 19 [⟨false, [.bool]⟩] [(.t 18), (.t 19)])), (some ⟨14, true⟩), [(.k (.fn 19 [])), (.t 18), (.t 19)]⟩⟩⟩, ⟨14, ⟨[13, 11, 12, 10, 8, 9, 7, 6, 5, 3, 4, 2, 0, 1], ⟨(some 21), (.v (.eqb false (.t 17) (.t 20))), (some ⟨14, true⟩), [(.t 17), (.t 20)]⟩⟩⟩, ⟨15, ⟨[14, 13, 11, 12, 10, 8, 9, 7, 6, 5, 3, 4, 2, 0, 1], ⟨(some 22), (.v (.pick (.t 14) (.t 21) (.k (.c (.bool false))))), none, []⟩⟩⟩, ⟨16, ⟨[15, 14, 13, 11, 12, 10, 8, 9, 7, 6, 5, 3, 4, 2, 0, 1], ⟨(some 23), (.v (.mv (.t 22))), none, []⟩⟩⟩, ⟨17, ⟨[16, 15, 14, 13, 11, 12, 10, 8, 9, 7, 6, 5, 3, 4, 2, 0, 1], ⟨(some 24), (.v (.det 11 [⟨false, [.bool]⟩] [])), (some ⟨23, true⟩), [(.k (.fn 11 []))]⟩⟩⟩, ⟨18, ⟨[17, 16, 15, 14, 13, 11, 12, 10, 8, 9, 7, 6, 5, 3, 4, 2, 0, 1], ⟨(some 25), (.v (.pick (.t 23) (.t 24) (.k (.c (.bool false))))), none, []⟩⟩⟩, ⟨19, ⟨[18, 17, 16, 15, 14, 13, 11, 12, 10, 8, 9, 7, 6, 5, 3, 4, 2, 0, 1], ⟨(some 6), (.v (.mv (.t 25))), none, []⟩⟩⟩]) .ret)), 26, [(.t 6)]⟩
theorem h5 : fnR Try.prog DD 5 = some rf5 := by kernel_rfl
/-- papermill papermilllaw31.GradeSteps -/
def rf6 : RFn := ⟨(.seq (.ops 2 [⟨(some 2), (.v (.box 0 33 (.t 0))), none, []⟩, ⟨(some 3), (.v (.box 1 33 (.t 1))), none, []⟩, ⟨(some 4), (.v (.mv (.k (.c (.bool false))))), none, []⟩]) (.seq (.ops 1 [⟨(some 10), (.v (.lda 8 (.t 2))), none, []⟩, ⟨(some 11), (.v (.lda 8 (.t 3))), none, []⟩, ⟨(some 12), (.v (.det 20 [⟨true, [(.int .i64), (.int .i64)]⟩, ⟨false, [(.int .i64)]⟩] [(.t 10), (.t 11)])), none, []⟩, ⟨(some 9), (.v (.mv (.t 12))), none, []⟩, ⟨(some 13), (.v (.ext (.t 9) 0)), none, []⟩, ⟨(some 14), (.v (.ext (.t 9) 1)), none, []⟩, ⟨(some 5), (.v (.alloc 0 35 [(.c (.int .i64 0)), (.c (.int .i64 0))])), none, []⟩, ⟨none, (.v (.st 2 (.t 5) (.t 13))), none, []⟩, ⟨(some 6), (.v (.mv (.t 14))), none, []⟩]) (.seq (.ops 1 [⟨(some 16), (.v (.lda 8 (.t 2))), none, []⟩, ⟨(some 17), (.v (.lda 8 (.t 3))), none, []⟩, ⟨(some 18), (.v (.det 21 [⟨true, [(.int .i64), (.int .i64)]⟩, ⟨false, [(.int .i64)]⟩] [(.t 16), (.t 17)])), none, []⟩, ⟨(some 15), (.v (.mv (.t 18))), none, []⟩, ⟨(some 19), (.v (.ext (.t 15) 0)), none, []⟩, ⟨(some 20), (.v (.ext (.t 15) 1)), none, []⟩, ⟨(some 7), (.v (.alloc 0 35 [(.c (.int .i64 0)), (.c (.int .i64 0))])), none, []⟩, ⟨none, (.v (.st 2 (.t 7) (.t 19))), none, []⟩, ⟨(some 8), (.v (.mv (.t 20))), none, []⟩]) (.seq (.ops 0 [⟨(some 21), (.v (.lda 2 (.t 5))), none, []⟩, ⟨(some 22), (.v (.lda 2 (.t 7))), none, []⟩, ⟨(some 23), (.v (.eqs [(.int .i64), (.int .i64)] false (.t 21) (.t 22))), none, []⟩, ⟨(some 24), (.v (.mv (.t 23))), none, []⟩, ⟨(some 25), (.v (.mv (.t 6))), (some ⟨24, true⟩), [(.t 6)]⟩, ⟨(some 26), (.v (.mv (.t 8))), (some ⟨24, true⟩), [(.t 8)]⟩, ⟨(some 27), (.v (.bin .eql (.t 25) (.t 26))), (some ⟨24, true⟩), [(.t 25), (.t 26)]⟩, ⟨(some 28), (.v (.pick (.t 24) (.t 27) (.k (.c (.bool false))))), none, []⟩, ⟨(some 29), (.v (.mv (.t 28))), none, []⟩, ⟨(some 30), (.v (.det 11 [⟨false, [.bool]⟩] [])), (some ⟨29, true⟩), [(.k (.fn 11 []))]⟩, ⟨(some 31), (.v (.pick (.t 29) (.t 30) (.k (.c (.bool false))))), none, []⟩, ⟨(some 4), (.v (.mv (.t 31))), none, []⟩]) .ret)))), 32, [(.t 4)]⟩
theorem h6 : fnR Try.prog DD 6 = some rf6 := by kernel_rfl
/-- papermill papermilllaw31.GradeShares -/
def rf9 : RFn := ⟨(.seq (.ops 3 [⟨(some 3), (.v (.box 0 33 (.t 0))), none, []⟩, ⟨(some 4), (.v (.box 1 33 (.t 1))), none, []⟩, ⟨(some 5), (.v (.box 2 35 (.t 2))), none, []⟩, ⟨(some 6), (.v (.mv (.k (.c (.bool false))))), none, []⟩]) (.seq (.ops 0 [⟨(some 8), (.v (.lda 8 (.t 3))), none, []⟩, ⟨(some 9), (.v (.fa 1 (.t 3))), none, []⟩, ⟨(some 10), (.v (.ld (.t 9))), none, []⟩, ⟨(some 11), (.v (.fa 3 (.t 3))), none, []⟩, ⟨(some 12), (.v (.ld (.t 11))), none, []⟩, ⟨(some 13), (.v (.build [(.c (.int .i64 0)), (.c (.int .i64 0))] [⟨0, ⟨1, (.t 10)⟩⟩, ⟨1, ⟨1, (.t 12)⟩⟩])), none, []⟩, ⟨(some 14), (.v (.det 16 [⟨false, [.bool]⟩] [(.t 8), (.t 13)])), none, []⟩, ⟨(some 7), (.v (.mv (.t 14))), none, []⟩]) (.seq (.seq (.any 0 [⟨0, ⟨[], ⟨(some 15), (.v (.mv (.t 7))), none, []⟩⟩⟩, ⟨1, ⟨[], ⟨(some 16), (.v (.fa 2 (.t 3))), none, []⟩⟩⟩, ⟨2, ⟨[1], ⟨(some 17), (.v (.ld (.t 16))), none, []⟩⟩⟩, ⟨3, ⟨[2, 1], ⟨(some 18), (.v (.bin .geq (.t 17) (.k (.c (.int .i64 0))))), none, []⟩⟩⟩, ⟨4, ⟨[3, 2, 1], ⟨(some 19), (.v (.mv (.t 18))), none, []⟩⟩⟩, ⟨5, ⟨[4, 3, 2, 1], ⟨(some 20), (.v (.fa 4 (.t 3))), (some ⟨19, true⟩), [(.t 3)]⟩⟩⟩, ⟨6, ⟨[5, 4, 3, 2, 1], ⟨(some 21), (.v (.ld (.t 20))), (some ⟨19, true⟩), [(.t 20)]⟩⟩⟩, ⟨7, ⟨[6, 5, 4, 3, 2, 1], ⟨(some 22), (.v (.bin .geq (.t 21) (.k (.c (.int .i64 0))))), (some ⟨19, true⟩), [(.t 21), (.k (.c (.int .i64 0)))]⟩⟩⟩, ⟨8, ⟨[7, 6, 5, 4, 3, 2, 1], ⟨(some 23), (.v (.pick (.t 19) (.t 22) (.k (.c (.bool false))))), none, []⟩⟩⟩, ⟨9, ⟨[0, 8, 7, 6, 5, 4, 3, 2, 1], ⟨(some 24), (.v (.eqb true (.t 15) (.t 23))), none, []⟩⟩⟩, ⟨10, ⟨[9, 0, 8, 7, 6, 5, 4, 3, 2, 1], ⟨(some 25), (.v (.mv (.t 24))), none, []⟩⟩⟩, ⟨11, ⟨[10, 9, 0, 8, 7, 6, 5, 4, 3, 2, 1], ⟨(some 26), (.v (.lda 8 (.t 3))), (some ⟨25, false⟩), [(.t 3)]⟩⟩⟩, ⟨12, ⟨[10, 9, 0, 8, 7, 6, 5, 4, 3, 2, 1], ⟨(some 27), (.v (.lda 8 (.t 4))), (some ⟨25, false⟩), [(.t 4)]⟩⟩⟩, ⟨13, ⟨[11, 12, 10, 9, 0, 8, 7, 6, 5, 4, 3, 2, 1], ⟨(some 28), (.v (.det 18 [⟨false, [.bool]⟩] [(.t 26), (.t 27)])), (some ⟨25, false⟩), [(.k (.fn 18 [])), (.t 26), (.t 27)]⟩⟩⟩, ⟨14, ⟨[10, 9, 0, 8, 7, 6, 5, 4, 3, 2, 1], ⟨(some 29), (.v (.lda 8 (.t 4))), (some ⟨25, false⟩), [(.t 4)]⟩⟩⟩, ⟨15, ⟨[10, 9, 0, 8, 7, 6, 5, 4, 3, 2, 1], ⟨(some 30), (.v (.lda 8 (.t 3))), (some ⟨25, false⟩), [(.t 3)]⟩⟩⟩, ⟨16, ⟨[14, 15, 13, 11, 12, 10, 9, 0, 8, 7, 6, 5, 4, 3, 2, 1], ⟨(some 31), (.v (.det 18 [⟨false, [.bool]⟩] [(.t 29), (.t 30)])), (some ⟨25, false⟩), [(.k (.fn 18 [])), (.t 29), (.t 30)]⟩⟩⟩, ⟨17, ⟨[16, 14, 15, 13, 11, 12, 10, 9, 0, 8, 7, 6, 5, 4, 3, 2, 1], ⟨(some 32), (.v (.eqb true (.t 28) (.t 31))), (some ⟨25, false⟩), [(.t 28), (.t 31)]⟩⟩⟩, ⟨18, ⟨[17, 16, 14, 15, 13, 11, 12, 10, 9, 0, 8, 7, 6, 5, 4, 3, 2, 1], ⟨(some 33), (.v (.pick (.t 25) (.k (.c (.bool true))) (.t 32))), none, []⟩⟩⟩, ⟨19, ⟨[18, 17, 16, 14, 15, 13, 11, 12, 10, 9, 0, 8, 7, 6, 5, 4, 3, 2, 1], ⟨(some 34), (.v (.mv (.t 33))), none, []⟩⟩⟩, ⟨20, ⟨[19, 18, 17, 16, 14, 15, 13, 11, 12, 10, 9, 0, 8, 7, 6, 5, 4, 3, 2, 1], ⟨(some 35), (.v (.lda 8 (.t 3))), (some ⟨34, false⟩), [(.t 3)]⟩⟩⟩, ⟨21, ⟨[19, 18, 17, 16, 14, 15, 13, 11, 12, 10, 9, 0, 8, 7, 6, 5, 4, 3, 2, 1], ⟨(some 36), (.v (.lda 8 (.t 3))), (some ⟨34, false⟩), [(.t 3)]⟩⟩⟩, ⟨22, ⟨[20, 21, 19, 18, 17, 16, 14, 15, 13, 11, 12, 10, 9, 0, 8, 7, 6, 5, 4, 3, 2, 1], ⟨(some 37), (.v (.det 18 [⟨false, [.bool]⟩] [(.t 35), (.t 36)])), (some ⟨34, false⟩), [(.k (.fn 18 [])), (.t 35), (.t 36)]⟩⟩⟩, ⟨23, ⟨[19, 18, 17, 16, 14, 15, 13, 11, 12, 10, 9, 0, 8, 7, 6, 5, 4, 3, 2, 1], ⟨(some 38), (.v (.mv (.t 7))), (some ⟨34, false⟩), [(.t 7)]⟩⟩⟩, ⟨24, ⟨[22, 20, 21, 23, 19, 18, 17, 16, 14, 15, 13, 11, 12, 10, 9, 0, 8, 7, 6, 5, 4, 3, 2, 1], ⟨(some 39), (.v (.eqb true (.t 37) (.t 38))), (some ⟨34, false⟩), [(.t 37), (.t 38)]⟩⟩⟩, ⟨25, ⟨[24, 22, 20, 21, 23, 19, 18, 17, 16, 14, 15, 13, 11, 12, 10, 9, 0, 8, 7, 6, 5, 4, 3, 2, 1], ⟨(some 40), (.v (.pick (.t 34) (.k (.c (.bool true))) (.t 39))), none, []⟩⟩⟩]) (.cond (.t 40) (.seq (.ops 0 [⟨(some 6), (.v (.mv (.k (.c (.bool false))))), none, []⟩]) .ret) .skip)) (.seq (.ops 0 [⟨(some 41), (.v (.lda 8 (.t 3))), none, []⟩, ⟨(some 42), (.v (.lda 2 (.t 5))), none, []⟩, ⟨(some 43), (.v (.det 16 [⟨false, [.bool]⟩] [(.t 41), (.t 42)])), none, []⟩, ⟨(some 44), (.v (.un .not (.t 43))), none, []⟩, ⟨(some 45), (.v (.mv (.t 44))), none, []⟩, ⟨(some 46), (.v (.lda 8 (.t 4))), (some ⟨45, false⟩), [(.t 4)]⟩, ⟨(some 47), (.v (.lda 2 (.t 5))), (some ⟨45, false⟩), [(.t 5)]⟩, ⟨(some 48), (.v (.det 16 [⟨false, [.bool]⟩] [(.t 46), (.t 47)])), (some ⟨45, false⟩), [(.k (.fn 16 [])), (.t 46), (.t 47)]⟩, ⟨(some 49), (.v (.un .not (.t 48))), (some ⟨45, false⟩), [(.t 48)]⟩, ⟨(some 50), (.v (.pick (.t 45) (.k (.c (.bool true))) (.t 49))), none, []⟩, ⟨(some 51), (.v (.mv (.t 50))), none, []⟩, ⟨(some 52), (.v (.lda 8 (.t 3))), (some ⟨51, false⟩), [(.t 3)]⟩, ⟨(some 53), (.v (.lda 8 (.t 4))), (some ⟨51, false⟩), [(.t 4)]⟩, ⟨(some 54), (.v (.det 18 [⟨false, [.bool]⟩] [(.t 52), (.t 53)])), (some ⟨51, false⟩), [(.k (.fn 18 [])), (.t 52), (.t 53)]⟩, ⟨(some 55), (.v (.pick (.t 51) (.k (.c (.bool true))) (.t 54))), none, []⟩, ⟨(some 56), (.v (.mv (.t 55))), none, []⟩, ⟨(some 57), (.v (.det 11 [⟨false, [.bool]⟩] [])), (some ⟨56, true⟩), [(.k (.fn 11 []))]⟩, ⟨(some 58), (.v (.pick (.t 56) (.t 57) (.k (.c (.bool false))))), none, []⟩, ⟨(some 6), (.v (.mv (.t 58))), none, []⟩]) .ret)))), 59, [(.t 6)]⟩
theorem h9 : fnR Try.prog DD 9 = some rf9 := by kernel_rfl
def vc29 (E : Env) (x1 : Int) (x2 : Int) (x3 : Int) (Q : List C → Prop) : Prop :=
  Q [.bool (E.bite (E.le x2 x1) (E.le x1 x3) false)]
theorem w29 {P : Program} {tbl : FuncId → List A → List C}  {x1 : Int} {x2 : Int} {x3 : Int} {row : List C} (h : vc29 (stdE P tbl) x1 x2 x3 fun c => c = row) : WPg P tbl rf29 [(false, [.bool])] row [.c (.int .i64 x1), .c (.int .i64 x2), .c (.int .i64 x3)] := by
  refine ⟨?_⟩
  revert h
  generalize hE : stdE P tbl = E
  intro h
  unfold vc29 at h
  cbv
  refine ⟨⟨fun hh => hh⟩, ?_⟩
  refine ⟨⟨fun hh => hh⟩, ?_⟩
  refine ⟨⟨fun hh => hh⟩, ?_⟩
  have h : _ = row := h
  subst h
  repeat' (first | exact trivial | exact rfl | refine And.intro ?_ ?_)
def vc34 (E : Env) (x1 : Int) (x2 : Int) (Q : List C → Prop) : Prop :=
  Br (E.lt x1 x2)
  (Q [.int .u64 (E.sub .u64 (E.wrap .u64 x2) (E.wrap .u64 x1))])
  (Q [.int .u64 (E.sub .u64 (E.wrap .u64 x1) (E.wrap .u64 x2))])
theorem w34 {P : Program} {tbl : FuncId → List A → List C}  {x1 : Int} {x2 : Int} {row : List C} (h : vc34 (stdE P tbl) x1 x2 fun c => c = row) : WPg P tbl rf34 [(false, [.int .u64])] row [.c (.int .i64 x1), .c (.int .i64 x2)] := by
  refine ⟨?_⟩
  revert h
  generalize hE : stdE P tbl = E
  intro h
  unfold vc34 at h
  cbv
  refine ⟨fun hb3 => ?_, fun hb3 => ?_⟩
  · replace h := h.t hb3
    have h : _ = row := h
    subst h
    repeat' (first | exact trivial | exact rfl | refine And.intro ?_ ?_)
  · replace h := h.f hb3
    have h : _ = row := h
    subst h
    repeat' (first | exact trivial | exact rfl | refine And.intro ?_ ?_)
def vc16 (E : Env) (x1 : ByteArray) (x2 : Int) (x3 : Int) (x4 : Int) (x5 : Int) (x6 : Int) (x7 : List (List C)) (x8 : Int) (x9 : Int) (x10 : Int) (Q : List C → Prop) : Prop :=
  Br (E.bite (E.lt x3 0) true (E.lt x5 0))
  (Q [.bool false])
  ((E.pok 34 [(false, [.int .u64])] [.c (.int .i64 x2), .c (.int .i64 x9)]) ∧ (∀ r11 : Nat → C, r11 = E.res 34 [.c (.int .i64 x2), .c (.int .i64 x9)] → 
    ((Imp (E.le (E.gi (r11 0)) (E.wrap .u64 x3)) (E.pok 34 [(false, [.int .u64])] [.c (.int .i64 x4), .c (.int .i64 x10)])) ∧ (∀ r12 : Nat → C, r12 = E.res 34 [.c (.int .i64 x4), .c (.int .i64 x10)] → 
    (Q [.bool (E.bite (E.le (E.gi (r11 0)) (E.wrap .u64 x3)) (E.le (E.gi (r12 0)) (E.wrap .u64 x5)) false)])))))
theorem w16 {P : Program} {tbl : FuncId → List A → List C}  {x1 : ByteArray} {x2 : Int} {x3 : Int} {x4 : Int} {x5 : Int} {x6 : Int} {x7 : List (List C)} {x8 : Int} {x9 : Int} {x10 : Int} {row : List C} (h : vc16 (stdE P tbl) x1 x2 x3 x4 x5 x6 x7 x8 x9 x10 fun c => c = row) : WPg P tbl rf16 [(false, [.bool])] row [.agg [.c (.str x1), .c (.int .i64 x2), .c (.int .i64 x3), .c (.int .i64 x4), .c (.int .i64 x5), .c (.int .i64 x6), .c (.sl [.int .i64] x7), .c (.int .i64 x8)], .agg [.c (.int .i64 x9), .c (.int .i64 x10)]] := by
  refine ⟨?_⟩
  revert h
  generalize hE : stdE P tbl = E
  intro h
  unfold vc16 at h
  cbv
  refine ⟨⟨fun hh => hh⟩, ?_⟩
  refine ⟨⟨fun hh => hh⟩, ?_⟩
  refine ⟨⟨fun hh => hh⟩, ?_⟩
  refine ⟨fun hb13 => ?_, fun hb13 => ?_⟩
  · replace h := h.t hb13
    have h : _ = row := h
    subst h
    repeat' (first | exact trivial | exact rfl | refine And.intro ?_ ?_)
  · replace h := h.f hb13
    have c14 := h.1
    refine ⟨c14, ?_⟩
    replace h := h.2 _ rfl
    refine ⟨⟨fun hh => hh⟩, ?_⟩
    refine ⟨⟨fun hh => hh⟩, ?_⟩
    refine ⟨⟨fun hh => hh⟩, ?_⟩
    refine ⟨⟨fun hh => hh⟩, ?_⟩
    have c15 := h.1
    refine ⟨c15, ?_⟩
    replace h := h.2 _ rfl
    refine ⟨⟨fun hh => hh⟩, ?_⟩
    refine ⟨⟨fun hh => hh⟩, ?_⟩
    refine ⟨⟨fun hh => hh⟩, ?_⟩
    refine ⟨⟨fun hh => hh⟩, ?_⟩
    refine ⟨⟨fun hh => hh⟩, ?_⟩
    have h : _ = row := h
    subst h
    repeat' (first | exact trivial | exact rfl | refine And.intro ?_ ?_)
def vc17 (E : Env) (x1 : ByteArray) (x2 : Int) (x3 : Int) (x4 : Int) (x5 : Int) (x6 : Int) (x7 : List (List C)) (x8 : Int) (x9 : Int) (x10 : Int) (Q : List C → Prop) : Prop :=
  (E.pok 35 [(false, [.bool])] [.c (.int .i64 x2), .c (.int .i64 x9), .c (.int .i64 x3)]) ∧ (∀ r11 : Nat → C, r11 = E.res 35 [.c (.int .i64 x2), .c (.int .i64 x9), .c (.int .i64 x3)] → 
  ((Imp (E.gb (r11 0)) (E.pok 35 [(false, [.bool])] [.c (.int .i64 x4), .c (.int .i64 x10), .c (.int .i64 x5)])) ∧ (∀ r12 : Nat → C, r12 = E.res 35 [.c (.int .i64 x4), .c (.int .i64 x10), .c (.int .i64 x5)] → 
  (Q [.bool (E.bite (E.gb (r11 0)) (E.gb (r12 0)) false)]))))
theorem w17 {P : Program} {tbl : FuncId → List A → List C}  {x1 : ByteArray} {x2 : Int} {x3 : Int} {x4 : Int} {x5 : Int} {x6 : Int} {x7 : List (List C)} {x8 : Int} {x9 : Int} {x10 : Int} {row : List C} (h : vc17 (stdE P tbl) x1 x2 x3 x4 x5 x6 x7 x8 x9 x10 fun c => c = row) : WPg P tbl rf17 [(false, [.bool])] row [.agg [.c (.str x1), .c (.int .i64 x2), .c (.int .i64 x3), .c (.int .i64 x4), .c (.int .i64 x5), .c (.int .i64 x6), .c (.sl [.int .i64] x7), .c (.int .i64 x8)], .agg [.c (.int .i64 x9), .c (.int .i64 x10)]] := by
  refine ⟨?_⟩
  revert h
  generalize hE : stdE P tbl = E
  intro h
  unfold vc17 at h
  cbv
  have c13 := h.1
  refine ⟨c13, ?_⟩
  replace h := h.2 _ rfl
  refine ⟨⟨fun hh => hh⟩, ?_⟩
  refine ⟨⟨fun hh => hh⟩, ?_⟩
  refine ⟨⟨fun hh => hh⟩, ?_⟩
  refine ⟨⟨fun hh => hh⟩, ?_⟩
  refine ⟨⟨fun hh => hh⟩, ?_⟩
  refine ⟨⟨fun hh => hh⟩, ?_⟩
  have c14 := h.1
  refine ⟨c14, ?_⟩
  replace h := h.2 _ rfl
  refine ⟨⟨fun hh => hh⟩, ?_⟩
  have h : _ = row := h
  subst h
  repeat' (first | exact trivial | exact rfl | refine And.intro ?_ ?_)
def vc35 (E : Env) (x1 : Int) (x2 : Int) (x3 : Int) (Q : List C → Prop) : Prop :=
  (Imp (E.le 0 x3) (E.pok 37 [(false, [.int .u64])] [.c (.int .i64 x1), .c (.int .i64 x2)])) ∧ (∀ r4 : Nat → C, r4 = E.res 37 [.c (.int .i64 x1), .c (.int .i64 x2)] → 
  (Q [.bool (E.bite (E.le 0 x3) (E.le (E.gi (r4 0)) (E.wrap .u64 x3)) false)]))
theorem w35 {P : Program} {tbl : FuncId → List A → List C}  {x1 : Int} {x2 : Int} {x3 : Int} {row : List C} (h : vc35 (stdE P tbl) x1 x2 x3 fun c => c = row) : WPg P tbl rf35 [(false, [.bool])] row [.c (.int .i64 x1), .c (.int .i64 x2), .c (.int .i64 x3)] := by
  refine ⟨?_⟩
  revert h
  generalize hE : stdE P tbl = E
  intro h
  unfold vc35 at h
  cbv
  refine ⟨⟨fun hh => hh⟩, ?_⟩
  refine ⟨⟨fun hh => hh⟩, ?_⟩
  have c5 := h.1
  refine ⟨c5, ?_⟩
  replace h := h.2 _ rfl
  refine ⟨⟨fun hh => hh⟩, ?_⟩
  refine ⟨⟨fun hh => hh⟩, ?_⟩
  refine ⟨⟨fun hh => hh⟩, ?_⟩
  refine ⟨⟨fun hh => hh⟩, ?_⟩
  have h : _ = row := h
  subst h
  repeat' (first | exact trivial | exact rfl | refine And.intro ?_ ?_)
def vc37 (E : Env) (x1 : Int) (x2 : Int) (Q : List C → Prop) : Prop :=
  Br (E.lt x1 x2)
  (Q [.int .u64 (E.sub .u64 (E.wrap .u64 x2) (E.wrap .u64 x1))])
  (Q [.int .u64 (E.sub .u64 (E.wrap .u64 x1) (E.wrap .u64 x2))])
theorem w37 {P : Program} {tbl : FuncId → List A → List C}  {x1 : Int} {x2 : Int} {row : List C} (h : vc37 (stdE P tbl) x1 x2 fun c => c = row) : WPg P tbl rf37 [(false, [.int .u64])] row [.c (.int .i64 x1), .c (.int .i64 x2)] := by
  refine ⟨?_⟩
  revert h
  generalize hE : stdE P tbl = E
  intro h
  unfold vc37 at h
  cbv
  refine ⟨fun hb3 => ?_, fun hb3 => ?_⟩
  · replace h := h.t hb3
    have h : _ = row := h
    subst h
    repeat' (first | exact trivial | exact rfl | refine And.intro ?_ ?_)
  · replace h := h.f hb3
    have h : _ = row := h
    subst h
    repeat' (first | exact trivial | exact rfl | refine And.intro ?_ ?_)
def vc18 (E : Env) (x1 : ByteArray) (x2 : Int) (x3 : Int) (x4 : Int) (x5 : Int) (x6 : Int) (x7 : List (List C)) (x8 : Int) (x9 : ByteArray) (x10 : Int) (x11 : Int) (x12 : Int) (x13 : Int) (x14 : Int) (x15 : List (List C)) (x16 : Int) (Q : List C → Prop) : Prop :=
  Br (E.bite (E.bite (E.bite (E.lt x3 0) true (E.lt x5 0)) true (E.lt x11 0)) true (E.lt x13 0))
  (Q [.bool false])
  ((E.pok 34 [(false, [.int .u64])] [.c (.int .i64 x2), .c (.int .i64 x10)]) ∧ (∀ r17 : Nat → C, r17 = E.res 34 [.c (.int .i64 x2), .c (.int .i64 x10)] → 
    ((Imp (E.le (E.gi (r17 0)) (E.add .u64 (E.wrap .u64 x3) (E.wrap .u64 x11))) (E.pok 34 [(false, [.int .u64])] [.c (.int .i64 x4), .c (.int .i64 x12)])) ∧ (∀ r18 : Nat → C, r18 = E.res 34 [.c (.int .i64 x4), .c (.int .i64 x12)] → 
    (Q [.bool (E.bite (E.le (E.gi (r17 0)) (E.add .u64 (E.wrap .u64 x3) (E.wrap .u64 x11))) (E.le (E.gi (r18 0)) (E.add .u64 (E.wrap .u64 x5) (E.wrap .u64 x13))) false)])))))
theorem w18 {P : Program} {tbl : FuncId → List A → List C}  {x1 : ByteArray} {x2 : Int} {x3 : Int} {x4 : Int} {x5 : Int} {x6 : Int} {x7 : List (List C)} {x8 : Int} {x9 : ByteArray} {x10 : Int} {x11 : Int} {x12 : Int} {x13 : Int} {x14 : Int} {x15 : List (List C)} {x16 : Int} {row : List C} (h : vc18 (stdE P tbl) x1 x2 x3 x4 x5 x6 x7 x8 x9 x10 x11 x12 x13 x14 x15 x16 fun c => c = row) : WPg P tbl rf18 [(false, [.bool])] row [.agg [.c (.str x1), .c (.int .i64 x2), .c (.int .i64 x3), .c (.int .i64 x4), .c (.int .i64 x5), .c (.int .i64 x6), .c (.sl [.int .i64] x7), .c (.int .i64 x8)], .agg [.c (.str x9), .c (.int .i64 x10), .c (.int .i64 x11), .c (.int .i64 x12), .c (.int .i64 x13), .c (.int .i64 x14), .c (.sl [.int .i64] x15), .c (.int .i64 x16)]] := by
  refine ⟨?_⟩
  revert h
  generalize hE : stdE P tbl = E
  intro h
  unfold vc18 at h
  cbv
  refine ⟨⟨fun hh => hh⟩, ?_⟩
  refine ⟨⟨fun hh => hh⟩, ?_⟩
  refine ⟨⟨fun hh => hh⟩, ?_⟩
  refine ⟨⟨fun hh => hh⟩, ?_⟩
  refine ⟨⟨fun hh => hh⟩, ?_⟩
  refine ⟨⟨fun hh => hh⟩, ?_⟩
  refine ⟨⟨fun hh => hh⟩, ?_⟩
  refine ⟨⟨fun hh => hh⟩, ?_⟩
  refine ⟨⟨fun hh => hh⟩, ?_⟩
  refine ⟨fun hb19 => ?_, fun hb19 => ?_⟩
  · replace h := h.t hb19
    have h : _ = row := h
    subst h
    repeat' (first | exact trivial | exact rfl | refine And.intro ?_ ?_)
  · replace h := h.f hb19
    have c20 := h.1
    refine ⟨c20, ?_⟩
    replace h := h.2 _ rfl
    refine ⟨⟨fun hh => hh⟩, ?_⟩
    refine ⟨⟨fun hh => hh⟩, ?_⟩
    refine ⟨⟨fun hh => hh⟩, ?_⟩
    refine ⟨⟨fun hh => hh⟩, ?_⟩
    have c21 := h.1
    refine ⟨c21, ?_⟩
    replace h := h.2 _ rfl
    refine ⟨⟨fun hh => hh⟩, ?_⟩
    refine ⟨⟨fun hh => hh⟩, ?_⟩
    refine ⟨⟨fun hh => hh⟩, ?_⟩
    refine ⟨⟨fun hh => hh⟩, ?_⟩
    refine ⟨⟨fun hh => hh⟩, ?_⟩
    refine ⟨⟨fun hh => hh⟩, ?_⟩
    refine ⟨⟨fun hh => hh⟩, ?_⟩
    refine ⟨⟨fun hh => hh⟩, ?_⟩
    refine ⟨⟨fun hh => hh⟩, ?_⟩
    have h : _ = row := h
    subst h
    repeat' (first | exact trivial | exact rfl | refine And.intro ?_ ?_)
def vc19 (E : Env) (x1 : ByteArray) (x2 : Int) (x3 : Int) (x4 : Int) (x5 : Int) (x6 : Int) (x7 : List (List C)) (x8 : Int) (x9 : ByteArray) (x10 : Int) (x11 : Int) (x12 : Int) (x13 : Int) (x14 : Int) (x15 : List (List C)) (x16 : Int) (Q : List C → Prop) : Prop :=
  (E.pok 36 [(false, [.bool])] [.c (.int .i64 x2), .c (.int .i64 x3), .c (.int .i64 x10), .c (.int .i64 x11)]) ∧ (∀ r17 : Nat → C, r17 = E.res 36 [.c (.int .i64 x2), .c (.int .i64 x3), .c (.int .i64 x10), .c (.int .i64 x11)] → 
  ((Imp (E.gb (r17 0)) (E.pok 36 [(false, [.bool])] [.c (.int .i64 x4), .c (.int .i64 x5), .c (.int .i64 x12), .c (.int .i64 x13)])) ∧ (∀ r18 : Nat → C, r18 = E.res 36 [.c (.int .i64 x4), .c (.int .i64 x5), .c (.int .i64 x12), .c (.int .i64 x13)] → 
  (Q [.bool (E.bite (E.gb (r17 0)) (E.gb (r18 0)) false)]))))
theorem w19 {P : Program} {tbl : FuncId → List A → List C}  {x1 : ByteArray} {x2 : Int} {x3 : Int} {x4 : Int} {x5 : Int} {x6 : Int} {x7 : List (List C)} {x8 : Int} {x9 : ByteArray} {x10 : Int} {x11 : Int} {x12 : Int} {x13 : Int} {x14 : Int} {x15 : List (List C)} {x16 : Int} {row : List C} (h : vc19 (stdE P tbl) x1 x2 x3 x4 x5 x6 x7 x8 x9 x10 x11 x12 x13 x14 x15 x16 fun c => c = row) : WPg P tbl rf19 [(false, [.bool])] row [.agg [.c (.str x1), .c (.int .i64 x2), .c (.int .i64 x3), .c (.int .i64 x4), .c (.int .i64 x5), .c (.int .i64 x6), .c (.sl [.int .i64] x7), .c (.int .i64 x8)], .agg [.c (.str x9), .c (.int .i64 x10), .c (.int .i64 x11), .c (.int .i64 x12), .c (.int .i64 x13), .c (.int .i64 x14), .c (.sl [.int .i64] x15), .c (.int .i64 x16)]] := by
  refine ⟨?_⟩
  revert h
  generalize hE : stdE P tbl = E
  intro h
  unfold vc19 at h
  cbv
  have c19 := h.1
  refine ⟨c19, ?_⟩
  replace h := h.2 _ rfl
  refine ⟨⟨fun hh => hh⟩, ?_⟩
  refine ⟨⟨fun hh => hh⟩, ?_⟩
  refine ⟨⟨fun hh => hh⟩, ?_⟩
  refine ⟨⟨fun hh => hh⟩, ?_⟩
  refine ⟨⟨fun hh => hh⟩, ?_⟩
  refine ⟨⟨fun hh => hh⟩, ?_⟩
  refine ⟨⟨fun hh => hh⟩, ?_⟩
  refine ⟨⟨fun hh => hh⟩, ?_⟩
  have c20 := h.1
  refine ⟨c20, ?_⟩
  replace h := h.2 _ rfl
  refine ⟨⟨fun hh => hh⟩, ?_⟩
  have h : _ = row := h
  subst h
  repeat' (first | exact trivial | exact rfl | refine And.intro ?_ ?_)
def vc36 (E : Env) (x1 : Int) (x2 : Int) (x3 : Int) (x4 : Int) (Q : List C → Prop) : Prop :=
  (Imp (E.bite (E.le 0 x2) (E.le 0 x4) false) (E.pok 37 [(false, [.int .u64])] [.c (.int .i64 x1), .c (.int .i64 x3)])) ∧ (∀ r5 : Nat → C, r5 = E.res 37 [.c (.int .i64 x1), .c (.int .i64 x3)] → 
  (Q [.bool (E.bite (E.bite (E.le 0 x2) (E.le 0 x4) false) (E.le (E.gi (r5 0)) (E.add .u64 (E.wrap .u64 x2) (E.wrap .u64 x4))) false)]))
theorem w36 {P : Program} {tbl : FuncId → List A → List C}  {x1 : Int} {x2 : Int} {x3 : Int} {x4 : Int} {row : List C} (h : vc36 (stdE P tbl) x1 x2 x3 x4 fun c => c = row) : WPg P tbl rf36 [(false, [.bool])] row [.c (.int .i64 x1), .c (.int .i64 x2), .c (.int .i64 x3), .c (.int .i64 x4)] := by
  refine ⟨?_⟩
  revert h
  generalize hE : stdE P tbl = E
  intro h
  unfold vc36 at h
  cbv
  refine ⟨⟨fun hh => hh⟩, ?_⟩
  refine ⟨⟨fun hh => hh⟩, ?_⟩
  refine ⟨⟨fun hh => hh⟩, ?_⟩
  refine ⟨⟨fun hh => hh⟩, ?_⟩
  have c6 := h.1
  refine ⟨c6, ?_⟩
  replace h := h.2 _ rfl
  refine ⟨⟨fun hh => hh⟩, ?_⟩
  refine ⟨⟨fun hh => hh⟩, ?_⟩
  refine ⟨⟨fun hh => hh⟩, ?_⟩
  refine ⟨⟨fun hh => hh⟩, ?_⟩
  refine ⟨⟨fun hh => hh⟩, ?_⟩
  refine ⟨⟨fun hh => hh⟩, ?_⟩
  refine ⟨⟨fun hh => hh⟩, ?_⟩
  have h : _ = row := h
  subst h
  repeat' (first | exact trivial | exact rfl | refine And.intro ?_ ?_)
def vc20 (E : Env) (x1 : ByteArray) (x2 : Int) (x3 : Int) (x4 : Int) (x5 : Int) (x6 : Int) (x7 : List (List C)) (x8 : Int) (x9 : ByteArray) (x10 : Int) (x11 : Int) (x12 : Int) (x13 : Int) (x14 : Int) (x15 : List (List C)) (x16 : Int) (Q : List C → Prop) : Prop :=
  LoopP1 (fun (i17 : Int) (K18 : (Int) → Prop) =>
  Br (E.lt i17 2)
    (((E.le 0 i17) = true) ∧ 
      ((E.pok 29 [(false, [.bool])] [.c (.int .i64 (E.iite (E.eq i17 0) x2 x10)), .c (.int .i64 1), .c (.int .i64 1000000)]) ∧ (∀ r19 : Nat → C, r19 = E.res 29 [.c (.int .i64 (E.iite (E.eq i17 0) x2 x10)), .c (.int .i64 1), .c (.int .i64 1000000)] → 
      ((Imp (E.not (E.not (E.gb (r19 0)))) (E.pok 29 [(false, [.bool])] [.c (.int .i64 (E.iite (E.eq i17 0) x4 x12)), .c (.int .i64 0), .c (.int .i64 2000)])) ∧ (∀ r20 : Nat → C, r20 = E.res 29 [.c (.int .i64 (E.iite (E.eq i17 0) x4 x12)), .c (.int .i64 0), .c (.int .i64 2000)] → 
      (Br (E.bite (E.not (E.gb (r19 0))) true (E.not (E.gb (r20 0))))
      (Q [.int .i64 0, .int .i64 0, .int .i64 1])
      (K18 ((E.add .i64 i17 1)))))))))
    ((E.pok 34 [(false, [.int .u64])] [.c (.int .i64 x2), .c (.int .i64 x10)]) ∧ (∀ r21 : Nat → C, r21 = E.res 34 [.c (.int .i64 x2), .c (.int .i64 x10)] → 
      ((E.pok 34 [(false, [.int .u64])] [.c (.int .i64 x4), .c (.int .i64 x12)]) ∧ (∀ r22 : Nat → C, r22 = E.res 34 [.c (.int .i64 x4), .c (.int .i64 x12)] → 
      (Q [.int .i64 (E.wrap .i64 (E.gi (r21 0))), .int .i64 (E.wrap .i64 (E.gi (r22 0))), .int .i64 0]))))))
  (0)
theorem w20 {P : Program} {tbl : FuncId → List A → List C}  {x1 : ByteArray} {x2 : Int} {x3 : Int} {x4 : Int} {x5 : Int} {x6 : Int} {x7 : List (List C)} {x8 : Int} {x9 : ByteArray} {x10 : Int} {x11 : Int} {x12 : Int} {x13 : Int} {x14 : Int} {x15 : List (List C)} {x16 : Int} {row : List C} (h : vc20 (stdE P tbl) x1 x2 x3 x4 x5 x6 x7 x8 x9 x10 x11 x12 x13 x14 x15 x16 fun c => c = row) : WPg P tbl rf20 [(true, [.int .i64, .int .i64]), (false, [.int .i64])] row [.agg [.c (.str x1), .c (.int .i64 x2), .c (.int .i64 x3), .c (.int .i64 x4), .c (.int .i64 x5), .c (.int .i64 x6), .c (.sl [.int .i64] x7), .c (.int .i64 x8)], .agg [.c (.str x9), .c (.int .i64 x10), .c (.int .i64 x11), .c (.int .i64 x12), .c (.int .i64 x13), .c (.int .i64 x14), .c (.sl [.int .i64] x15), .c (.int .i64 x16)]] := by
  refine ⟨?_⟩
  revert h
  generalize hE : stdE P tbl = E
  intro h
  unfold vc20 at h
  cbv
  obtain ⟨I, μ, h0, hI⟩ := h
  refine LoopW.inv (fun R R' s h k => RCode.wp_mono _ R R' s h k) (fun p : Int => (fun (i17 : Int) => (⟨[.u, .u, .ptr 0 0, .ptr 1 0, .ptr 2 0, .u, .u, .u, .u, .u, .agg [.c (.str x1), .c (.int .i64 x2), .c (.int .i64 x3), .c (.int .i64 x4), .c (.int .i64 x5), .c (.int .i64 x6), .c (.sl [.int .i64] x7), .c (.int .i64 x8), .c (.str x9), .c (.int .i64 x10), .c (.int .i64 x11), .c (.int .i64 x12), .c (.int .i64 x13), .c (.int .i64 x14), .c (.sl [.int .i64] x15), .c (.int .i64 x16)], .c (.int .i64 i17), .u, .u, .u, .u, .u, .u, .u, .u, .u, .u, .u, .u, .u, .u, .u, .u, .u, .u, .u, .u, .u, .u, .u, .u, .u, .u, .u], [.box 33 [.c (.str x1), .c (.int .i64 x2), .c (.int .i64 x3), .c (.int .i64 x4), .c (.int .i64 x5), .c (.int .i64 x6), .c (.sl [.int .i64] x7), .c (.int .i64 x8)], .box 33 [.c (.str x9), .c (.int .i64 x10), .c (.int .i64 x11), .c (.int .i64 x12), .c (.int .i64 x13), .c (.int .i64 x14), .c (.sl [.int .i64] x15), .c (.int .i64 x16)], .box 35 [.c (.int .i64 0), .c (.int .i64 0)]]⟩ : St)) p) (fun p => I p) (fun p => μ p) _ h0 ?_ ?_
  · refine GSt.ren [0, 1, 2] rfl rfl rfl (fun i hi => absurd hi (Nat.not_lt_zero i)) (Nat.zero_le _) ?_ ?_
    all_goals (repeat' (first | exact trivial | exact Or.inl rfl | exact Or.inr rfl | refine And.intro ?_ ?_))
  · rintro i17 h
    replace h := hI i17 h
    cbv
    refine ⟨fun hb23 => ?_, fun hb23 => ?_⟩
    · replace h := h.t hb23
      have c24 := h.1
      refine ⟨c24, ?_⟩
      replace h := h.2
      refine ⟨hb23, ?_⟩
      have c25 := h.1
      refine ⟨c25, ?_⟩
      replace h := h.2 _ rfl
      refine ⟨⟨fun hh => hh⟩, ?_⟩
      refine ⟨⟨fun hh => hh⟩, ?_⟩
      have c26 := h.1
      refine ⟨c26, ?_⟩
      replace h := h.2 _ rfl
      refine ⟨⟨fun hh => hh⟩, ?_⟩
      refine ⟨⟨fun hh => hh⟩, ?_⟩
      refine ⟨fun hb27 => ?_, fun hb27 => ?_⟩
      · replace h := h.t hb27
        have h : _ = row := h
        subst h
        repeat' (first | exact trivial | exact rfl | refine And.intro ?_ ?_)
      · replace h := h.f hb27
        refine ⟨_, h.1, GSt.ren [0, 1, 2] rfl rfl rfl (fun i hi => absurd hi (Nat.not_lt_zero i)) (Nat.zero_le _) ?_ ?_, h.2⟩
        all_goals (repeat' (first | exact trivial | exact Or.inl rfl | exact Or.inr rfl | refine And.intro ?_ ?_))
    · replace h := h.f hb23
      have c28 := h.1
      refine ⟨c28, ?_⟩
      replace h := h.2 _ rfl
      have c29 := h.1
      refine ⟨c29, ?_⟩
      replace h := h.2 _ rfl
      have h : _ = row := h
      subst h
      repeat' (first | exact trivial | exact rfl | refine And.intro ?_ ?_)
def vc21 (E : Env) (x1 : ByteArray) (x2 : Int) (x3 : Int) (x4 : Int) (x5 : Int) (x6 : Int) (x7 : List (List C)) (x8 : Int) (x9 : ByteArray) (x10 : Int) (x11 : Int) (x12 : Int) (x13 : Int) (x14 : Int) (x15 : List (List C)) (x16 : Int) (Q : List C → Prop) : Prop :=
  LoopP1 (fun (i17 : Int) (K18 : (Int) → Prop) =>
  Br (E.lt i17 2)
    (((E.le 0 i17) = true) ∧ ((E.lt i17 (E.len [[.str x1, .int .i64 x2, .int .i64 x3, .int .i64 x4, .int .i64 x5, .int .i64 x6, .sl [.int .i64] x7, .int .i64 x8], [.str x9, .int .i64 x10, .int .i64 x11, .int .i64 x12, .int .i64 x13, .int .i64 x14, .sl [.int .i64] x15, .int .i64 x16]])) = true) ∧ 
      (Br (E.bite (E.bite (E.bite (E.lt (E.gi (E.cell [[.str x1, .int .i64 x2, .int .i64 x3, .int .i64 x4, .int .i64 x5, .int .i64 x6, .sl [.int .i64] x7, .int .i64 x8], [.str x9, .int .i64 x10, .int .i64 x11, .int .i64 x12, .int .i64 x13, .int .i64 x14, .sl [.int .i64] x15, .int .i64 x16]] i17 1)) 1) true (E.lt 1000000 (E.gi (E.cell [[.str x1, .int .i64 x2, .int .i64 x3, .int .i64 x4, .int .i64 x5, .int .i64 x6, .sl [.int .i64] x7, .int .i64 x8], [.str x9, .int .i64 x10, .int .i64 x11, .int .i64 x12, .int .i64 x13, .int .i64 x14, .sl [.int .i64] x15, .int .i64 x16]] i17 1)))) true (E.lt (E.gi (E.cell [[.str x1, .int .i64 x2, .int .i64 x3, .int .i64 x4, .int .i64 x5, .int .i64 x6, .sl [.int .i64] x7, .int .i64 x8], [.str x9, .int .i64 x10, .int .i64 x11, .int .i64 x12, .int .i64 x13, .int .i64 x14, .sl [.int .i64] x15, .int .i64 x16]] i17 3)) 0)) true (E.lt 2000 (E.gi (E.cell [[.str x1, .int .i64 x2, .int .i64 x3, .int .i64 x4, .int .i64 x5, .int .i64 x6, .sl [.int .i64] x7, .int .i64 x8], [.str x9, .int .i64 x10, .int .i64 x11, .int .i64 x12, .int .i64 x13, .int .i64 x14, .sl [.int .i64] x15, .int .i64 x16]] i17 3))))
      (Q [.int .i64 0, .int .i64 0, .int .i64 1])
      (K18 ((E.add .i64 i17 1)))))
    ((E.pok 37 [(false, [.int .u64])] [.c (.int .i64 x2), .c (.int .i64 x10)]) ∧ (∀ r19 : Nat → C, r19 = E.res 37 [.c (.int .i64 x2), .c (.int .i64 x10)] → 
      ((E.pok 37 [(false, [.int .u64])] [.c (.int .i64 x4), .c (.int .i64 x12)]) ∧ (∀ r20 : Nat → C, r20 = E.res 37 [.c (.int .i64 x4), .c (.int .i64 x12)] → 
      (Q [.int .i64 (E.wrap .i64 (E.gi (r19 0))), .int .i64 (E.wrap .i64 (E.gi (r20 0))), .int .i64 0]))))))
  (0)
theorem w21 {P : Program} {tbl : FuncId → List A → List C}  {x1 : ByteArray} {x2 : Int} {x3 : Int} {x4 : Int} {x5 : Int} {x6 : Int} {x7 : List (List C)} {x8 : Int} {x9 : ByteArray} {x10 : Int} {x11 : Int} {x12 : Int} {x13 : Int} {x14 : Int} {x15 : List (List C)} {x16 : Int} {row : List C} (h : vc21 (stdE P tbl) x1 x2 x3 x4 x5 x6 x7 x8 x9 x10 x11 x12 x13 x14 x15 x16 fun c => c = row) : WPg P tbl rf21 [(true, [.int .i64, .int .i64]), (false, [.int .i64])] row [.agg [.c (.str x1), .c (.int .i64 x2), .c (.int .i64 x3), .c (.int .i64 x4), .c (.int .i64 x5), .c (.int .i64 x6), .c (.sl [.int .i64] x7), .c (.int .i64 x8)], .agg [.c (.str x9), .c (.int .i64 x10), .c (.int .i64 x11), .c (.int .i64 x12), .c (.int .i64 x13), .c (.int .i64 x14), .c (.sl [.int .i64] x15), .c (.int .i64 x16)]] := by
  refine ⟨?_⟩
  revert h
  generalize hE : stdE P tbl = E
  intro h
  unfold vc21 at h
  cbv
  obtain ⟨I, μ, h0, hI⟩ := h
  refine LoopW.inv (fun R R' s h k => RCode.wp_mono _ R R' s h k) (fun p : Int => (fun (i17 : Int) => (⟨[.u, .u, .ptr 0 0, .ptr 1 0, .ptr 2 0, .u, .gr 3, .c (.int .i64 i17), .u, .u, .u, .u, .u, .u, .u, .u, .u, .u, .u, .u, .u, .u, .u, .u, .u, .u, .u, .u, .u, .u, .u, .u, .u, .u, .u, .u, .u, .u, .u, .u, .u, .u, .u, .u, .u, .u, .u, .u, .u, .u, .u, .u, .u, .u, .u, .u, .u, .u, .u], [.box 33 [.c (.str x1), .c (.int .i64 x2), .c (.int .i64 x3), .c (.int .i64 x4), .c (.int .i64 x5), .c (.int .i64 x6), .c (.sl [.int .i64] x7), .c (.int .i64 x8)], .box 33 [.c (.str x9), .c (.int .i64 x10), .c (.int .i64 x11), .c (.int .i64 x12), .c (.int .i64 x13), .c (.int .i64 x14), .c (.sl [.int .i64] x15), .c (.int .i64 x16)], .box 35 [.c (.int .i64 0), .c (.int .i64 0)], .arr 33 [.str, .int .i64, .int .i64, .int .i64, .int .i64, .int .i64, .sl [.int .i64], .int .i64] [[.str x1, .int .i64 x2, .int .i64 x3, .int .i64 x4, .int .i64 x5, .int .i64 x6, .sl [.int .i64] x7, .int .i64 x8], [.str x9, .int .i64 x10, .int .i64 x11, .int .i64 x12, .int .i64 x13, .int .i64 x14, .sl [.int .i64] x15, .int .i64 x16]]]⟩ : St)) p) (fun p => I p) (fun p => μ p) _ h0 ?_ ?_
  · refine GSt.ren [0, 1, 2, 3] rfl rfl rfl (fun i hi => absurd hi (Nat.not_lt_zero i)) (Nat.zero_le _) ?_ ?_
    all_goals (repeat' (first | exact trivial | exact Or.inl rfl | exact Or.inr rfl | refine And.intro ?_ ?_))
  · rintro i17 h
    replace h := hI i17 h
    cbv
    refine ⟨fun hb21 => ?_, fun hb21 => ?_⟩
    · replace h := h.t hb21
      have c22 := h.1
      refine ⟨c22, ?_⟩
      replace h := h.2
      have c23 := h.1
      refine ⟨c23, ?_⟩
      replace h := h.2
      refine ⟨⟨fun hh => hh⟩, ?_⟩
      refine ⟨⟨fun hh => hh⟩, ?_⟩
      refine ⟨⟨fun _ => c22⟩, ?_⟩
      refine ⟨⟨fun _ => c23⟩, ?_⟩
      refine ⟨⟨fun hh => hh⟩, ?_⟩
      refine ⟨⟨fun hh => hh⟩, ?_⟩
      refine ⟨⟨fun hh => hh⟩, ?_⟩
      refine ⟨⟨fun hh => hh⟩, ?_⟩
      refine ⟨⟨fun hh => hh⟩, ?_⟩
      refine ⟨⟨fun hh => hh⟩, ?_⟩
      refine ⟨⟨fun _ => c22⟩, ?_⟩
      refine ⟨⟨fun _ => c23⟩, ?_⟩
      refine ⟨⟨fun hh => hh⟩, ?_⟩
      refine ⟨⟨fun hh => hh⟩, ?_⟩
      refine ⟨⟨fun hh => hh⟩, ?_⟩
      refine ⟨⟨fun hh => hh⟩, ?_⟩
      refine ⟨⟨fun hh => hh⟩, ?_⟩
      refine ⟨⟨fun hh => hh⟩, ?_⟩
      refine ⟨⟨fun _ => c22⟩, ?_⟩
      refine ⟨⟨fun _ => c23⟩, ?_⟩
      refine ⟨⟨fun hh => hh⟩, ?_⟩
      refine ⟨⟨fun hh => hh⟩, ?_⟩
      refine ⟨⟨fun hh => hh⟩, ?_⟩
      refine ⟨⟨fun hh => hh⟩, ?_⟩
      refine ⟨fun hb24 => ?_, fun hb24 => ?_⟩
      · replace h := h.t hb24
        have h : _ = row := h
        subst h
        repeat' (first | exact trivial | exact rfl | refine And.intro ?_ ?_)
      · replace h := h.f hb24
        refine ⟨_, h.1, GSt.ren [0, 1, 2, 3] rfl rfl rfl (fun i hi => absurd hi (Nat.not_lt_zero i)) (Nat.zero_le _) ?_ ?_, h.2⟩
        all_goals (repeat' (first | exact trivial | exact Or.inl rfl | exact Or.inr rfl | refine And.intro ?_ ?_))
    · replace h := h.f hb21
      have c25 := h.1
      refine ⟨c25, ?_⟩
      replace h := h.2 _ rfl
      have c26 := h.1
      refine ⟨c26, ?_⟩
      replace h := h.2 _ rfl
      have h : _ = row := h
      subst h
      repeat' (first | exact trivial | exact rfl | refine And.intro ?_ ?_)
def vc5 (E : Env) (x1 : ByteArray) (x2 : Int) (x3 : Int) (x4 : Int) (x5 : Int) (x6 : Int) (x7 : List (List C)) (x8 : Int) (x9 : ByteArray) (x10 : Int) (x11 : Int) (x12 : Int) (x13 : Int) (x14 : Int) (x15 : List (List C)) (x16 : Int) (x17 : Int) (x18 : Int) (Q : List C → Prop) : Prop :=
  (E.pok 16 [(false, [.bool])] [.agg [.c (.str x1), .c (.int .i64 x2), .c (.int .i64 x3), .c (.int .i64 x4), .c (.int .i64 x5), .c (.int .i64 x6), .c (.sl [.int .i64] x7), .c (.int .i64 x8)], .agg [.c (.int .i64 x17), .c (.int .i64 x18)]]) ∧ (∀ r19 : Nat → C, r19 = E.res 16 [.agg [.c (.str x1), .c (.int .i64 x2), .c (.int .i64 x3), .c (.int .i64 x4), .c (.int .i64 x5), .c (.int .i64 x6), .c (.sl [.int .i64] x7), .c (.int .i64 x8)], .agg [.c (.int .i64 x17), .c (.int .i64 x18)]] → 
  ((E.pok 17 [(false, [.bool])] [.agg [.c (.str x1), .c (.int .i64 x2), .c (.int .i64 x3), .c (.int .i64 x4), .c (.int .i64 x5), .c (.int .i64 x6), .c (.sl [.int .i64] x7), .c (.int .i64 x8)], .agg [.c (.int .i64 x17), .c (.int .i64 x18)]]) ∧ (∀ r20 : Nat → C, r20 = E.res 17 [.agg [.c (.str x1), .c (.int .i64 x2), .c (.int .i64 x3), .c (.int .i64 x4), .c (.int .i64 x5), .c (.int .i64 x6), .c (.sl [.int .i64] x7), .c (.int .i64 x8)], .agg [.c (.int .i64 x17), .c (.int .i64 x18)]] → 
  ((Imp (E.beq (E.gb (r19 0)) (E.gb (r20 0))) (E.pok 18 [(false, [.bool])] [.agg [.c (.str x1), .c (.int .i64 x2), .c (.int .i64 x3), .c (.int .i64 x4), .c (.int .i64 x5), .c (.int .i64 x6), .c (.sl [.int .i64] x7), .c (.int .i64 x8)], .agg [.c (.str x9), .c (.int .i64 x10), .c (.int .i64 x11), .c (.int .i64 x12), .c (.int .i64 x13), .c (.int .i64 x14), .c (.sl [.int .i64] x15), .c (.int .i64 x16)]])) ∧ (∀ r21 : Nat → C, r21 = E.res 18 [.agg [.c (.str x1), .c (.int .i64 x2), .c (.int .i64 x3), .c (.int .i64 x4), .c (.int .i64 x5), .c (.int .i64 x6), .c (.sl [.int .i64] x7), .c (.int .i64 x8)], .agg [.c (.str x9), .c (.int .i64 x10), .c (.int .i64 x11), .c (.int .i64 x12), .c (.int .i64 x13), .c (.int .i64 x14), .c (.sl [.int .i64] x15), .c (.int .i64 x16)]] → 
  ((Imp (E.beq (E.gb (r19 0)) (E.gb (r20 0))) (E.pok 19 [(false, [.bool])] [.agg [.c (.str x1), .c (.int .i64 x2), .c (.int .i64 x3), .c (.int .i64 x4), .c (.int .i64 x5), .c (.int .i64 x6), .c (.sl [.int .i64] x7), .c (.int .i64 x8)], .agg [.c (.str x9), .c (.int .i64 x10), .c (.int .i64 x11), .c (.int .i64 x12), .c (.int .i64 x13), .c (.int .i64 x14), .c (.sl [.int .i64] x15), .c (.int .i64 x16)]])) ∧ (∀ r22 : Nat → C, r22 = E.res 19 [.agg [.c (.str x1), .c (.int .i64 x2), .c (.int .i64 x3), .c (.int .i64 x4), .c (.int .i64 x5), .c (.int .i64 x6), .c (.sl [.int .i64] x7), .c (.int .i64 x8)], .agg [.c (.str x9), .c (.int .i64 x10), .c (.int .i64 x11), .c (.int .i64 x12), .c (.int .i64 x13), .c (.int .i64 x14), .c (.sl [.int .i64] x15), .c (.int .i64 x16)]] → 
  ((Imp (E.bite (E.beq (E.gb (r19 0)) (E.gb (r20 0))) (E.beq (E.gb (r21 0)) (E.gb (r22 0))) false) (E.pok 11 [(false, [.bool])] [])) ∧ (∀ r23 : Nat → C, r23 = E.res 11 [] → 
  (Q [.bool (E.bite (E.bite (E.beq (E.gb (r19 0)) (E.gb (r20 0))) (E.beq (E.gb (r21 0)) (E.gb (r22 0))) false) (E.gb (r23 0)) false)]))))))))))
theorem w5 {P : Program} {tbl : FuncId → List A → List C}  {x1 : ByteArray} {x2 : Int} {x3 : Int} {x4 : Int} {x5 : Int} {x6 : Int} {x7 : List (List C)} {x8 : Int} {x9 : ByteArray} {x10 : Int} {x11 : Int} {x12 : Int} {x13 : Int} {x14 : Int} {x15 : List (List C)} {x16 : Int} {x17 : Int} {x18 : Int} {row : List C} (h : vc5 (stdE P tbl) x1 x2 x3 x4 x5 x6 x7 x8 x9 x10 x11 x12 x13 x14 x15 x16 x17 x18 fun c => c = row) : WPg P tbl rf5 [(false, [.bool])] row [.agg [.c (.str x1), .c (.int .i64 x2), .c (.int .i64 x3), .c (.int .i64 x4), .c (.int .i64 x5), .c (.int .i64 x6), .c (.sl [.int .i64] x7), .c (.int .i64 x8)], .agg [.c (.str x9), .c (.int .i64 x10), .c (.int .i64 x11), .c (.int .i64 x12), .c (.int .i64 x13), .c (.int .i64 x14), .c (.sl [.int .i64] x15), .c (.int .i64 x16)], .agg [.c (.int .i64 x17), .c (.int .i64 x18)]] := by
  refine ⟨?_⟩
  revert h
  generalize hE : stdE P tbl = E
  intro h
  unfold vc5 at h
  cbv
  have c24 := h.1
  refine ⟨c24, ?_⟩
  replace h := h.2 _ rfl
  have c25 := h.1
  refine ⟨c25, ?_⟩
  replace h := h.2 _ rfl
  refine ⟨⟨fun hh => hh⟩, ?_⟩
  refine ⟨⟨fun hh => hh⟩, ?_⟩
  have c26 := h.1
  refine ⟨c26, ?_⟩
  replace h := h.2 _ rfl
  refine ⟨⟨fun hh => hh⟩, ?_⟩
  refine ⟨⟨fun hh => hh⟩, ?_⟩
  have c27 := h.1
  refine ⟨c27, ?_⟩
  replace h := h.2 _ rfl
  refine ⟨⟨fun hh => hh⟩, ?_⟩
  refine ⟨⟨fun hh => hh⟩, ?_⟩
  refine ⟨⟨fun hh => hh⟩, ?_⟩
  have c28 := h.1
  refine ⟨c28, ?_⟩
  replace h := h.2 _ rfl
  refine ⟨⟨fun hh => hh⟩, ?_⟩
  have h : _ = row := h
  subst h
  repeat' (first | exact trivial | exact rfl | refine And.intro ?_ ?_)
def vc6 (E : Env) (x1 : ByteArray) (x2 : Int) (x3 : Int) (x4 : Int) (x5 : Int) (x6 : Int) (x7 : List (List C)) (x8 : Int) (x9 : ByteArray) (x10 : Int) (x11 : Int) (x12 : Int) (x13 : Int) (x14 : Int) (x15 : List (List C)) (x16 : Int) (Q : List C → Prop) : Prop :=
  (E.pok 20 [(true, [.int .i64, .int .i64]), (false, [.int .i64])] [.agg [.c (.str x1), .c (.int .i64 x2), .c (.int .i64 x3), .c (.int .i64 x4), .c (.int .i64 x5), .c (.int .i64 x6), .c (.sl [.int .i64] x7), .c (.int .i64 x8)], .agg [.c (.str x9), .c (.int .i64 x10), .c (.int .i64 x11), .c (.int .i64 x12), .c (.int .i64 x13), .c (.int .i64 x14), .c (.sl [.int .i64] x15), .c (.int .i64 x16)]]) ∧ (∀ r17 : Nat → C, r17 = E.res 20 [.agg [.c (.str x1), .c (.int .i64 x2), .c (.int .i64 x3), .c (.int .i64 x4), .c (.int .i64 x5), .c (.int .i64 x6), .c (.sl [.int .i64] x7), .c (.int .i64 x8)], .agg [.c (.str x9), .c (.int .i64 x10), .c (.int .i64 x11), .c (.int .i64 x12), .c (.int .i64 x13), .c (.int .i64 x14), .c (.sl [.int .i64] x15), .c (.int .i64 x16)]] → 
  ((E.pok 21 [(true, [.int .i64, .int .i64]), (false, [.int .i64])] [.agg [.c (.str x1), .c (.int .i64 x2), .c (.int .i64 x3), .c (.int .i64 x4), .c (.int .i64 x5), .c (.int .i64 x6), .c (.sl [.int .i64] x7), .c (.int .i64 x8)], .agg [.c (.str x9), .c (.int .i64 x10), .c (.int .i64 x11), .c (.int .i64 x12), .c (.int .i64 x13), .c (.int .i64 x14), .c (.sl [.int .i64] x15), .c (.int .i64 x16)]]) ∧ (∀ r18 : Nat → C, r18 = E.res 21 [.agg [.c (.str x1), .c (.int .i64 x2), .c (.int .i64 x3), .c (.int .i64 x4), .c (.int .i64 x5), .c (.int .i64 x6), .c (.sl [.int .i64] x7), .c (.int .i64 x8)], .agg [.c (.str x9), .c (.int .i64 x10), .c (.int .i64 x11), .c (.int .i64 x12), .c (.int .i64 x13), .c (.int .i64 x14), .c (.sl [.int .i64] x15), .c (.int .i64 x16)]] → 
  ((Imp (E.bite (E.and (E.eq (E.gi (r17 0)) (E.gi (r18 0))) (E.and (E.eq (E.gi (r17 1)) (E.gi (r18 1))) true)) (E.eq (E.gi (r17 2)) (E.gi (r18 2))) false) (E.pok 11 [(false, [.bool])] [])) ∧ (∀ r19 : Nat → C, r19 = E.res 11 [] → 
  (Q [.bool (E.bite (E.bite (E.and (E.eq (E.gi (r17 0)) (E.gi (r18 0))) (E.and (E.eq (E.gi (r17 1)) (E.gi (r18 1))) true)) (E.eq (E.gi (r17 2)) (E.gi (r18 2))) false) (E.gb (r19 0)) false)]))))))
theorem w6 {P : Program} {tbl : FuncId → List A → List C}  {x1 : ByteArray} {x2 : Int} {x3 : Int} {x4 : Int} {x5 : Int} {x6 : Int} {x7 : List (List C)} {x8 : Int} {x9 : ByteArray} {x10 : Int} {x11 : Int} {x12 : Int} {x13 : Int} {x14 : Int} {x15 : List (List C)} {x16 : Int} {row : List C} (h : vc6 (stdE P tbl) x1 x2 x3 x4 x5 x6 x7 x8 x9 x10 x11 x12 x13 x14 x15 x16 fun c => c = row) : WPg P tbl rf6 [(false, [.bool])] row [.agg [.c (.str x1), .c (.int .i64 x2), .c (.int .i64 x3), .c (.int .i64 x4), .c (.int .i64 x5), .c (.int .i64 x6), .c (.sl [.int .i64] x7), .c (.int .i64 x8)], .agg [.c (.str x9), .c (.int .i64 x10), .c (.int .i64 x11), .c (.int .i64 x12), .c (.int .i64 x13), .c (.int .i64 x14), .c (.sl [.int .i64] x15), .c (.int .i64 x16)]] := by
  refine ⟨?_⟩
  revert h
  generalize hE : stdE P tbl = E
  intro h
  unfold vc6 at h
  cbv
  have c20 := h.1
  refine ⟨c20, ?_⟩
  replace h := h.2 _ rfl
  have c21 := h.1
  refine ⟨c21, ?_⟩
  replace h := h.2 _ rfl
  refine ⟨⟨fun hh => hh⟩, ?_⟩
  refine ⟨⟨fun hh => hh⟩, ?_⟩
  refine ⟨⟨fun hh => hh⟩, ?_⟩
  have c22 := h.1
  refine ⟨c22, ?_⟩
  replace h := h.2 _ rfl
  refine ⟨⟨fun hh => hh⟩, ?_⟩
  have h : _ = row := h
  subst h
  repeat' (first | exact trivial | exact rfl | refine And.intro ?_ ?_)
def vc9 (E : Env) (x1 : ByteArray) (x2 : Int) (x3 : Int) (x4 : Int) (x5 : Int) (x6 : Int) (x7 : List (List C)) (x8 : Int) (x9 : ByteArray) (x10 : Int) (x11 : Int) (x12 : Int) (x13 : Int) (x14 : Int) (x15 : List (List C)) (x16 : Int) (x17 : Int) (x18 : Int) (Q : List C → Prop) : Prop :=
  (E.pok 16 [(false, [.bool])] [.agg [.c (.str x1), .c (.int .i64 x2), .c (.int .i64 x3), .c (.int .i64 x4), .c (.int .i64 x5), .c (.int .i64 x6), .c (.sl [.int .i64] x7), .c (.int .i64 x8)], .agg [.c (.int .i64 x2), .c (.int .i64 x4)]]) ∧ (∀ r19 : Nat → C, r19 = E.res 16 [.agg [.c (.str x1), .c (.int .i64 x2), .c (.int .i64 x3), .c (.int .i64 x4), .c (.int .i64 x5), .c (.int .i64 x6), .c (.sl [.int .i64] x7), .c (.int .i64 x8)], .agg [.c (.int .i64 x2), .c (.int .i64 x4)]] → 
  ((Imp (E.not (E.not (E.beq (E.gb (r19 0)) (E.bite (E.le 0 x3) (E.le 0 x5) false)))) (E.pok 18 [(false, [.bool])] [.agg [.c (.str x1), .c (.int .i64 x2), .c (.int .i64 x3), .c (.int .i64 x4), .c (.int .i64 x5), .c (.int .i64 x6), .c (.sl [.int .i64] x7), .c (.int .i64 x8)], .agg [.c (.str x9), .c (.int .i64 x10), .c (.int .i64 x11), .c (.int .i64 x12), .c (.int .i64 x13), .c (.int .i64 x14), .c (.sl [.int .i64] x15), .c (.int .i64 x16)]])) ∧ (∀ r20 : Nat → C, r20 = E.res 18 [.agg [.c (.str x1), .c (.int .i64 x2), .c (.int .i64 x3), .c (.int .i64 x4), .c (.int .i64 x5), .c (.int .i64 x6), .c (.sl [.int .i64] x7), .c (.int .i64 x8)], .agg [.c (.str x9), .c (.int .i64 x10), .c (.int .i64 x11), .c (.int .i64 x12), .c (.int .i64 x13), .c (.int .i64 x14), .c (.sl [.int .i64] x15), .c (.int .i64 x16)]] → 
  ((Imp (E.not (E.not (E.beq (E.gb (r19 0)) (E.bite (E.le 0 x3) (E.le 0 x5) false)))) (E.pok 18 [(false, [.bool])] [.agg [.c (.str x9), .c (.int .i64 x10), .c (.int .i64 x11), .c (.int .i64 x12), .c (.int .i64 x13), .c (.int .i64 x14), .c (.sl [.int .i64] x15), .c (.int .i64 x16)], .agg [.c (.str x1), .c (.int .i64 x2), .c (.int .i64 x3), .c (.int .i64 x4), .c (.int .i64 x5), .c (.int .i64 x6), .c (.sl [.int .i64] x7), .c (.int .i64 x8)]])) ∧ (∀ r21 : Nat → C, r21 = E.res 18 [.agg [.c (.str x9), .c (.int .i64 x10), .c (.int .i64 x11), .c (.int .i64 x12), .c (.int .i64 x13), .c (.int .i64 x14), .c (.sl [.int .i64] x15), .c (.int .i64 x16)], .agg [.c (.str x1), .c (.int .i64 x2), .c (.int .i64 x3), .c (.int .i64 x4), .c (.int .i64 x5), .c (.int .i64 x6), .c (.sl [.int .i64] x7), .c (.int .i64 x8)]] → 
  ((Imp (E.not (E.bite (E.not (E.beq (E.gb (r19 0)) (E.bite (E.le 0 x3) (E.le 0 x5) false))) true (E.not (E.beq (E.gb (r20 0)) (E.gb (r21 0)))))) (E.pok 18 [(false, [.bool])] [.agg [.c (.str x1), .c (.int .i64 x2), .c (.int .i64 x3), .c (.int .i64 x4), .c (.int .i64 x5), .c (.int .i64 x6), .c (.sl [.int .i64] x7), .c (.int .i64 x8)], .agg [.c (.str x1), .c (.int .i64 x2), .c (.int .i64 x3), .c (.int .i64 x4), .c (.int .i64 x5), .c (.int .i64 x6), .c (.sl [.int .i64] x7), .c (.int .i64 x8)]])) ∧ (∀ r22 : Nat → C, r22 = E.res 18 [.agg [.c (.str x1), .c (.int .i64 x2), .c (.int .i64 x3), .c (.int .i64 x4), .c (.int .i64 x5), .c (.int .i64 x6), .c (.sl [.int .i64] x7), .c (.int .i64 x8)], .agg [.c (.str x1), .c (.int .i64 x2), .c (.int .i64 x3), .c (.int .i64 x4), .c (.int .i64 x5), .c (.int .i64 x6), .c (.sl [.int .i64] x7), .c (.int .i64 x8)]] → 
  (Br (E.bite (E.bite (E.not (E.beq (E.gb (r19 0)) (E.bite (E.le 0 x3) (E.le 0 x5) false))) true (E.not (E.beq (E.gb (r20 0)) (E.gb (r21 0))))) true (E.not (E.beq (E.gb (r22 0)) (E.gb (r19 0)))))
  (Q [.bool false])
  ((E.pok 16 [(false, [.bool])] [.agg [.c (.str x1), .c (.int .i64 x2), .c (.int .i64 x3), .c (.int .i64 x4), .c (.int .i64 x5), .c (.int .i64 x6), .c (.sl [.int .i64] x7), .c (.int .i64 x8)], .agg [.c (.int .i64 x17), .c (.int .i64 x18)]]) ∧ (∀ r23 : Nat → C, r23 = E.res 16 [.agg [.c (.str x1), .c (.int .i64 x2), .c (.int .i64 x3), .c (.int .i64 x4), .c (.int .i64 x5), .c (.int .i64 x6), .c (.sl [.int .i64] x7), .c (.int .i64 x8)], .agg [.c (.int .i64 x17), .c (.int .i64 x18)]] → 
    ((Imp (E.not (E.not (E.gb (r23 0)))) (E.pok 16 [(false, [.bool])] [.agg [.c (.str x9), .c (.int .i64 x10), .c (.int .i64 x11), .c (.int .i64 x12), .c (.int .i64 x13), .c (.int .i64 x14), .c (.sl [.int .i64] x15), .c (.int .i64 x16)], .agg [.c (.int .i64 x17), .c (.int .i64 x18)]])) ∧ (∀ r24 : Nat → C, r24 = E.res 16 [.agg [.c (.str x9), .c (.int .i64 x10), .c (.int .i64 x11), .c (.int .i64 x12), .c (.int .i64 x13), .c (.int .i64 x14), .c (.sl [.int .i64] x15), .c (.int .i64 x16)], .agg [.c (.int .i64 x17), .c (.int .i64 x18)]] → 
    ((Imp (E.not (E.bite (E.not (E.gb (r23 0))) true (E.not (E.gb (r24 0))))) (E.pok 18 [(false, [.bool])] [.agg [.c (.str x1), .c (.int .i64 x2), .c (.int .i64 x3), .c (.int .i64 x4), .c (.int .i64 x5), .c (.int .i64 x6), .c (.sl [.int .i64] x7), .c (.int .i64 x8)], .agg [.c (.str x9), .c (.int .i64 x10), .c (.int .i64 x11), .c (.int .i64 x12), .c (.int .i64 x13), .c (.int .i64 x14), .c (.sl [.int .i64] x15), .c (.int .i64 x16)]])) ∧ (∀ r25 : Nat → C, r25 = E.res 18 [.agg [.c (.str x1), .c (.int .i64 x2), .c (.int .i64 x3), .c (.int .i64 x4), .c (.int .i64 x5), .c (.int .i64 x6), .c (.sl [.int .i64] x7), .c (.int .i64 x8)], .agg [.c (.str x9), .c (.int .i64 x10), .c (.int .i64 x11), .c (.int .i64 x12), .c (.int .i64 x13), .c (.int .i64 x14), .c (.sl [.int .i64] x15), .c (.int .i64 x16)]] → 
    ((Imp (E.bite (E.bite (E.not (E.gb (r23 0))) true (E.not (E.gb (r24 0)))) true (E.gb (r25 0))) (E.pok 11 [(false, [.bool])] [])) ∧ (∀ r26 : Nat → C, r26 = E.res 11 [] → 
    (Q [.bool (E.bite (E.bite (E.bite (E.not (E.gb (r23 0))) true (E.not (E.gb (r24 0)))) true (E.gb (r25 0))) (E.gb (r26 0)) false)])))))))))))))))))
theorem w9 {P : Program} {tbl : FuncId → List A → List C}  {x1 : ByteArray} {x2 : Int} {x3 : Int} {x4 : Int} {x5 : Int} {x6 : Int} {x7 : List (List C)} {x8 : Int} {x9 : ByteArray} {x10 : Int} {x11 : Int} {x12 : Int} {x13 : Int} {x14 : Int} {x15 : List (List C)} {x16 : Int} {x17 : Int} {x18 : Int} {row : List C} (h : vc9 (stdE P tbl) x1 x2 x3 x4 x5 x6 x7 x8 x9 x10 x11 x12 x13 x14 x15 x16 x17 x18 fun c => c = row) : WPg P tbl rf9 [(false, [.bool])] row [.agg [.c (.str x1), .c (.int .i64 x2), .c (.int .i64 x3), .c (.int .i64 x4), .c (.int .i64 x5), .c (.int .i64 x6), .c (.sl [.int .i64] x7), .c (.int .i64 x8)], .agg [.c (.str x9), .c (.int .i64 x10), .c (.int .i64 x11), .c (.int .i64 x12), .c (.int .i64 x13), .c (.int .i64 x14), .c (.sl [.int .i64] x15), .c (.int .i64 x16)], .agg [.c (.int .i64 x17), .c (.int .i64 x18)]] := by
  refine ⟨?_⟩
  revert h
  generalize hE : stdE P tbl = E
  intro h
  unfold vc9 at h
  cbv
  have c27 := h.1
  refine ⟨c27, ?_⟩
  replace h := h.2 _ rfl
  refine ⟨⟨fun hh => hh⟩, ?_⟩
  refine ⟨⟨fun hh => hh⟩, ?_⟩
  refine ⟨⟨fun hh => hh⟩, ?_⟩
  refine ⟨⟨fun hh => hh⟩, ?_⟩
  refine ⟨⟨fun hh => hh⟩, ?_⟩
  have c28 := h.1
  refine ⟨c28, ?_⟩
  replace h := h.2 _ rfl
  refine ⟨⟨fun hh => hh⟩, ?_⟩
  refine ⟨⟨fun hh => hh⟩, ?_⟩
  have c29 := h.1
  refine ⟨c29, ?_⟩
  replace h := h.2 _ rfl
  refine ⟨⟨fun hh => hh⟩, ?_⟩
  refine ⟨⟨fun hh => hh⟩, ?_⟩
  refine ⟨⟨fun hh => hh⟩, ?_⟩
  refine ⟨⟨fun hh => hh⟩, ?_⟩
  refine ⟨⟨fun hh => hh⟩, ?_⟩
  have c30 := h.1
  refine ⟨c30, ?_⟩
  replace h := h.2 _ rfl
  refine ⟨⟨fun hh => hh⟩, ?_⟩
  refine ⟨⟨fun hh => hh⟩, ?_⟩
  refine ⟨⟨fun hh => hh⟩, ?_⟩
  refine ⟨fun hb31 => ?_, fun hb31 => ?_⟩
  · replace h := h.t hb31
    have h : _ = row := h
    subst h
    repeat' (first | exact trivial | exact rfl | refine And.intro ?_ ?_)
  · replace h := h.f hb31
    have c32 := h.1
    refine ⟨c32, ?_⟩
    replace h := h.2 _ rfl
    refine ⟨⟨fun hh => hh⟩, ?_⟩
    refine ⟨⟨fun hh => hh⟩, ?_⟩
    have c33 := h.1
    refine ⟨c33, ?_⟩
    replace h := h.2 _ rfl
    refine ⟨⟨fun hh => hh⟩, ?_⟩
    refine ⟨⟨fun hh => hh⟩, ?_⟩
    refine ⟨⟨fun hh => hh⟩, ?_⟩
    refine ⟨⟨fun hh => hh⟩, ?_⟩
    have c34 := h.1
    refine ⟨c34, ?_⟩
    replace h := h.2 _ rfl
    refine ⟨⟨fun hh => hh⟩, ?_⟩
    have c35 := h.1
    refine ⟨c35, ?_⟩
    replace h := h.2 _ rfl
    refine ⟨⟨fun hh => hh⟩, ?_⟩
    have h : _ = row := h
    subst h
    repeat' (first | exact trivial | exact rfl | refine And.intro ?_ ?_)
end Go.Proofs.Ytljnpioekbdcaaa.V
