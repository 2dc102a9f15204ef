/- Rectangles and spans: the walks of their functions (1 of 3). No conditions. -/
import Derived.Test.YtjckgkhojjnkdaaClips
set_option linter.unusedVariables false
set_option linter.unusedSimpArgs false
namespace Go.Proofs.Ytjckgkhojjnkdaa.V
open Go Go.Eng
set_option maxRecDepth 1000000
set_option maxHeartbeats 1000000
/-- papermill/papermillref15.Cover -/
def rf13 : RFn := ⟨(.seq (.ops 0 [⟨(some 2), (.v (.mv (.k (.c (.int .i64 0))))), none, []⟩, ⟨(some 3), (.v (.mv (.k (.c (.int .i64 0))))), none, []⟩]) (.seq (.seq (.ops 0 [⟨(some 5), (.v (.mv (.t 0))), none, []⟩, ⟨(some 6), (.v (.det 38 [⟨false, [(.int .i64)]⟩] [(.t 5)])), none, []⟩, ⟨(some 4), (.v (.mv (.t 6))), none, []⟩]) (.seq (.ops 0 [⟨(some 7), (.v (.mv (.t 4))), none, []⟩, ⟨(some 8), (.v (.bin .neq (.t 7) (.k (.c (.int .i64 0))))), none, []⟩]) (.cond (.t 8) (.seq (.ops 0 [⟨(some 9), (.v (.mv (.t 4))), none, []⟩, ⟨(some 2), (.v (.mv (.k (.c (.int .i64 0))))), none, []⟩, ⟨(some 3), (.v (.mv (.t 9))), none, []⟩]) .ret) .skip))) (.seq (.ops 0 [⟨(some 10), (.v (.mv (.t 0))), none, []⟩, ⟨(some 11), (.v (.det 39 [⟨false, [(.int .i64)]⟩] [(.t 10)])), none, []⟩, ⟨(some 2), (.v (.mv (.t 11))), none, []⟩, ⟨(some 3), (.v (.mv (.k (.c (.int .i64 0))))), none, []⟩]) .ret))), 12, [(.t 2), (.t 3)]⟩
theorem h13 : fnR Try.prog DD 13 = some rf13 := by kernel_rfl
/-- papermill/papermillref15.Rest -/
def rf15 : RFn := ⟨(.seq (.ops 1 [⟨(some 2), (.v (.box 0 24 (.t 0))), none, []⟩, ⟨(some 4), (.v (.mv (.k (.c (.int .i64 0))))), none, []⟩, ⟨(some 5), (.v (.mv (.k (.c (.int .i64 0))))), none, []⟩]) (.seq (.ops 0 [⟨(some 11), (.v (.mv (.t 1))), none, []⟩, ⟨(some 12), (.v (.lda 4 (.t 2))), none, []⟩, ⟨(some 13), (.v (.det 17 [⟨false, [(.sl [(.int .i64), (.int .i64), (.int .i64), (.int .i64)])]⟩, ⟨false, [(.int .i64)]⟩] [(.t 11), (.t 12)])), none, []⟩, ⟨(some 10), (.v (.mv (.t 13))), none, []⟩, ⟨(some 14), (.v (.ext (.t 10) 0)), none, []⟩, ⟨(some 15), (.v (.ext (.t 10) 1)), none, []⟩, ⟨(some 6), (.v (.mv (.t 14))), none, []⟩, ⟨(some 7), (.v (.mv (.t 15))), none, []⟩]) (.seq (.seq (.ops 0 [⟨(some 16), (.v (.mv (.t 7))), none, []⟩, ⟨(some 17), (.v (.bin .neq (.t 16) (.k (.c (.int .i64 0))))), none, []⟩]) (.cond (.t 17) (.seq (.ops 0 [⟨(some 18), (.v (.mv (.t 7))), none, []⟩, ⟨(some 4), (.v (.mv (.k (.c (.int .i64 0))))), none, []⟩, ⟨(some 5), (.v (.mv (.t 18))), none, []⟩]) .ret) .skip)) (.seq (.ops 0 [⟨(some 20), (.v (.lda 4 (.t 2))), none, []⟩, ⟨(some 21), (.v (.det 27 [⟨false, [(.int .i64)]⟩, ⟨false, [(.int .i64)]⟩] [(.t 20)])), none, []⟩, ⟨(some 19), (.v (.mv (.t 21))), none, []⟩, ⟨(some 22), (.v (.ext (.t 19) 0)), none, []⟩, ⟨(some 23), (.v (.ext (.t 19) 1)), none, []⟩, ⟨(some 8), (.v (.mv (.t 22))), none, []⟩, ⟨(some 9), (.v (.mv (.t 23))), none, []⟩]) (.seq (.ops 0 [⟨(some 24), (.v (.mv (.t 8))), none, []⟩, ⟨(some 25), (.v (.mv (.t 6))), none, []⟩, ⟨(some 26), (.v (.det 39 [⟨false, [(.int .i64)]⟩] [(.t 25)])), none, []⟩, ⟨(some 27), (.v (.bin .sub (.t 24) (.t 26))), none, []⟩, ⟨(some 4), (.v (.mv (.t 27))), none, []⟩, ⟨(some 5), (.v (.mv (.k (.c (.int .i64 0))))), none, []⟩]) .ret))))), 28, [(.t 4), (.t 5)]⟩
theorem h15 : fnR Try.prog DD 15 = some rf15 := by kernel_rfl
/-- papermill/papermillref15.cover -/
def rf39 : RFn := ⟨(.seq (.ops 0 [⟨(some 2), (.v (.mv (.k (.c (.int .i64 0))))), none, []⟩]) (.seq (.ops 0 [⟨(some 3), (.v (.mv (.k (.c (.int .i64 0))))), none, []⟩]) (.seq (.seq (.ops 0 [⟨(some 4), (.v (.mv (.k (.c (.int .i64 0))))), none, []⟩]) (.block 0 (.loop (.seq (.seq (.ops 0 [⟨(some 9), (.v (.mv (.t 4))), none, []⟩, ⟨(some 10), (.v (.bin .lss (.t 9) (.k (.c (.int .i64 17179869184))))), none, []⟩]) (.cond (.t 10) .skip (.exit 0))) (.block 1 (.seq (.ops 0 [⟨(some 11), (.v (.mv (.t 0))), none, []⟩, ⟨(some 12), (.v (.mv (.t 4))), none, []⟩, ⟨(some 13), (.v (.det 55 [⟨false, [(.int .i64)]⟩] [(.t 11), (.k (.c (.bool true))), (.t 12)])), none, []⟩, ⟨(some 5), (.v (.mv (.t 13))), none, []⟩]) (.seq (.ops 0 [⟨(some 6), (.v (.mv (.k (.c (.int .i64 0))))), none, []⟩]) (.seq (.seq (.ops 0 [⟨(some 7), (.v (.mv (.k (.c (.int .i64 0))))), none, []⟩]) (.block 2 (.loop (.seq (.seq (.ops 0 [⟨(some 14), (.v (.mv (.t 7))), none, []⟩, ⟨(some 15), (.v (.bin .lss (.t 14) (.k (.c (.int .i64 12000))))), none, []⟩]) (.cond (.t 15) .skip (.exit 2))) (.block 3 (.seq (.ops 0 [⟨(some 16), (.v (.mv (.t 0))), none, []⟩, ⟨(some 17), (.v (.mv (.t 7))), none, []⟩, ⟨(some 18), (.v (.det 55 [⟨false, [(.int .i64)]⟩] [(.t 16), (.k (.c (.bool false))), (.t 17)])), none, []⟩, ⟨(some 19), (.v (.min (.t 18) [(.k (.c (.int .i64 12000)))])), none, []⟩, ⟨(some 8), (.v (.mv (.t 19))), none, []⟩]) (.seq (.seq (.ops 0 [⟨(some 20), (.v (.mv (.t 0))), none, []⟩, ⟨(some 21), (.v (.mv (.t 7))), none, []⟩, ⟨(some 22), (.v (.mv (.t 4))), none, []⟩, ⟨(some 23), (.v (.det 56 [⟨false, [.bool]⟩] [(.t 20), (.t 21), (.t 22)])), none, []⟩]) (.cond (.t 23) (.ops 0 [⟨(some 24), (.v (.mv (.t 6))), none, []⟩, ⟨(some 25), (.v (.mv (.t 8))), none, []⟩, ⟨(some 26), (.v (.bin .add (.t 24) (.t 25))), none, []⟩, ⟨(some 27), (.v (.mv (.t 7))), none, []⟩, ⟨(some 28), (.v (.bin .sub (.t 26) (.t 27))), none, []⟩, ⟨(some 6), (.v (.mv (.t 28))), none, []⟩]) .skip)) (.ops 0 [⟨(some 29), (.v (.mv (.t 8))), none, []⟩, ⟨(some 7), (.v (.mv (.t 29))), none, []⟩])))))))) (.seq (.ops 0 [⟨(some 30), (.v (.mv (.t 3))), none, []⟩, ⟨(some 31), (.v (.mv (.t 6))), none, []⟩, ⟨(some 32), (.v (.mv (.t 5))), none, []⟩, ⟨(some 33), (.v (.mv (.t 4))), none, []⟩, ⟨(some 34), (.v (.bin .sub (.t 32) (.t 33))), none, []⟩, ⟨(some 35), (.v (.bin .mul (.t 31) (.t 34))), none, []⟩, ⟨(some 36), (.v (.bin .add (.t 30) (.t 35))), none, []⟩, ⟨(some 3), (.v (.mv (.t 36))), none, []⟩]) (.ops 0 [⟨(some 37), (.v (.mv (.t 5))), none, []⟩, ⟨(some 4), (.v (.mv (.t 37))), none, []⟩])))))))))) (.seq (.ops 0 [⟨(some 38), (.v (.mv (.t 3))), none, []⟩, ⟨(some 2), (.v (.mv (.t 38))), none, []⟩]) .ret)))), 39, [(.t 2)]⟩
theorem h39 : fnR Try.prog DD 39 = some rf39 := by kernel_rfl
/-- papermill/papermillref15.next -/
def rf55 : RFn := ⟨(.seq (.ops 0 [⟨(some 6), (.v (.mv (.k (.c (.int .i64 0))))), none, []⟩]) (.seq (.ops 0 [⟨(some 7), (.v (.mv (.k (.c (.int .i64 17179869184))))), none, []⟩]) (.seq (.seq (.ops 0 [⟨(some 8), (.v (.mv (.k (.c (.int .i64 0))))), none, []⟩]) (.block 0 (.loop (.seq (.seq (.ops 0 [⟨(some 11), (.v (.mv (.t 8))), none, []⟩, ⟨(some 12), (.v (.mv (.t 0))), none, []⟩, ⟨(some 13), (.v (.lenS (.t 12))), none, []⟩, ⟨(some 14), (.v (.bin .lss (.t 11) (.t 13))), none, []⟩]) (.cond (.t 14) .skip (.exit 0))) (.seq (.block 1 (.seq (.any 0 [⟨0, ⟨[], ⟨(some 17), (.v (.mv (.t 0))), none, []⟩⟩⟩, ⟨1, ⟨[], ⟨(some 18), (.v (.mv (.t 8))), none, []⟩⟩⟩, ⟨2, ⟨[0, 1], ⟨(some 19), (.v (.ia 4 (.t 17) (.t 18))), none, []⟩⟩⟩, ⟨3, ⟨[2, 0, 1], ⟨(some 20), (.v (.fa 0 (.t 19))), none, []⟩⟩⟩, ⟨4, ⟨[3, 2, 0, 1], ⟨(some 21), (.v (.ld (.t 20))), none, []⟩⟩⟩, ⟨5, ⟨[], ⟨(some 22), (.v (.mv (.t 0))), none, []⟩⟩⟩, ⟨6, ⟨[], ⟨(some 23), (.v (.mv (.t 8))), none, []⟩⟩⟩, ⟨7, ⟨[5, 6], ⟨(some 24), (.v (.ia 4 (.t 22) (.t 23))), none, []⟩⟩⟩, ⟨8, ⟨[7, 5, 6], ⟨(some 25), (.v (.fa 1 (.t 24))), none, []⟩⟩⟩, ⟨9, ⟨[8, 7, 5, 6], ⟨(some 26), (.v (.ld (.t 25))), none, []⟩⟩⟩, ⟨10, ⟨[4, 3, 2, 0, 1], ⟨(some 9), (.v (.mv (.t 21))), none, []⟩⟩⟩, ⟨11, ⟨[9, 8, 7, 5, 6, 10, 4, 3, 2, 0, 1], ⟨(some 10), (.v (.mv (.t 26))), none, []⟩⟩⟩]) (.seq (.seq (.ops 0 [⟨(some 27), (.v (.mv (.t 1))), none, []⟩]) (.cond (.t 27) (.any 0 [⟨0, ⟨[], ⟨(some 28), (.v (.mv (.t 0))), none, []⟩⟩⟩, ⟨1, ⟨[], ⟨(some 29), (.v (.mv (.t 8))), none, []⟩⟩⟩, ⟨2, ⟨[0, 1], ⟨(some 30), (.v (.ia 4 (.t 28) (.t 29))), none, []⟩⟩⟩, ⟨3, ⟨[2, 0, 1], ⟨(some 31), (.v (.fa 2 (.t 30))), none, []⟩⟩⟩, ⟨4, ⟨[3, 2, 0, 1], ⟨(some 32), (.v (.ld (.t 31))), none, []⟩⟩⟩, ⟨5, ⟨[], ⟨(some 33), (.v (.mv (.t 0))), none, []⟩⟩⟩, ⟨6, ⟨[], ⟨(some 34), (.v (.mv (.t 8))), none, []⟩⟩⟩, ⟨7, ⟨[5, 6], ⟨(some 35), (.v (.ia 4 (.t 33) (.t 34))), none, []⟩⟩⟩, ⟨8, ⟨[7, 5, 6], ⟨(some 36), (.v (.fa 3 (.t 35))), none, []⟩⟩⟩, ⟨9, ⟨[8, 7, 5, 6], ⟨(some 37), (.v (.ld (.t 36))), none, []⟩⟩⟩, ⟨10, ⟨[4, 3, 2, 0, 1], ⟨(some 9), (.v (.mv (.t 32))), none, []⟩⟩⟩, ⟨11, ⟨[9, 8, 7, 5, 6, 10, 4, 3, 2, 0, 1], ⟨(some 10), (.v (.mv (.t 37))), none, []⟩⟩⟩]) .skip)) (.seq (.seq (.ops 0 [⟨(some 38), (.v (.mv (.t 9))), none, []⟩, ⟨(some 39), (.v (.mv (.t 2))), none, []⟩, ⟨(some 40), (.v (.bin .gtr (.t 38) (.t 39))), none, []⟩]) (.cond (.t 40) (.ops 0 [⟨(some 41), (.v (.mv (.t 7))), none, []⟩, ⟨(some 42), (.v (.mv (.t 9))), none, []⟩, ⟨(some 43), (.v (.min (.t 41) [(.t 42)])), none, []⟩, ⟨(some 7), (.v (.mv (.t 43))), none, []⟩]) .skip)) (.seq (.ops 0 [⟨(some 44), (.v (.mv (.t 10))), none, []⟩, ⟨(some 45), (.v (.mv (.t 2))), none, []⟩, ⟨(some 46), (.v (.bin .gtr (.t 44) (.t 45))), none, []⟩]) (.cond (.t 46) (.ops 0 [⟨(some 47), (.v (.mv (.t 7))), none, []⟩, ⟨(some 48), (.v (.mv (.t 10))), none, []⟩, ⟨(some 49), (.v (.min (.t 47) [(.t 48)])), none, []⟩, ⟨(some 7), (.v (.mv (.t 49))), none, []⟩]) .skip)))))) (.ops 0 [⟨(some 15), (.v (.mv (.t 8))), none, []⟩, ⟨(some 16), (.v (.bin .add (.t 15) (.k (.c (.int .i64 1))))), none, []⟩, ⟨(some 8), (.v (.mv (.t 16))), none, []⟩])))))) (.seq (.ops 0 [⟨(some 50), (.v (.mv (.t 7))), none, []⟩, ⟨(some 6), (.v (.mv (.t 50))), none, []⟩]) .ret)))), 51, [(.t 6)]⟩
theorem h55 : fnR Try.prog DD 55 = some rf55 := by kernel_rfl
/-- papermill/papermillref15.in -/
def rf56 : RFn := ⟨(.seq (.ops 0 [⟨(some 6), (.v (.mv (.k (.c (.bool false))))), none, []⟩]) (.seq (.seq (.ops 0 [⟨(some 7), (.v (.mv (.k (.c (.int .i64 0))))), none, []⟩]) (.block 0 (.loop (.seq (.seq (.ops 0 [⟨(some 8), (.v (.mv (.t 7))), none, []⟩, ⟨(some 9), (.v (.mv (.t 0))), none, []⟩, ⟨(some 10), (.v (.lenS (.t 9))), none, []⟩, ⟨(some 11), (.v (.bin .lss (.t 8) (.t 10))), none, []⟩]) (.cond (.t 11) .skip (.exit 0))) (.seq (.block 1 (.seq (.ops 0 [⟨(some 14), (.v (.mv (.t 0))), none, []⟩, ⟨(some 15), (.v (.mv (.t 7))), none, []⟩, ⟨(some 16), (.v (.ia 4 (.t 14) (.t 15))), none, []⟩, ⟨(some 17), (.v (.fa 0 (.t 16))), none, []⟩, ⟨(some 18), (.v (.ld (.t 17))), none, []⟩, ⟨(some 19), (.v (.mv (.t 1))), none, []⟩, ⟨(some 20), (.v (.bin .leq (.t 18) (.t 19))), none, []⟩, ⟨(some 21), (.v (.mv (.t 20))), none, []⟩, ⟨(some 22), (.v (.mv (.t 1))), (some ⟨21, true⟩), [(.t 1)]⟩, ⟨(some 23), (.v (.mv (.t 0))), (some ⟨21, true⟩), [(.t 0)]⟩, ⟨(some 24), (.v (.mv (.t 7))), (some ⟨21, true⟩), [(.t 7)]⟩, ⟨(some 25), (.v (.ia 4 (.t 23) (.t 24))), (some ⟨21, true⟩), [(.t 23), (.t 24)]⟩, ⟨(some 26), (.v (.fa 1 (.t 25))), (some ⟨21, true⟩), [(.t 25)]⟩, ⟨(some 27), (.v (.ld (.t 26))), (some ⟨21, true⟩), [(.t 26)]⟩, ⟨(some 28), (.v (.bin .lss (.t 22) (.t 27))), (some ⟨21, true⟩), [(.t 22), (.t 27)]⟩, ⟨(some 29), (.v (.pick (.t 21) (.t 28) (.k (.c (.bool false))))), none, []⟩, ⟨(some 30), (.v (.mv (.t 29))), none, []⟩, ⟨(some 31), (.v (.mv (.t 0))), (some ⟨30, true⟩), [(.t 0)]⟩, ⟨(some 32), (.v (.mv (.t 7))), (some ⟨30, true⟩), [(.t 7)]⟩, ⟨(some 33), (.v (.ia 4 (.t 31) (.t 32))), (some ⟨30, true⟩), [(.t 31), (.t 32)]⟩, ⟨(some 34), (.v (.fa 2 (.t 33))), (some ⟨30, true⟩), [(.t 33)]⟩, ⟨(some 35), (.v (.ld (.t 34))), (some ⟨30, true⟩), [(.t 34)]⟩, ⟨(some 36), (.v (.mv (.t 2))), (some ⟨30, true⟩), [(.t 2)]⟩, ⟨(some 37), (.v (.bin .leq (.t 35) (.t 36))), (some ⟨30, true⟩), [(.t 35), (.t 36)]⟩, ⟨(some 38), (.v (.pick (.t 30) (.t 37) (.k (.c (.bool false))))), none, []⟩, ⟨(some 39), (.v (.mv (.t 38))), none, []⟩, ⟨(some 40), (.v (.mv (.t 2))), (some ⟨39, true⟩), [(.t 2)]⟩, ⟨(some 41), (.v (.mv (.t 0))), (some ⟨39, true⟩), [(.t 0)]⟩, ⟨(some 42), (.v (.mv (.t 7))), (some ⟨39, true⟩), [(.t 7)]⟩, ⟨(some 43), (.v (.ia 4 (.t 41) (.t 42))), (some ⟨39, true⟩), [(.t 41), (.t 42)]⟩, ⟨(some 44), (.v (.fa 3 (.t 43))), (some ⟨39, true⟩), [(.t 43)]⟩, ⟨(some 45), (.v (.ld (.t 44))), (some ⟨39, true⟩), [(.t 44)]⟩, ⟨(some 46), (.v (.bin .lss (.t 40) (.t 45))), (some ⟨39, true⟩), [(.t 40), (.t 45)]⟩, ⟨(some 47), (.v (.pick (.t 39) (.t 46) (.k (.c (.bool false))))), none, []⟩]) (.cond (.t 47) (.seq (.ops 0 [⟨(some 6), (.v (.mv (.k (.c (.bool true))))), none, []⟩]) .ret) .skip))) (.ops 0 [⟨(some 12), (.v (.mv (.t 7))), none, []⟩, ⟨(some 13), (.v (.bin .add (.t 12) (.k (.c (.int .i64 1))))), none, []⟩, ⟨(some 7), (.v (.mv (.t 13))), none, []⟩])))))) (.seq (.ops 0 [⟨(some 6), (.v (.mv (.k (.c (.bool false))))), none, []⟩]) .ret))), 48, [(.t 6)]⟩
theorem h56 : fnR Try.prog DD 56 = some rf56 := by kernel_rfl
/-- papermill/papermilllaw15.RectCovers -/
def rf3 : RFn := ⟨(.seq (.ops 1 [⟨(some 3), (.v (.box 0 24 (.t 1))), none, []⟩, ⟨(some 4), (.v (.mv (.k (.c (.bool false))))), none, []⟩]) (.seq (.seq (.ops 0 [⟨(some 13), (.v (.mv (.t 0))), none, []⟩, ⟨(some 14), (.v (.lenS (.t 13))), none, []⟩, ⟨(some 15), (.v (.bin .gtr (.t 14) (.k (.c (.int .i64 70))))), none, []⟩]) (.cond (.t 15) (.seq (.ops 0 [⟨(some 16), (.v (.det 11 [⟨false, [.bool]⟩] [])), none, []⟩, ⟨(some 4), (.v (.mv (.t 16))), none, []⟩]) .ret) .skip)) (.seq (.ops 0 [⟨(some 18), (.v (.mv (.t 0))), none, []⟩, ⟨(some 19), (.v (.det 12 [⟨false, [(.int .i64)]⟩, ⟨false, [(.int .i64)]⟩] [(.t 18)])), none, []⟩, ⟨(some 17), (.v (.mv (.t 19))), none, []⟩, ⟨(some 20), (.v (.ext (.t 17) 0)), none, []⟩, ⟨(some 21), (.v (.ext (.t 17) 1)), none, []⟩, ⟨(some 5), (.v (.mv (.t 20))), none, []⟩, ⟨(some 6), (.v (.mv (.t 21))), none, []⟩]) (.seq (.ops 0 [⟨(some 23), (.v (.mv (.t 0))), none, []⟩, ⟨(some 24), (.v (.det 13 [⟨false, [(.int .i64)]⟩, ⟨false, [(.int .i64)]⟩] [(.t 23)])), none, []⟩, ⟨(some 22), (.v (.mv (.t 24))), none, []⟩, ⟨(some 25), (.v (.ext (.t 22) 0)), none, []⟩, ⟨(some 26), (.v (.ext (.t 22) 1)), none, []⟩, ⟨(some 7), (.v (.mv (.t 25))), none, []⟩, ⟨(some 8), (.v (.mv (.t 26))), none, []⟩]) (.seq (.ops 0 [⟨(some 28), (.v (.lda 4 (.t 3))), none, []⟩, ⟨(some 29), (.v (.mv (.t 0))), none, []⟩, ⟨(some 30), (.v (.det 14 [⟨false, [(.int .i64)]⟩, ⟨false, [(.int .i64)]⟩] [(.t 28), (.t 29)])), none, []⟩, ⟨(some 27), (.v (.mv (.t 30))), none, []⟩, ⟨(some 31), (.v (.ext (.t 27) 0)), none, []⟩, ⟨(some 32), (.v (.ext (.t 27) 1)), none, []⟩, ⟨(some 9), (.v (.mv (.t 31))), none, []⟩, ⟨(some 10), (.v (.mv (.t 32))), none, []⟩]) (.seq (.ops 0 [⟨(some 34), (.v (.lda 4 (.t 3))), none, []⟩, ⟨(some 35), (.v (.mv (.t 0))), none, []⟩, ⟨(some 36), (.v (.det 15 [⟨false, [(.int .i64)]⟩, ⟨false, [(.int .i64)]⟩] [(.t 34), (.t 35)])), none, []⟩, ⟨(some 33), (.v (.mv (.t 36))), none, []⟩, ⟨(some 37), (.v (.ext (.t 33) 0)), none, []⟩, ⟨(some 38), (.v (.ext (.t 33) 1)), none, []⟩, ⟨(some 11), (.v (.mv (.t 37))), none, []⟩, ⟨(some 12), (.v (.mv (.t 38))), none, []⟩]) (.seq (.ops 0 [⟨(some 39), (.v (.mv (.t 5))), none, []⟩, ⟨(some 40), (.v (.mv (.t 7))), none, []⟩, ⟨(some 41), (.v (.bin .eql (.t 39) (.t 40))), none, []⟩, ⟨(some 42), (.v (.mv (.t 41))), none, []⟩, ⟨(some 43), (.v (.mv (.t 6))), (some ⟨42, true⟩), [(.t 6)]⟩, ⟨(some 44), (.v (.mv (.t 8))), (some ⟨42, true⟩), [(.t 8)]⟩, ⟨(some 45), (.v (.bin .eql (.t 43) (.t 44))), (some ⟨42, true⟩), [(.t 43), (.t 44)]⟩, ⟨(some 46), (.v (.pick (.t 42) (.t 45) (.k (.c (.bool false))))), none, []⟩, ⟨(some 47), (.v (.mv (.t 46))), none, []⟩, ⟨(some 48), (.v (.mv (.t 9))), (some ⟨47, true⟩), [(.t 9)]⟩, ⟨(some 49), (.v (.mv (.t 11))), (some ⟨47, true⟩), [(.t 11)]⟩, ⟨(some 50), (.v (.bin .eql (.t 48) (.t 49))), (some ⟨47, true⟩), [(.t 48), (.t 49)]⟩, ⟨(some 51), (.v (.pick (.t 47) (.t 50) (.k (.c (.bool false))))), none, []⟩, ⟨(some 52), (.v (.mv (.t 51))), none, []⟩, ⟨(some 53), (.v (.mv (.t 10))), (some ⟨52, true⟩), [(.t 10)]⟩, ⟨(some 54), (.v (.mv (.t 12))), (some ⟨52, true⟩), [(.t 12)]⟩, ⟨(some 55), (.v (.bin .eql (.t 53) (.t 54))), (some ⟨52, true⟩), [(.t 53), (.t 54)]⟩, ⟨(some 56), (.v (.pick (.t 52) (.t 55) (.k (.c (.bool false))))), none, []⟩, ⟨(some 57), (.v (.mv (.t 56))), none, []⟩, ⟨(some 58), (.v (.det 11 [⟨false, [.bool]⟩] [])), (some ⟨57, true⟩), [(.k (.fn 11 []))]⟩, ⟨(some 59), (.v (.pick (.t 57) (.t 58) (.k (.c (.bool false))))), none, []⟩, ⟨(some 4), (.v (.mv (.t 59))), none, []⟩]) .ret))))))), 60, [(.t 4)]⟩
theorem h3 : fnR Try.prog DD 3 = some rf3 := by kernel_rfl
/-- papermill/papermilllaw15.RectTwo -/
def rf8 : RFn := ⟨(.seq (.ops 2 [⟨(some 2), (.v (.box 0 24 (.t 0))), none, []⟩, ⟨(some 3), (.v (.box 1 24 (.t 1))), none, []⟩, ⟨(some 4), (.v (.mv (.k (.c (.bool false))))), none, []⟩]) (.seq (.ops 0 [⟨(some 18), (.v (.lda 4 (.t 2))), none, []⟩, ⟨(some 19), (.v (.det 26 [⟨false, [(.int .i64)]⟩, ⟨false, [(.int .i64)]⟩] [(.t 18)])), none, []⟩, ⟨(some 17), (.v (.mv (.t 19))), none, []⟩, ⟨(some 20), (.v (.ext (.t 17) 0)), none, []⟩, ⟨(some 21), (.v (.ext (.t 17) 1)), none, []⟩, ⟨(some 5), (.v (.mv (.t 20))), none, []⟩, ⟨(some 6), (.v (.mv (.t 21))), none, []⟩]) (.seq (.ops 0 [⟨(some 23), (.v (.lda 4 (.t 3))), none, []⟩, ⟨(some 24), (.v (.det 26 [⟨false, [(.int .i64)]⟩, ⟨false, [(.int .i64)]⟩] [(.t 23)])), none, []⟩, ⟨(some 22), (.v (.mv (.t 24))), none, []⟩, ⟨(some 25), (.v (.ext (.t 22) 0)), none, []⟩, ⟨(some 26), (.v (.ext (.t 22) 1)), none, []⟩, ⟨(some 7), (.v (.mv (.t 25))), none, []⟩, ⟨(some 8), (.v (.mv (.t 26))), none, []⟩]) (.seq (.ops 1 [⟨(some 28), (.v (.lda 4 (.t 2))), none, []⟩, ⟨(some 29), (.v (.lda 4 (.t 3))), none, []⟩, ⟨(some 30), (.v (.det 28 [⟨true, [(.int .i64), (.int .i64), (.int .i64), (.int .i64)]⟩, ⟨false, [.bool]⟩] [(.t 28), (.t 29)])), none, []⟩, ⟨(some 27), (.v (.mv (.t 30))), none, []⟩, ⟨(some 31), (.v (.ext (.t 27) 0)), none, []⟩, ⟨(some 32), (.v (.ext (.t 27) 1)), none, []⟩, ⟨(some 9), (.v (.alloc 0 24 [(.c (.int .i64 0)), (.c (.int .i64 0)), (.c (.int .i64 0)), (.c (.int .i64 0))])), none, []⟩, ⟨none, (.v (.st 4 (.t 9) (.t 31))), none, []⟩, ⟨(some 10), (.v (.mv (.t 32))), none, []⟩]) (.seq (.ops 1 [⟨(some 34), (.v (.lda 4 (.t 3))), none, []⟩, ⟨(some 35), (.v (.lda 4 (.t 2))), none, []⟩, ⟨(some 36), (.v (.det 28 [⟨true, [(.int .i64), (.int .i64), (.int .i64), (.int .i64)]⟩, ⟨false, [.bool]⟩] [(.t 34), (.t 35)])), none, []⟩, ⟨(some 33), (.v (.mv (.t 36))), none, []⟩, ⟨(some 37), (.v (.ext (.t 33) 0)), none, []⟩, ⟨(some 38), (.v (.ext (.t 33) 1)), none, []⟩, ⟨(some 11), (.v (.alloc 0 24 [(.c (.int .i64 0)), (.c (.int .i64 0)), (.c (.int .i64 0)), (.c (.int .i64 0))])), none, []⟩, ⟨none, (.v (.st 4 (.t 11) (.t 37))), none, []⟩, ⟨(some 12), (.v (.mv (.t 38))), none, []⟩]) (.seq (.seq (.ops 0 [⟨(some 39), (.v (.lda 4 (.t 9))), none, []⟩, ⟨(some 40), (.v (.lda 4 (.t 11))), none, []⟩, ⟨(some 41), (.v (.eqs [(.int .i64), (.int .i64), (.int .i64), (.int .i64)] true (.t 39) (.t 40))), none, []⟩, ⟨(some 42), (.v (.mv (.t 41))), none, []⟩, ⟨(some 43), (.v (.mv (.t 10))), (some ⟨42, false⟩), [(.t 10)]⟩, ⟨(some 44), (.v (.mv (.t 12))), (some ⟨42, false⟩), [(.t 12)]⟩, ⟨(some 45), (.v (.eqb true (.t 43) (.t 44))), (some ⟨42, false⟩), [(.t 43), (.t 44)]⟩, ⟨(some 46), (.v (.pick (.t 42) (.k (.c (.bool true))) (.t 45))), none, []⟩, ⟨(some 47), (.v (.mv (.t 46))), none, []⟩, ⟨(some 48), (.v (.mv (.t 10))), (some ⟨47, false⟩), [(.t 10)]⟩, ⟨(some 49), (.v (.lda 4 (.t 2))), (some ⟨47, false⟩), [(.t 2)]⟩, ⟨(some 50), (.v (.lda 4 (.t 3))), (some ⟨47, false⟩), [(.t 3)]⟩, ⟨(some 51), (.v (.lit [(.int .i64), (.int .i64), (.int .i64), (.int .i64)] [(.t 49), (.t 50)])), (some ⟨47, false⟩), [(.t 49), (.t 50)]⟩, ⟨(some 52), (.v (.det 24 [⟨false, [.bool]⟩] [(.t 51)])), (some ⟨47, false⟩), [(.k (.fn 24 [])), (.t 51)]⟩, ⟨(some 53), (.v (.eqb false (.t 48) (.t 52))), (some ⟨47, false⟩), [(.t 48), (.t 52)]⟩, ⟨(some 54), (.v (.pick (.t 47) (.k (.c (.bool true))) (.t 53))), none, []⟩, ⟨(some 55), (.v (.mv (.t 54))), none, []⟩, ⟨(some 56), (.v (.mv (.t 10))), (some ⟨55, false⟩), [(.t 10)]⟩, ⟨(some 57), (.v (.mv (.t 56))), (some ⟨55, false⟩), [(.t 56)]⟩, ⟨(some 58), (.v (.lda 4 (.t 9))), (some ⟨57, true⟩), [(.t 9)]⟩, ⟨(some 59), (.v (.lda 4 (.t 2))), (some ⟨57, true⟩), [(.t 2)]⟩, ⟨(some 60), (.v (.det 32 [⟨false, [.bool]⟩] [(.t 58), (.t 59)])), (some ⟨57, true⟩), [(.k (.fn 32 [])), (.t 58), (.t 59)]⟩, ⟨(some 61), (.v (.un .not (.t 60))), (some ⟨57, true⟩), [(.t 60)]⟩, ⟨(some 62), (.v (.mv (.t 61))), (some ⟨57, true⟩), [(.t 61)]⟩, ⟨(some 63), (.v (.lda 4 (.t 9))), (some ⟨62, false⟩), [(.t 9)]⟩, ⟨(some 64), (.v (.lda 4 (.t 3))), (some ⟨62, false⟩), [(.t 3)]⟩, ⟨(some 65), (.v (.det 32 [⟨false, [.bool]⟩] [(.t 63), (.t 64)])), (some ⟨62, false⟩), [(.k (.fn 32 [])), (.t 63), (.t 64)]⟩, ⟨(some 66), (.v (.un .not (.t 65))), (some ⟨62, false⟩), [(.t 65)]⟩, ⟨(some 67), (.v (.pick (.t 62) (.k (.c (.bool true))) (.t 66))), (some ⟨57, true⟩), [(.t 62), (.k (.c (.bool true))), (.t 66)]⟩, ⟨(some 68), (.v (.pick (.t 57) (.t 67) (.k (.c (.bool false))))), (some ⟨55, false⟩), [(.t 57), (.t 67), (.k (.c (.bool false)))]⟩, ⟨(some 69), (.v (.pick (.t 55) (.k (.c (.bool true))) (.t 68))), none, []⟩]) (.cond (.t 69) (.seq (.ops 0 [⟨(some 4), (.v (.mv (.k (.c (.bool false))))), none, []⟩]) .ret) .skip)) (.seq (.seq (.ops 0 [⟨(some 70), (.v (.mv (.t 6))), none, []⟩, ⟨(some 71), (.v (.bin .neq (.t 70) (.k (.c (.int .i64 0))))), none, []⟩, ⟨(some 72), (.v (.mv (.t 71))), none, []⟩, ⟨(some 73), (.v (.mv (.t 8))), (some ⟨72, false⟩), [(.t 8)]⟩, ⟨(some 74), (.v (.bin .neq (.t 73) (.k (.c (.int .i64 0))))), (some ⟨72, false⟩), [(.t 73), (.k (.c (.int .i64 0)))]⟩, ⟨(some 75), (.v (.pick (.t 72) (.k (.c (.bool true))) (.t 74))), none, []⟩]) (.cond (.t 75) (.seq (.ops 0 [⟨(some 76), (.v (.det 11 [⟨false, [.bool]⟩] [])), none, []⟩, ⟨(some 4), (.v (.mv (.t 76))), none, []⟩]) .ret) .skip)) (.seq (.ops 1 [⟨(some 78), (.v (.lda 4 (.t 2))), none, []⟩, ⟨(some 79), (.v (.lda 4 (.t 3))), none, []⟩, ⟨(some 80), (.v (.bsl 0 24 [(.int .i64), (.int .i64), (.int .i64), (.int .i64)] [(.t 78), (.t 79)])), none, []⟩, ⟨(some 81), (.v (.det 12 [⟨false, [(.int .i64)]⟩, ⟨false, [(.int .i64)]⟩] [(.t 80)])), none, []⟩, ⟨(some 77), (.v (.mv (.t 81))), none, []⟩, ⟨(some 82), (.v (.ext (.t 77) 0)), none, []⟩, ⟨(some 83), (.v (.ext (.t 77) 1)), none, []⟩, ⟨(some 13), (.v (.mv (.t 82))), none, []⟩, ⟨(some 14), (.v (.mv (.t 83))), none, []⟩]) (.seq (.ops 0 [⟨(some 85), (.v (.lda 4 (.t 9))), none, []⟩, ⟨(some 86), (.v (.det 26 [⟨false, [(.int .i64)]⟩, ⟨false, [(.int .i64)]⟩] [(.t 85)])), none, []⟩, ⟨(some 84), (.v (.mv (.t 86))), none, []⟩, ⟨(some 87), (.v (.ext (.t 84) 0)), none, []⟩, ⟨(some 88), (.v (.ext (.t 84) 1)), none, []⟩, ⟨(some 15), (.v (.mv (.t 87))), none, []⟩, ⟨(some 16), (.v (.mv (.t 88))), none, []⟩]) (.seq (.ops 0 [⟨(some 89), (.v (.mv (.t 14))), none, []⟩, ⟨(some 90), (.v (.bin .eql (.t 89) (.k (.c (.int .i64 0))))), none, []⟩, ⟨(some 91), (.v (.mv (.t 90))), none, []⟩, ⟨(some 92), (.v (.mv (.t 16))), (some ⟨91, true⟩), [(.t 16)]⟩, ⟨(some 93), (.v (.bin .eql (.t 92) (.k (.c (.int .i64 0))))), (some ⟨91, true⟩), [(.t 92), (.k (.c (.int .i64 0)))]⟩, ⟨(some 94), (.v (.pick (.t 91) (.t 93) (.k (.c (.bool false))))), none, []⟩, ⟨(some 95), (.v (.mv (.t 94))), none, []⟩, ⟨(some 96), (.v (.mv (.t 13))), (some ⟨95, true⟩), [(.t 13)]⟩, ⟨(some 97), (.v (.mv (.t 5))), (some ⟨95, true⟩), [(.t 5)]⟩, ⟨(some 98), (.v (.mv (.t 7))), (some ⟨95, true⟩), [(.t 7)]⟩, ⟨(some 99), (.v (.bin .add (.t 97) (.t 98))), (some ⟨95, true⟩), [(.t 97), (.t 98)]⟩, ⟨(some 100), (.v (.mv (.t 15))), (some ⟨95, true⟩), [(.t 15)]⟩, ⟨(some 101), (.v (.bin .sub (.t 99) (.t 100))), (some ⟨95, true⟩), [(.t 99), (.t 100)]⟩, ⟨(some 102), (.v (.bin .eql (.t 96) (.t 101))), (some ⟨95, true⟩), [(.t 96), (.t 101)]⟩, ⟨(some 103), (.v (.pick (.t 95) (.t 102) (.k (.c (.bool false))))), none, []⟩, ⟨(some 104), (.v (.mv (.t 103))), none, []⟩, ⟨(some 105), (.v (.mv (.t 15))), (some ⟨104, true⟩), [(.t 15)]⟩, ⟨(some 106), (.v (.bin .gtr (.t 105) (.k (.c (.int .i64 0))))), (some ⟨104, true⟩), [(.t 105), (.k (.c (.int .i64 0)))]⟩, ⟨(some 107), (.v (.mv (.t 10))), (some ⟨104, true⟩), [(.t 10)]⟩, ⟨(some 108), (.v (.eqb false (.t 106) (.t 107))), (some ⟨104, true⟩), [(.t 106), (.t 107)]⟩, ⟨(some 109), (.v (.pick (.t 104) (.t 108) (.k (.c (.bool false))))), none, []⟩, ⟨(some 110), (.v (.mv (.t 109))), none, []⟩, ⟨(some 111), (.v (.det 11 [⟨false, [.bool]⟩] [])), (some ⟨110, true⟩), [(.k (.fn 11 []))]⟩, ⟨(some 112), (.v (.pick (.t 110) (.t 111) (.k (.c (.bool false))))), none, []⟩, ⟨(some 4), (.v (.mv (.t 112))), none, []⟩]) .ret)))))))))), 113, [(.t 4)]⟩
theorem h8 : fnR Try.prog DD 8 = some rf8 := by kernel_rfl
/-- papermill/papermilllaw15.RectArea -/
def rf7 : RFn := ⟨(.seq (.ops 1 [⟨(some 3), (.v (.box 0 24 (.t 1))), none, []⟩, ⟨(some 4), (.v (.mv (.k (.c (.bool false))))), none, []⟩]) (.seq (.seq (.ops 0 [⟨(some 18), (.v (.mv (.t 0))), none, []⟩, ⟨(some 19), (.v (.lenS (.t 18))), none, []⟩, ⟨(some 20), (.v (.bin .gtr (.t 19) (.k (.c (.int .i64 40))))), none, []⟩]) (.cond (.t 20) (.seq (.ops 0 [⟨(some 21), (.v (.det 11 [⟨false, [.bool]⟩] [])), none, []⟩, ⟨(some 4), (.v (.mv (.t 21))), none, []⟩]) .ret) .skip)) (.seq (.ops 0 [⟨(some 23), (.v (.mv (.t 0))), none, []⟩, ⟨(some 24), (.v (.det 12 [⟨false, [(.int .i64)]⟩, ⟨false, [(.int .i64)]⟩] [(.t 23)])), none, []⟩, ⟨(some 22), (.v (.mv (.t 24))), none, []⟩, ⟨(some 25), (.v (.ext (.t 22) 0)), none, []⟩, ⟨(some 26), (.v (.ext (.t 22) 1)), none, []⟩, ⟨(some 5), (.v (.mv (.t 25))), none, []⟩, ⟨(some 6), (.v (.mv (.t 26))), none, []⟩]) (.seq (.ops 0 [⟨(some 28), (.v (.lda 4 (.t 3))), none, []⟩, ⟨(some 29), (.v (.det 26 [⟨false, [(.int .i64)]⟩, ⟨false, [(.int .i64)]⟩] [(.t 28)])), none, []⟩, ⟨(some 27), (.v (.mv (.t 29))), none, []⟩, ⟨(some 30), (.v (.ext (.t 27) 0)), none, []⟩, ⟨(some 31), (.v (.ext (.t 27) 1)), none, []⟩, ⟨(some 7), (.v (.mv (.t 30))), none, []⟩, ⟨(some 8), (.v (.mv (.t 31))), none, []⟩]) (.seq (.ops 0 [⟨(some 33), (.v (.lda 4 (.t 3))), none, []⟩, ⟨(some 34), (.v (.mv (.t 0))), none, []⟩, ⟨(some 35), (.v (.det 14 [⟨false, [(.int .i64)]⟩, ⟨false, [(.int .i64)]⟩] [(.t 33), (.t 34)])), none, []⟩, ⟨(some 32), (.v (.mv (.t 35))), none, []⟩, ⟨(some 36), (.v (.ext (.t 32) 0)), none, []⟩, ⟨(some 37), (.v (.ext (.t 32) 1)), none, []⟩, ⟨(some 9), (.v (.mv (.t 36))), none, []⟩, ⟨(some 10), (.v (.mv (.t 37))), none, []⟩]) (.seq (.ops 0 [⟨(some 39), (.v (.mv (.t 0))), none, []⟩, ⟨(some 40), (.v (.lda 4 (.t 3))), none, []⟩, ⟨(some 41), (.v (.det 16 [⟨false, [(.sl [(.int .i64), (.int .i64), (.int .i64), (.int .i64)])]⟩, ⟨false, [(.int .i64)]⟩] [(.t 39), (.t 40)])), none, []⟩, ⟨(some 38), (.v (.mv (.t 41))), none, []⟩, ⟨(some 42), (.v (.ext (.t 38) 0)), none, []⟩, ⟨(some 43), (.v (.ext (.t 38) 1)), none, []⟩, ⟨(some 11), (.v (.mv (.t 42))), none, []⟩, ⟨(some 12), (.v (.mv (.t 43))), none, []⟩]) (.seq (.seq (.ops 0 [⟨(some 44), (.v (.mv (.t 8))), none, []⟩, ⟨(some 45), (.v (.bin .neq (.t 44) (.k (.c (.int .i64 0))))), none, []⟩]) (.cond (.t 45) (.seq (.ops 0 [⟨(some 46), (.v (.mv (.t 8))), none, []⟩, ⟨(some 47), (.v (.bin .eql (.t 46) (.k (.c (.int .i64 1))))), none, []⟩, ⟨(some 48), (.v (.mv (.t 47))), none, []⟩, ⟨(some 49), (.v (.mv (.t 10))), (some ⟨48, true⟩), [(.t 10)]⟩, ⟨(some 50), (.v (.mv (.t 8))), (some ⟨48, true⟩), [(.t 8)]⟩, ⟨(some 51), (.v (.bin .eql (.t 49) (.t 50))), (some ⟨48, true⟩), [(.t 49), (.t 50)]⟩, ⟨(some 52), (.v (.pick (.t 48) (.t 51) (.k (.c (.bool false))))), none, []⟩, ⟨(some 53), (.v (.mv (.t 52))), none, []⟩, ⟨(some 54), (.v (.mv (.t 12))), (some ⟨53, true⟩), [(.t 12)]⟩, ⟨(some 55), (.v (.mv (.t 8))), (some ⟨53, true⟩), [(.t 8)]⟩, ⟨(some 56), (.v (.bin .eql (.t 54) (.t 55))), (some ⟨53, true⟩), [(.t 54), (.t 55)]⟩, ⟨(some 57), (.v (.pick (.t 53) (.t 56) (.k (.c (.bool false))))), none, []⟩, ⟨(some 58), (.v (.mv (.t 57))), none, []⟩, ⟨(some 59), (.v (.det 11 [⟨false, [.bool]⟩] [])), (some ⟨58, true⟩), [(.k (.fn 11 []))]⟩, ⟨(some 60), (.v (.pick (.t 58) (.t 59) (.k (.c (.bool false))))), none, []⟩, ⟨(some 4), (.v (.mv (.t 60))), none, []⟩]) .ret) .skip)) (.seq (.seq (.ops 0 [⟨(some 61), (.v (.mv (.t 6))), none, []⟩, ⟨(some 62), (.v (.bin .neq (.t 61) (.k (.c (.int .i64 0))))), none, []⟩]) (.cond (.t 62) (.seq (.ops 0 [⟨(some 63), (.v (.mv (.t 10))), none, []⟩, ⟨(some 64), (.v (.mv (.t 6))), none, []⟩, ⟨(some 65), (.v (.bin .eql (.t 63) (.t 64))), none, []⟩, ⟨(some 66), (.v (.mv (.t 65))), none, []⟩, ⟨(some 67), (.v (.mv (.t 12))), (some ⟨66, true⟩), [(.t 12)]⟩, ⟨(some 68), (.v (.mv (.t 6))), (some ⟨66, true⟩), [(.t 6)]⟩, ⟨(some 69), (.v (.bin .eql (.t 67) (.t 68))), (some ⟨66, true⟩), [(.t 67), (.t 68)]⟩, ⟨(some 70), (.v (.pick (.t 66) (.t 69) (.k (.c (.bool false))))), none, []⟩, ⟨(some 71), (.v (.mv (.t 70))), none, []⟩, ⟨(some 72), (.v (.det 11 [⟨false, [.bool]⟩] [])), (some ⟨71, true⟩), [(.k (.fn 11 []))]⟩, ⟨(some 73), (.v (.pick (.t 71) (.t 72) (.k (.c (.bool false))))), none, []⟩, ⟨(some 4), (.v (.mv (.t 73))), none, []⟩]) .ret) .skip)) (.seq (.ops 0 [⟨(some 13), (.v (.mv (.k (.c .nil)))), none, []⟩]) (.seq (.ops 1 [⟨(some 74), (.v (.mv (.t 13))), none, []⟩, ⟨(some 75), (.v (.mv (.t 0))), none, []⟩, ⟨(some 76), (.v (.app 0 24 [(.int .i64), (.int .i64), (.int .i64), (.int .i64)] 4398046511104 (.t 74) (.t 75))), none, []⟩, ⟨(some 13), (.v (.mv (.t 76))), none, []⟩]) (.seq (.ops 2 [⟨(some 77), (.v (.mv (.t 13))), none, []⟩, ⟨(some 78), (.v (.lda 4 (.t 3))), none, []⟩, ⟨(some 79), (.v (.bsl 0 24 [(.int .i64), (.int .i64), (.int .i64), (.int .i64)] [(.t 78)])), none, []⟩, ⟨(some 80), (.v (.app 1 24 [(.int .i64), (.int .i64), (.int .i64), (.int .i64)] 4398046511104 (.t 77) (.t 79))), none, []⟩, ⟨(some 13), (.v (.mv (.t 80))), none, []⟩]) (.seq (.ops 0 [⟨(some 82), (.v (.mv (.t 13))), none, []⟩, ⟨(some 83), (.v (.det 12 [⟨false, [(.int .i64)]⟩, ⟨false, [(.int .i64)]⟩] [(.t 82)])), none, []⟩, ⟨(some 81), (.v (.mv (.t 83))), none, []⟩, ⟨(some 84), (.v (.ext (.t 81) 0)), none, []⟩, ⟨(some 85), (.v (.ext (.t 81) 1)), none, []⟩, ⟨(some 14), (.v (.mv (.t 84))), none, []⟩, ⟨(some 15), (.v (.mv (.t 85))), none, []⟩]) (.seq (.ops 0 [⟨(some 87), (.v (.mv (.t 11))), none, []⟩, ⟨(some 88), (.v (.det 12 [⟨false, [(.int .i64)]⟩, ⟨false, [(.int .i64)]⟩] [(.t 87)])), none, []⟩, ⟨(some 86), (.v (.mv (.t 88))), none, []⟩, ⟨(some 89), (.v (.ext (.t 86) 0)), none, []⟩, ⟨(some 90), (.v (.ext (.t 86) 1)), none, []⟩, ⟨(some 16), (.v (.mv (.t 89))), none, []⟩, ⟨(some 17), (.v (.mv (.t 90))), none, []⟩]) (.seq (.seq (.ops 0 [⟨(some 91), (.v (.mv (.t 10))), none, []⟩, ⟨(some 92), (.v (.bin .neq (.t 91) (.k (.c (.int .i64 0))))), none, []⟩, ⟨(some 93), (.v (.mv (.t 92))), none, []⟩, ⟨(some 94), (.v (.mv (.t 12))), (some ⟨93, false⟩), [(.t 12)]⟩, ⟨(some 95), (.v (.bin .neq (.t 94) (.k (.c (.int .i64 0))))), (some ⟨93, false⟩), [(.t 94), (.k (.c (.int .i64 0)))]⟩, ⟨(some 96), (.v (.pick (.t 93) (.k (.c (.bool true))) (.t 95))), none, []⟩, ⟨(some 97), (.v (.mv (.t 96))), none, []⟩, ⟨(some 98), (.v (.mv (.t 15))), (some ⟨97, false⟩), [(.t 15)]⟩, ⟨(some 99), (.v (.bin .neq (.t 98) (.k (.c (.int .i64 0))))), (some ⟨97, false⟩), [(.t 98), (.k (.c (.int .i64 0)))]⟩, ⟨(some 100), (.v (.pick (.t 97) (.k (.c (.bool true))) (.t 99))), none, []⟩, ⟨(some 101), (.v (.mv (.t 100))), none, []⟩, ⟨(some 102), (.v (.mv (.t 17))), (some ⟨101, false⟩), [(.t 17)]⟩, ⟨(some 103), (.v (.bin .neq (.t 102) (.k (.c (.int .i64 0))))), (some ⟨101, false⟩), [(.t 102), (.k (.c (.int .i64 0)))]⟩, ⟨(some 104), (.v (.pick (.t 101) (.k (.c (.bool true))) (.t 103))), none, []⟩]) (.cond (.t 104) (.seq (.ops 0 [⟨(some 4), (.v (.mv (.k (.c (.bool false))))), none, []⟩]) .ret) .skip)) (.seq (.ops 0 [⟨(some 105), (.v (.mv (.t 14))), none, []⟩, ⟨(some 106), (.v (.mv (.t 5))), none, []⟩, ⟨(some 107), (.v (.mv (.t 9))), none, []⟩, ⟨(some 108), (.v (.bin .add (.t 106) (.t 107))), none, []⟩, ⟨(some 109), (.v (.bin .eql (.t 105) (.t 108))), none, []⟩, ⟨(some 110), (.v (.mv (.t 109))), none, []⟩, ⟨(some 111), (.v (.mv (.t 9))), (some ⟨110, true⟩), [(.t 9)]⟩, ⟨(some 112), (.v (.mv (.t 7))), (some ⟨110, true⟩), [(.t 7)]⟩, ⟨(some 113), (.v (.mv (.t 16))), (some ⟨110, true⟩), [(.t 16)]⟩, ⟨(some 114), (.v (.bin .sub (.t 112) (.t 113))), (some ⟨110, true⟩), [(.t 112), (.t 113)]⟩, ⟨(some 115), (.v (.bin .eql (.t 111) (.t 114))), (some ⟨110, true⟩), [(.t 111), (.t 114)]⟩, ⟨(some 116), (.v (.pick (.t 110) (.t 115) (.k (.c (.bool false))))), none, []⟩, ⟨(some 117), (.v (.mv (.t 116))), none, []⟩, ⟨(some 118), (.v (.mv (.t 9))), (some ⟨117, true⟩), [(.t 9)]⟩, ⟨(some 119), (.v (.bin .geq (.t 118) (.k (.c (.int .i64 0))))), (some ⟨117, true⟩), [(.t 118), (.k (.c (.int .i64 0)))]⟩, ⟨(some 120), (.v (.pick (.t 117) (.t 119) (.k (.c (.bool false))))), none, []⟩, ⟨(some 121), (.v (.mv (.t 120))), none, []⟩, ⟨(some 122), (.v (.mv (.t 5))), (some ⟨121, true⟩), [(.t 5)]⟩, ⟨(some 123), (.v (.bin .leq (.t 122) (.k (.c (.int .i64 206158430208000))))), (some ⟨121, true⟩), [(.t 122), (.k (.c (.int .i64 206158430208000)))]⟩, ⟨(some 124), (.v (.pick (.t 121) (.t 123) (.k (.c (.bool false))))), none, []⟩, ⟨(some 125), (.v (.mv (.t 124))), none, []⟩, ⟨(some 126), (.v (.det 11 [⟨false, [.bool]⟩] [])), (some ⟨125, true⟩), [(.k (.fn 11 []))]⟩, ⟨(some 127), (.v (.pick (.t 125) (.t 126) (.k (.c (.bool false))))), none, []⟩, ⟨(some 4), (.v (.mv (.t 127))), none, []⟩]) .ret))))))))))))))), 128, [(.t 4)]⟩
theorem h7 : fnR Try.prog DD 7 = some rf7 := by kernel_rfl
/-- papermill/papermilllaw15.RectDisjoint -/
def rf9 : RFn := ⟨(.seq (.ops 0 [⟨(some 2), (.v (.mv (.k (.c (.bool false))))), none, []⟩]) (.seq (.seq (.ops 0 [⟨(some 9), (.v (.mv (.t 0))), none, []⟩, ⟨(some 10), (.v (.lenS (.t 9))), none, []⟩, ⟨(some 11), (.v (.bin .gtr (.t 10) (.k (.c (.int .i64 40))))), none, []⟩]) (.cond (.t 11) (.seq (.ops 0 [⟨(some 12), (.v (.det 11 [⟨false, [.bool]⟩] [])), none, []⟩, ⟨(some 2), (.v (.mv (.t 12))), none, []⟩]) .ret) .skip)) (.seq (.ops 0 [⟨(some 14), (.v (.mv (.t 0))), none, []⟩, ⟨(some 15), (.v (.det 12 [⟨false, [(.int .i64)]⟩, ⟨false, [(.int .i64)]⟩] [(.t 14)])), none, []⟩, ⟨(some 13), (.v (.mv (.t 15))), none, []⟩, ⟨(some 16), (.v (.ext (.t 13) 0)), none, []⟩, ⟨(some 17), (.v (.ext (.t 13) 1)), none, []⟩, ⟨(some 3), (.v (.mv (.t 16))), none, []⟩, ⟨(some 4), (.v (.mv (.t 17))), none, []⟩]) (.seq (.seq (.ops 0 [⟨(some 18), (.v (.mv (.t 4))), none, []⟩, ⟨(some 19), (.v (.bin .neq (.t 18) (.k (.c (.int .i64 0))))), none, []⟩]) (.cond (.t 19) (.seq (.ops 0 [⟨(some 20), (.v (.mv (.t 4))), none, []⟩, ⟨(some 21), (.v (.bin .eql (.t 20) (.k (.c (.int .i64 1))))), none, []⟩, ⟨(some 22), (.v (.mv (.t 21))), none, []⟩, ⟨(some 23), (.v (.mv (.t 3))), (some ⟨22, true⟩), [(.t 3)]⟩, ⟨(some 24), (.v (.bin .eql (.t 23) (.k (.c (.int .i64 0))))), (some ⟨22, true⟩), [(.t 23), (.k (.c (.int .i64 0)))]⟩, ⟨(some 25), (.v (.pick (.t 22) (.t 24) (.k (.c (.bool false))))), none, []⟩, ⟨(some 26), (.v (.mv (.t 25))), none, []⟩, ⟨(some 27), (.v (.det 11 [⟨false, [.bool]⟩] [])), (some ⟨26, true⟩), [(.k (.fn 11 []))]⟩, ⟨(some 28), (.v (.pick (.t 26) (.t 27) (.k (.c (.bool false))))), none, []⟩, ⟨(some 2), (.v (.mv (.t 28))), none, []⟩]) .ret) .skip)) (.seq (.ops 0 [⟨(some 5), (.v (.mv (.k (.c (.int .i64 0))))), none, []⟩]) (.seq (.seq (.ops 0 [⟨(some 6), (.v (.mv (.k (.c (.int .i64 0))))), none, []⟩]) (.block 0 (.loop (.seq (.seq (.ops 0 [⟨(some 29), (.v (.mv (.t 6))), none, []⟩, ⟨(some 30), (.v (.mv (.t 0))), none, []⟩, ⟨(some 31), (.v (.lenS (.t 30))), none, []⟩, ⟨(some 32), (.v (.bin .lss (.t 29) (.t 31))), none, []⟩]) (.cond (.t 32) .skip (.exit 0))) (.seq (.block 1 (.seq (.ops 0 [⟨(some 36), (.v (.mv (.t 0))), none, []⟩, ⟨(some 37), (.v (.mv (.t 6))), none, []⟩, ⟨(some 38), (.v (.ia 4 (.t 36) (.t 37))), none, []⟩, ⟨(some 39), (.v (.lda 4 (.t 38))), none, []⟩, ⟨(some 40), (.v (.det 26 [⟨false, [(.int .i64)]⟩, ⟨false, [(.int .i64)]⟩] [(.t 39)])), none, []⟩, ⟨(some 35), (.v (.mv (.t 40))), none, []⟩, ⟨(some 41), (.v (.ext (.t 35) 0)), none, []⟩, ⟨(some 42), (.v (.ext (.t 35) 1)), none, []⟩, ⟨(some 7), (.v (.mv (.t 41))), none, []⟩, ⟨(some 8), (.v (.mv (.t 42))), none, []⟩]) (.seq (.seq (.ops 0 [⟨(some 43), (.v (.mv (.t 8))), none, []⟩, ⟨(some 44), (.v (.bin .neq (.t 43) (.k (.c (.int .i64 0))))), none, []⟩]) (.cond (.t 44) (.seq (.ops 0 [⟨(some 2), (.v (.mv (.k (.c (.bool false))))), none, []⟩]) .ret) .skip)) (.ops 0 [⟨(some 45), (.v (.mv (.t 5))), none, []⟩, ⟨(some 46), (.v (.mv (.t 7))), none, []⟩, ⟨(some 47), (.v (.bin .add (.t 45) (.t 46))), none, []⟩, ⟨(some 5), (.v (.mv (.t 47))), none, []⟩])))) (.ops 0 [⟨(some 33), (.v (.mv (.t 6))), none, []⟩, ⟨(some 34), (.v (.bin .add (.t 33) (.k (.c (.int .i64 1))))), none, []⟩, ⟨(some 6), (.v (.mv (.t 34))), none, []⟩])))))) (.seq (.ops 0 [⟨(some 48), (.v (.mv (.t 3))), none, []⟩, ⟨(some 49), (.v (.mv (.t 5))), none, []⟩, ⟨(some 50), (.v (.bin .leq (.t 48) (.t 49))), none, []⟩, ⟨(some 51), (.v (.mv (.t 50))), none, []⟩, ⟨(some 52), (.v (.mv (.t 3))), (some ⟨51, true⟩), [(.t 3)]⟩, ⟨(some 53), (.v (.mv (.t 5))), (some ⟨51, true⟩), [(.t 5)]⟩, ⟨(some 54), (.v (.bin .eql (.t 52) (.t 53))), (some ⟨51, true⟩), [(.t 52), (.t 53)]⟩, ⟨(some 55), (.v (.mv (.t 0))), (some ⟨51, true⟩), [(.t 0)]⟩, ⟨(some 56), (.v (.det 24 [⟨false, [.bool]⟩] [(.t 55)])), (some ⟨51, true⟩), [(.k (.fn 24 [])), (.t 55)]⟩, ⟨(some 57), (.v (.eqb false (.t 54) (.t 56))), (some ⟨51, true⟩), [(.t 54), (.t 56)]⟩, ⟨(some 58), (.v (.pick (.t 51) (.t 57) (.k (.c (.bool false))))), none, []⟩, ⟨(some 59), (.v (.mv (.t 58))), none, []⟩, ⟨(some 60), (.v (.det 11 [⟨false, [.bool]⟩] [])), (some ⟨59, true⟩), [(.k (.fn 11 []))]⟩, ⟨(some 61), (.v (.pick (.t 59) (.t 60) (.k (.c (.bool false))))), none, []⟩, ⟨(some 2), (.v (.mv (.t 61))), none, []⟩]) .ret))))))), 62, [(.t 2)]⟩
theorem h9 : fnR Try.prog DD 9 = some rf9 := by kernel_rfl
def vc13 (E : Env) (x1 : List (List C)) (Q : List C → Prop) : Prop :=
  (E.pok 38 [(false, [.int .i64])] [.c (.sl [.int .i64, .int .i64, .int .i64, .int .i64] x1)]) ∧ (∀ r2 : Nat → C, r2 = E.res 38 [.c (.sl [.int .i64, .int .i64, .int .i64, .int .i64] x1)] → 
  (Br (E.not (E.eq (E.gi (r2 0)) 0))
  (Q [.int .i64 0, .int .i64 (E.gi (r2 0))])
  ((E.pok 39 [(false, [.int .i64])] [.c (.sl [.int .i64, .int .i64, .int .i64, .int .i64] x1)]) ∧ (∀ r3 : Nat → C, r3 = E.res 39 [.c (.sl [.int .i64, .int .i64, .int .i64, .int .i64] x1)] → 
    (Q [.int .i64 (E.gi (r3 0)), .int .i64 0])))))
theorem w13 {P : Program} {tbl : FuncId → List A → List C}  {x1 : List (List C)} {row : List C} (h : vc13 (stdE P tbl) x1 fun c => c = row) : WPg P tbl rf13 [(false, [.int .i64]), (false, [.int .i64])] row [.c (.sl [.int .i64, .int .i64, .int .i64, .int .i64] x1)] := by
  refine ⟨?_⟩
  revert h
  generalize hE : stdE P tbl = E
  intro h
  unfold vc13 at h
  cbv
  have c4 := h.1
  refine ⟨c4, ?_⟩
  replace h := h.2 _ rfl
  refine ⟨fun hb5 => ?_, fun hb5 => ?_⟩
  · replace h := h.t hb5
    have h : _ = row := h
    subst h
    repeat' (first | exact trivial | exact rfl | refine And.intro ?_ ?_)
  · replace h := h.f hb5
    have c6 := h.1
    refine ⟨c6, ?_⟩
    replace h := h.2 _ rfl
    have h : _ = row := h
    subst h
    repeat' (first | exact trivial | exact rfl | refine And.intro ?_ ?_)
def vc14 (E : Env) (x1 : Int) (x2 : Int) (x3 : Int) (x4 : Int) (x5 : List (List C)) (Q : List C → Prop) : Prop :=
  (E.pok 16 [(false, [.sl [.int .i64, .int .i64, .int .i64, .int .i64]]), (false, [.int .i64])] [.c (.sl [.int .i64, .int .i64, .int .i64, .int .i64] x5), .agg [.c (.int .i64 x1), .c (.int .i64 x2), .c (.int .i64 x3), .c (.int .i64 x4)]]) ∧ (∀ r6 : Nat → C, r6 = E.res 16 [.c (.sl [.int .i64, .int .i64, .int .i64, .int .i64] x5), .agg [.c (.int .i64 x1), .c (.int .i64 x2), .c (.int .i64 x3), .c (.int .i64 x4)]] → 
  (Br (E.not (E.eq (E.gi (r6 1)) 0))
  (Q [.int .i64 0, .int .i64 (E.gi (r6 1))])
  ((E.pok 40 [(false, [.int .i64])] [.agg [.c (.int .i64 x1), .c (.int .i64 x2), .c (.int .i64 x3), .c (.int .i64 x4)]]) ∧ (∀ r7 : Nat → C, r7 = E.res 40 [.agg [.c (.int .i64 x1), .c (.int .i64 x2), .c (.int .i64 x3), .c (.int .i64 x4)]] → 
    ((E.pok 37 [(false, [.int .i64])] [.c (.sl [.int .i64, .int .i64, .int .i64, .int .i64] (E.gl (r6 0)))]) ∧ (∀ r8 : Nat → C, r8 = E.res 37 [.c (.sl [.int .i64, .int .i64, .int .i64, .int .i64] (E.gl (r6 0)))] → 
    (Q [.int .i64 (E.sub .i64 (E.gi (r7 0)) (E.gi (r8 0))), .int .i64 0])))))))
theorem w14 {P : Program} {tbl : FuncId → List A → List C}  {x1 : Int} {x2 : Int} {x3 : Int} {x4 : Int} {x5 : List (List C)} {row : List C} (h : vc14 (stdE P tbl) x1 x2 x3 x4 x5 fun c => c = row) : WPg P tbl rf14 [(false, [.int .i64]), (false, [.int .i64])] row [.agg [.c (.int .i64 x1), .c (.int .i64 x2), .c (.int .i64 x3), .c (.int .i64 x4)], .c (.sl [.int .i64, .int .i64, .int .i64, .int .i64] x5)] := by
  refine ⟨?_⟩
  revert h
  generalize hE : stdE P tbl = E
  intro h
  unfold vc14 at h
  cbv
  have c9 := h.1
  refine ⟨c9, ?_⟩
  replace h := h.2 _ rfl
  refine ⟨fun hb10 => ?_, fun hb10 => ?_⟩
  · replace h := h.t hb10
    have h : _ = row := h
    subst h
    repeat' (first | exact trivial | exact rfl | refine And.intro ?_ ?_)
  · replace h := h.f hb10
    have c11 := h.1
    refine ⟨c11, ?_⟩
    replace h := h.2 _ rfl
    have c12 := h.1
    refine ⟨c12, ?_⟩
    replace h := h.2 _ rfl
    have h : _ = row := h
    subst h
    repeat' (first | exact trivial | exact rfl | refine And.intro ?_ ?_)
def vc15 (E : Env) (x1 : Int) (x2 : Int) (x3 : Int) (x4 : Int) (x5 : List (List C)) (Q : List C → Prop) : Prop :=
  (E.pok 17 [(false, [.sl [.int .i64, .int .i64, .int .i64, .int .i64]]), (false, [.int .i64])] [.c (.sl [.int .i64, .int .i64, .int .i64, .int .i64] x5), .agg [.c (.int .i64 x1), .c (.int .i64 x2), .c (.int .i64 x3), .c (.int .i64 x4)]]) ∧ (∀ r6 : Nat → C, r6 = E.res 17 [.c (.sl [.int .i64, .int .i64, .int .i64, .int .i64] x5), .agg [.c (.int .i64 x1), .c (.int .i64 x2), .c (.int .i64 x3), .c (.int .i64 x4)]] → 
  (Br (E.not (E.eq (E.gi (r6 1)) 0))
  (Q [.int .i64 0, .int .i64 (E.gi (r6 1))])
  ((E.pok 27 [(false, [.int .i64]), (false, [.int .i64])] [.agg [.c (.int .i64 x1), .c (.int .i64 x2), .c (.int .i64 x3), .c (.int .i64 x4)]]) ∧ (∀ r7 : Nat → C, r7 = E.res 27 [.agg [.c (.int .i64 x1), .c (.int .i64 x2), .c (.int .i64 x3), .c (.int .i64 x4)]] → 
    ((E.pok 39 [(false, [.int .i64])] [.c (.sl [.int .i64, .int .i64, .int .i64, .int .i64] (E.gl (r6 0)))]) ∧ (∀ r8 : Nat → C, r8 = E.res 39 [.c (.sl [.int .i64, .int .i64, .int .i64, .int .i64] (E.gl (r6 0)))] → 
    (Q [.int .i64 (E.sub .i64 (E.gi (r7 0)) (E.gi (r8 0))), .int .i64 0])))))))
theorem w15 {P : Program} {tbl : FuncId → List A → List C}  {x1 : Int} {x2 : Int} {x3 : Int} {x4 : Int} {x5 : List (List C)} {row : List C} (h : vc15 (stdE P tbl) x1 x2 x3 x4 x5 fun c => c = row) : WPg P tbl rf15 [(false, [.int .i64]), (false, [.int .i64])] row [.agg [.c (.int .i64 x1), .c (.int .i64 x2), .c (.int .i64 x3), .c (.int .i64 x4)], .c (.sl [.int .i64, .int .i64, .int .i64, .int .i64] x5)] := by
  refine ⟨?_⟩
  revert h
  generalize hE : stdE P tbl = E
  intro h
  unfold vc15 at h
  cbv
  have c9 := h.1
  refine ⟨c9, ?_⟩
  replace h := h.2 _ rfl
  refine ⟨fun hb10 => ?_, fun hb10 => ?_⟩
  · replace h := h.t hb10
    have h : _ = row := h
    subst h
    repeat' (first | exact trivial | exact rfl | refine And.intro ?_ ?_)
  · replace h := h.f hb10
    have c11 := h.1
    refine ⟨c11, ?_⟩
    replace h := h.2 _ rfl
    have c12 := h.1
    refine ⟨c12, ?_⟩
    replace h := h.2 _ rfl
    have h : _ = row := h
    subst h
    repeat' (first | exact trivial | exact rfl | refine And.intro ?_ ?_)
def vc39 (E : Env) (x1 : List (List C)) (Q : List C → Prop) : Prop :=
  LoopP2 (fun (i2 : Int) (i3 : Int) (K4 : (Int) → (Int) → Prop) =>
  Br (E.lt i3 17179869184)
    ((E.pok 55 [(false, [.int .i64])] [.c (.sl [.int .i64, .int .i64, .int .i64, .int .i64] x1), .c (.bool true), .c (.int .i64 i3)]) ∧ (∀ r5 : Nat → C, r5 = E.res 55 [.c (.sl [.int .i64, .int .i64, .int .i64, .int .i64] x1), .c (.bool true), .c (.int .i64 i3)] → 
      (LoopP2 (fun (i6 : Int) (i7 : Int) (K8 : (Int) → (Int) → Prop) =>
      Br (E.lt i7 12000)
        ((E.pok 55 [(false, [.int .i64])] [.c (.sl [.int .i64, .int .i64, .int .i64, .int .i64] x1), .c (.bool false), .c (.int .i64 i7)]) ∧ (∀ r9 : Nat → C, r9 = E.res 55 [.c (.sl [.int .i64, .int .i64, .int .i64, .int .i64] x1), .c (.bool false), .c (.int .i64 i7)] → 
          ((E.pok 56 [(false, [.bool])] [.c (.sl [.int .i64, .int .i64, .int .i64, .int .i64] x1), .c (.int .i64 i7), .c (.int .i64 i3)]) ∧ (∀ r10 : Nat → C, r10 = E.res 56 [.c (.sl [.int .i64, .int .i64, .int .i64, .int .i64] x1), .c (.int .i64 i7), .c (.int .i64 i3)] → 
          (Br (E.gb (r10 0))
          (K8 ((E.sub .i64 (E.add .i64 i6 (E.min (E.gi (r9 0)) 12000)) i7)) ((E.min (E.gi (r9 0)) 12000)))
          (K8 (i6) ((E.min (E.gi (r9 0)) 12000))))))))
        (K4 ((E.add .i64 i2 (E.mul .i64 i6 (E.sub .i64 (E.gi (r5 0)) i3)))) ((E.gi (r5 0)))))
      (0) (0))))
    (Q [.int .i64 i2]))
  (0) (0)
theorem w39 {P : Program} {tbl : FuncId → List A → List C}  {x1 : List (List C)} {row : List C} (h : vc39 (stdE P tbl) x1 fun c => c = row) : WPg P tbl rf39 [(false, [.int .i64])] row [.c (.sl [.int .i64, .int .i64, .int .i64, .int .i64] x1)] := by
  refine ⟨?_⟩
  revert h
  generalize hE : stdE P tbl = E
  intro h
  unfold vc39 at h
  cbv
  obtain ⟨I, μ, h0, hI⟩ := h
  refine LoopW.inv (fun R R' s h k => RCode.wp_mono _ R R' s h k) (fun p : Int × Int => (fun (i2 : Int) (i3 : Int) => (⟨[.c (.sl [.int .i64, .int .i64, .int .i64, .int .i64] x1), .u, .u, .c (.int .i64 i2), .c (.int .i64 i3), .u, .u, .u, .u, .u, .u, .u, .u, .u, .u, .u, .u, .u, .u, .u, .u, .u, .u, .u, .u, .u, .u, .u, .u, .u, .u, .u, .u, .u, .u, .u, .u, .u, .u], []⟩ : St)) p.1 p.2) (fun p => I p.1 p.2) (fun p => μ p.1 p.2) (_, _) h0 ?_ ?_
  · refine GSt.ren [] rfl rfl rfl (fun i hi => absurd hi (Nat.not_lt_zero i)) (Nat.zero_le _) ?_ ?_
    all_goals (repeat' (first | exact trivial | exact Or.inl rfl | exact Or.inr rfl | refine And.intro ?_ ?_))
  · rintro ⟨i2, i3⟩ h
    replace h := hI i2 i3 h
    cbv
    refine ⟨fun hb11 => ?_, fun hb11 => ?_⟩
    · replace h := h.t hb11
      have c12 := h.1
      refine ⟨c12, ?_⟩
      replace h := h.2 _ rfl
      obtain ⟨I, μ, h0, hI⟩ := h
      refine LoopW.inv (fun R R' s h k => RCode.wp_mono _ R R' s h k) (fun p : Int × Int => (fun (i6 : Int) (i7 : Int) => (⟨[.c (.sl [.int .i64, .int .i64, .int .i64, .int .i64] x1), .u, .u, .c (.int .i64 i2), .c (.int .i64 i3), .c (.int .i64 (E.gi ((E.res 55 [.c (.sl [.int .i64, .int .i64, .int .i64, .int .i64] x1), .c (.bool true), .c (.int .i64 i3)]) 0))), .c (.int .i64 i6), .c (.int .i64 i7), .u, .u, .u, .u, .u, .u, .u, .u, .u, .u, .u, .u, .u, .u, .u, .u, .u, .u, .u, .u, .u, .u, .u, .u, .u, .u, .u, .u, .u, .u, .u], []⟩ : St)) p.1 p.2) (fun p => I p.1 p.2) (fun p => μ p.1 p.2) (_, _) h0 ?_ ?_
      · refine GSt.ren [] rfl rfl rfl (fun i hi => absurd hi (Nat.not_lt_zero i)) (Nat.zero_le _) ?_ ?_
        all_goals (repeat' (first | exact trivial | exact Or.inl rfl | exact Or.inr rfl | refine And.intro ?_ ?_))
      · rintro ⟨i6, i7⟩ h
        replace h := hI i6 i7 h
        cbv
        refine ⟨fun hb13 => ?_, fun hb13 => ?_⟩
        · replace h := h.t hb13
          have c14 := h.1
          refine ⟨c14, ?_⟩
          replace h := h.2 _ rfl
          have c15 := h.1
          refine ⟨c15, ?_⟩
          replace h := h.2 _ rfl
          refine ⟨fun hb16 => ?_, fun hb16 => ?_⟩
          · replace h := h.t hb16
            refine ⟨(_, _), h.1, GSt.ren [] rfl rfl rfl (fun i hi => absurd hi (Nat.not_lt_zero i)) (Nat.zero_le _) ?_ ?_, h.2⟩
            all_goals (repeat' (first | exact trivial | exact Or.inl rfl | exact Or.inr rfl | refine And.intro ?_ ?_))
          · replace h := h.f hb16
            refine ⟨(_, _), h.1, GSt.ren [] rfl rfl rfl (fun i hi => absurd hi (Nat.not_lt_zero i)) (Nat.zero_le _) ?_ ?_, h.2⟩
            all_goals (repeat' (first | exact trivial | exact Or.inl rfl | exact Or.inr rfl | refine And.intro ?_ ?_))
        · replace h := h.f hb13
          refine ⟨(_, _), h.1, GSt.ren [] rfl rfl rfl (fun i hi => absurd hi (Nat.not_lt_zero i)) (Nat.zero_le _) ?_ ?_, h.2⟩
          all_goals (repeat' (first | exact trivial | exact Or.inl rfl | exact Or.inr rfl | refine And.intro ?_ ?_))
    · replace h := h.f hb11
      have h : _ = row := h
      subst h
      repeat' (first | exact trivial | exact rfl | refine And.intro ?_ ?_)
def vc55 (E : Env) (x1 : List (List C)) (x2 : Bool) (x3 : Int) (Q : List C → Prop) : Prop :=
  LoopP2 (fun (i4 : Int) (i5 : Int) (K6 : (Int) → (Int) → Prop) =>
  Br (E.lt i5 (E.len x1))
    (((E.le 0 i5) = true) ∧ 
      (Br x2
      (Br (E.lt x3 (E.gi (E.cell x1 i5 2)))
        (Br (E.lt x3 (E.gi (E.cell x1 i5 3)))
          (K6 ((E.min (E.min i4 (E.gi (E.cell x1 i5 2))) (E.gi (E.cell x1 i5 3)))) ((E.add .i64 i5 1)))
          (K6 ((E.min i4 (E.gi (E.cell x1 i5 2)))) ((E.add .i64 i5 1))))
        (Br (E.lt x3 (E.gi (E.cell x1 i5 3)))
          (K6 ((E.min i4 (E.gi (E.cell x1 i5 3)))) ((E.add .i64 i5 1)))
          (K6 (i4) ((E.add .i64 i5 1)))))
      (Br (E.lt x3 (E.gi (E.cell x1 i5 0)))
        (Br (E.lt x3 (E.gi (E.cell x1 i5 1)))
          (K6 ((E.min (E.min i4 (E.gi (E.cell x1 i5 0))) (E.gi (E.cell x1 i5 1)))) ((E.add .i64 i5 1)))
          (K6 ((E.min i4 (E.gi (E.cell x1 i5 0)))) ((E.add .i64 i5 1))))
        (Br (E.lt x3 (E.gi (E.cell x1 i5 1)))
          (K6 ((E.min i4 (E.gi (E.cell x1 i5 1)))) ((E.add .i64 i5 1)))
          (K6 (i4) ((E.add .i64 i5 1)))))))
    (Q [.int .i64 i4]))
  (17179869184) (0)
theorem w55 {P : Program} {tbl : FuncId → List A → List C}  {x1 : List (List C)} {x2 : Bool} {x3 : Int} {row : List C} (h : vc55 (stdE P tbl) x1 x2 x3 fun c => c = row) : WPg P tbl rf55 [(false, [.int .i64])] row [.c (.sl [.int .i64, .int .i64, .int .i64, .int .i64] x1), .c (.bool x2), .c (.int .i64 x3)] := by
  refine ⟨?_⟩
  revert h
  generalize hE : stdE P tbl = E
  intro h
  unfold vc55 at h
  cbv
  obtain ⟨I, μ, h0, hI⟩ := h
  refine LoopW.inv (fun R R' s h k => RCode.wp_mono _ R R' s h k) (fun p : Int × Int => (fun (i4 : Int) (i5 : Int) => (⟨[.c (.sl [.int .i64, .int .i64, .int .i64, .int .i64] x1), .c (.bool x2), .c (.int .i64 x3), .u, .u, .u, .u, .c (.int .i64 i4), .c (.int .i64 i5), .u, .u, .u, .u, .u, .u, .u, .u, .u, .u, .u, .u, .u, .u, .u, .u, .u, .u, .u, .u, .u, .u, .u, .u, .u, .u, .u, .u, .u, .u, .u, .u, .u, .u, .u, .u, .u, .u, .u, .u, .u, .u], []⟩ : St)) p.1 p.2) (fun p => I p.1 p.2) (fun p => μ p.1 p.2) (_, _) h0 ?_ ?_
  · refine GSt.ren [] rfl rfl rfl (fun i hi => absurd hi (Nat.not_lt_zero i)) (Nat.zero_le _) ?_ ?_
    all_goals (repeat' (first | exact trivial | exact Or.inl rfl | exact Or.inr rfl | refine And.intro ?_ ?_))
  · rintro ⟨i4, i5⟩ h
    replace h := hI i4 i5 h
    cbv
    refine ⟨fun hb7 => ?_, fun hb7 => ?_⟩
    · replace h := h.t hb7
      have c8 := h.1
      refine ⟨c8, ?_⟩
      replace h := h.2
      refine ⟨hb7, ?_⟩
      refine ⟨c8, ?_⟩
      refine ⟨hb7, ?_⟩
      refine ⟨fun hb9 => ?_, fun hb9 => ?_⟩
      · replace h := h.t hb9
        refine ⟨c8, ?_⟩
        refine ⟨hb7, ?_⟩
        refine ⟨c8, ?_⟩
        refine ⟨hb7, ?_⟩
        refine ⟨fun hb10 => ?_, fun hb10 => ?_⟩
        · replace h := h.t hb10
          refine ⟨fun hb11 => ?_, fun hb11 => ?_⟩
          · replace h := h.t hb11
            refine ⟨(_, _), h.1, GSt.ren [] rfl rfl rfl (fun i hi => absurd hi (Nat.not_lt_zero i)) (Nat.zero_le _) ?_ ?_, h.2⟩
            all_goals (repeat' (first | exact trivial | exact Or.inl rfl | exact Or.inr rfl | refine And.intro ?_ ?_))
          · replace h := h.f hb11
            refine ⟨(_, _), h.1, GSt.ren [] rfl rfl rfl (fun i hi => absurd hi (Nat.not_lt_zero i)) (Nat.zero_le _) ?_ ?_, h.2⟩
            all_goals (repeat' (first | exact trivial | exact Or.inl rfl | exact Or.inr rfl | refine And.intro ?_ ?_))
        · replace h := h.f hb10
          refine ⟨fun hb12 => ?_, fun hb12 => ?_⟩
          · replace h := h.t hb12
            refine ⟨(_, _), h.1, GSt.ren [] rfl rfl rfl (fun i hi => absurd hi (Nat.not_lt_zero i)) (Nat.zero_le _) ?_ ?_, h.2⟩
            all_goals (repeat' (first | exact trivial | exact Or.inl rfl | exact Or.inr rfl | refine And.intro ?_ ?_))
          · replace h := h.f hb12
            refine ⟨(_, _), h.1, GSt.ren [] rfl rfl rfl (fun i hi => absurd hi (Nat.not_lt_zero i)) (Nat.zero_le _) ?_ ?_, h.2⟩
            all_goals (repeat' (first | exact trivial | exact Or.inl rfl | exact Or.inr rfl | refine And.intro ?_ ?_))
      · replace h := h.f hb9
        refine ⟨fun hb13 => ?_, fun hb13 => ?_⟩
        · replace h := h.t hb13
          refine ⟨fun hb14 => ?_, fun hb14 => ?_⟩
          · replace h := h.t hb14
            refine ⟨(_, _), h.1, GSt.ren [] rfl rfl rfl (fun i hi => absurd hi (Nat.not_lt_zero i)) (Nat.zero_le _) ?_ ?_, h.2⟩
            all_goals (repeat' (first | exact trivial | exact Or.inl rfl | exact Or.inr rfl | refine And.intro ?_ ?_))
          · replace h := h.f hb14
            refine ⟨(_, _), h.1, GSt.ren [] rfl rfl rfl (fun i hi => absurd hi (Nat.not_lt_zero i)) (Nat.zero_le _) ?_ ?_, h.2⟩
            all_goals (repeat' (first | exact trivial | exact Or.inl rfl | exact Or.inr rfl | refine And.intro ?_ ?_))
        · replace h := h.f hb13
          refine ⟨fun hb15 => ?_, fun hb15 => ?_⟩
          · replace h := h.t hb15
            refine ⟨(_, _), h.1, GSt.ren [] rfl rfl rfl (fun i hi => absurd hi (Nat.not_lt_zero i)) (Nat.zero_le _) ?_ ?_, h.2⟩
            all_goals (repeat' (first | exact trivial | exact Or.inl rfl | exact Or.inr rfl | refine And.intro ?_ ?_))
          · replace h := h.f hb15
            refine ⟨(_, _), h.1, GSt.ren [] rfl rfl rfl (fun i hi => absurd hi (Nat.not_lt_zero i)) (Nat.zero_le _) ?_ ?_, h.2⟩
            all_goals (repeat' (first | exact trivial | exact Or.inl rfl | exact Or.inr rfl | refine And.intro ?_ ?_))
    · replace h := h.f hb7
      have h : _ = row := h
      subst h
      repeat' (first | exact trivial | exact rfl | refine And.intro ?_ ?_)
def vc56 (E : Env) (x1 : List (List C)) (x2 : Int) (x3 : Int) (Q : List C → Prop) : Prop :=
  LoopP1 (fun (i4 : Int) (K5 : (Int) → Prop) =>
  Br (E.lt i4 (E.len x1))
    (((E.le 0 i4) = true) ∧ 
      (Br (E.bite (E.bite (E.bite (E.le (E.gi (E.cell x1 i4 0)) x2) (E.lt x2 (E.gi (E.cell x1 i4 1))) false) (E.le (E.gi (E.cell x1 i4 2)) x3) false) (E.lt x3 (E.gi (E.cell x1 i4 3))) false)
      (Q [.bool true])
      (K5 ((E.add .i64 i4 1)))))
    (Q [.bool false]))
  (0)
theorem w56 {P : Program} {tbl : FuncId → List A → List C}  {x1 : List (List C)} {x2 : Int} {x3 : Int} {row : List C} (h : vc56 (stdE P tbl) x1 x2 x3 fun c => c = row) : WPg P tbl rf56 [(false, [.bool])] row [.c (.sl [.int .i64, .int .i64, .int .i64, .int .i64] x1), .c (.int .i64 x2), .c (.int .i64 x3)] := by
  refine ⟨?_⟩
  revert h
  generalize hE : stdE P tbl = E
  intro h
  unfold vc56 at h
  cbv
  obtain ⟨I, μ, h0, hI⟩ := h
  refine LoopW.inv (fun R R' s h k => RCode.wp_mono _ R R' s h k) (fun p : Int => (fun (i4 : Int) => (⟨[.c (.sl [.int .i64, .int .i64, .int .i64, .int .i64] x1), .c (.int .i64 x2), .c (.int .i64 x3), .u, .u, .u, .u, .c (.int .i64 i4), .u, .u, .u, .u, .u, .u, .u, .u, .u, .u, .u, .u, .u, .u, .u, .u, .u, .u, .u, .u, .u, .u, .u, .u, .u, .u, .u, .u, .u, .u, .u, .u, .u, .u, .u, .u, .u, .u, .u, .u], []⟩ : St)) p) (fun p => I p) (fun p => μ p) _ h0 ?_ ?_
  · refine GSt.ren [] rfl rfl rfl (fun i hi => absurd hi (Nat.not_lt_zero i)) (Nat.zero_le _) ?_ ?_
    all_goals (repeat' (first | exact trivial | exact Or.inl rfl | exact Or.inr rfl | refine And.intro ?_ ?_))
  · rintro i4 h
    replace h := hI i4 h
    cbv
    refine ⟨fun hb6 => ?_, fun hb6 => ?_⟩
    · replace h := h.t hb6
      have c7 := h.1
      refine ⟨c7, ?_⟩
      replace h := h.2
      refine ⟨hb6, ?_⟩
      refine ⟨⟨fun hh => hh⟩, ?_⟩
      refine ⟨⟨fun hh => hh⟩, ?_⟩
      refine ⟨⟨fun _ => c7⟩, ?_⟩
      refine ⟨⟨fun _ => hb6⟩, ?_⟩
      refine ⟨⟨fun hh => hh⟩, ?_⟩
      refine ⟨⟨fun hh => hh⟩, ?_⟩
      refine ⟨⟨fun hh => hh⟩, ?_⟩
      refine ⟨⟨fun hh => hh⟩, ?_⟩
      refine ⟨⟨fun hh => hh⟩, ?_⟩
      refine ⟨⟨fun hh => hh⟩, ?_⟩
      refine ⟨⟨fun hh => hh⟩, ?_⟩
      refine ⟨⟨fun _ => c7⟩, ?_⟩
      refine ⟨⟨fun _ => hb6⟩, ?_⟩
      refine ⟨⟨fun hh => hh⟩, ?_⟩
      refine ⟨⟨fun hh => hh⟩, ?_⟩
      refine ⟨⟨fun hh => hh⟩, ?_⟩
      refine ⟨⟨fun hh => hh⟩, ?_⟩
      refine ⟨⟨fun hh => hh⟩, ?_⟩
      refine ⟨⟨fun hh => hh⟩, ?_⟩
      refine ⟨⟨fun hh => hh⟩, ?_⟩
      refine ⟨⟨fun _ => c7⟩, ?_⟩
      refine ⟨⟨fun _ => hb6⟩, ?_⟩
      refine ⟨⟨fun hh => hh⟩, ?_⟩
      refine ⟨⟨fun hh => hh⟩, ?_⟩
      refine ⟨⟨fun hh => hh⟩, ?_⟩
      refine ⟨⟨fun hh => hh⟩, ?_⟩
      refine ⟨⟨fun hh => hh⟩, ?_⟩
      refine ⟨fun hb8 => ?_, fun hb8 => ?_⟩
      · replace h := h.t hb8
        have h : _ = row := h
        subst h
        repeat' (first | exact trivial | exact rfl | refine And.intro ?_ ?_)
      · replace h := h.f hb8
        refine ⟨_, h.1, GSt.ren [] rfl rfl rfl (fun i hi => absurd hi (Nat.not_lt_zero i)) (Nat.zero_le _) ?_ ?_, h.2⟩
        all_goals (repeat' (first | exact trivial | exact Or.inl rfl | exact Or.inr rfl | refine And.intro ?_ ?_))
    · replace h := h.f hb6
      have h : _ = row := h
      subst h
      repeat' (first | exact trivial | exact rfl | refine And.intro ?_ ?_)
def vc3 (E : Env) (x1 : List (List C)) (x2 : Int) (x3 : Int) (x4 : Int) (x5 : Int) (Q : List C → Prop) : Prop :=
  Br (E.lt 70 (E.len x1))
  ((E.pok 11 [(false, [.bool])] []) ∧ (∀ r6 : Nat → C, r6 = E.res 11 [] → 
    (Q [.bool (E.gb (r6 0))])))
  ((E.pok 12 [(false, [.int .i64]), (false, [.int .i64])] [.c (.sl [.int .i64, .int .i64, .int .i64, .int .i64] x1)]) ∧ (∀ r7 : Nat → C, r7 = E.res 12 [.c (.sl [.int .i64, .int .i64, .int .i64, .int .i64] x1)] → 
    ((E.pok 13 [(false, [.int .i64]), (false, [.int .i64])] [.c (.sl [.int .i64, .int .i64, .int .i64, .int .i64] x1)]) ∧ (∀ r8 : Nat → C, r8 = E.res 13 [.c (.sl [.int .i64, .int .i64, .int .i64, .int .i64] x1)] → 
    ((E.pok 14 [(false, [.int .i64]), (false, [.int .i64])] [.agg [.c (.int .i64 x2), .c (.int .i64 x3), .c (.int .i64 x4), .c (.int .i64 x5)], .c (.sl [.int .i64, .int .i64, .int .i64, .int .i64] x1)]) ∧ (∀ r9 : Nat → C, r9 = E.res 14 [.agg [.c (.int .i64 x2), .c (.int .i64 x3), .c (.int .i64 x4), .c (.int .i64 x5)], .c (.sl [.int .i64, .int .i64, .int .i64, .int .i64] x1)] → 
    ((E.pok 15 [(false, [.int .i64]), (false, [.int .i64])] [.agg [.c (.int .i64 x2), .c (.int .i64 x3), .c (.int .i64 x4), .c (.int .i64 x5)], .c (.sl [.int .i64, .int .i64, .int .i64, .int .i64] x1)]) ∧ (∀ r10 : Nat → C, r10 = E.res 15 [.agg [.c (.int .i64 x2), .c (.int .i64 x3), .c (.int .i64 x4), .c (.int .i64 x5)], .c (.sl [.int .i64, .int .i64, .int .i64, .int .i64] x1)] → 
    ((Imp (E.bite (E.bite (E.bite (E.eq (E.gi (r7 0)) (E.gi (r8 0))) (E.eq (E.gi (r7 1)) (E.gi (r8 1))) false) (E.eq (E.gi (r9 0)) (E.gi (r10 0))) false) (E.eq (E.gi (r9 1)) (E.gi (r10 1))) false) (E.pok 11 [(false, [.bool])] [])) ∧ (∀ r11 : Nat → C, r11 = E.res 11 [] → 
    (Q [.bool (E.bite (E.bite (E.bite (E.bite (E.eq (E.gi (r7 0)) (E.gi (r8 0))) (E.eq (E.gi (r7 1)) (E.gi (r8 1))) false) (E.eq (E.gi (r9 0)) (E.gi (r10 0))) false) (E.eq (E.gi (r9 1)) (E.gi (r10 1))) false) (E.gb (r11 0)) false)])))))))))))
theorem w3 {P : Program} {tbl : FuncId → List A → List C}  {x1 : List (List C)} {x2 : Int} {x3 : Int} {x4 : Int} {x5 : Int} {row : List C} (h : vc3 (stdE P tbl) x1 x2 x3 x4 x5 fun c => c = row) : WPg P tbl rf3 [(false, [.bool])] row [.c (.sl [.int .i64, .int .i64, .int .i64, .int .i64] x1), .agg [.c (.int .i64 x2), .c (.int .i64 x3), .c (.int .i64 x4), .c (.int .i64 x5)]] := by
  refine ⟨?_⟩
  revert h
  generalize hE : stdE P tbl = E
  intro h
  unfold vc3 at h
  cbv
  refine ⟨fun hb12 => ?_, fun hb12 => ?_⟩
  · replace h := h.t hb12
    have c13 := h.1
    refine ⟨c13, ?_⟩
    replace h := h.2 _ rfl
    have h : _ = row := h
    subst h
    repeat' (first | exact trivial | exact rfl | refine And.intro ?_ ?_)
  · replace h := h.f hb12
    have c14 := h.1
    refine ⟨c14, ?_⟩
    replace h := h.2 _ rfl
    have c15 := h.1
    refine ⟨c15, ?_⟩
    replace h := h.2 _ rfl
    have c16 := h.1
    refine ⟨c16, ?_⟩
    replace h := h.2 _ rfl
    have c17 := h.1
    refine ⟨c17, ?_⟩
    replace h := h.2 _ rfl
    refine ⟨⟨fun hh => hh⟩, ?_⟩
    refine ⟨⟨fun hh => hh⟩, ?_⟩
    refine ⟨⟨fun hh => hh⟩, ?_⟩
    refine ⟨⟨fun hh => hh⟩, ?_⟩
    refine ⟨⟨fun hh => hh⟩, ?_⟩
    refine ⟨⟨fun hh => hh⟩, ?_⟩
    refine ⟨⟨fun hh => hh⟩, ?_⟩
    refine ⟨⟨fun hh => hh⟩, ?_⟩
    refine ⟨⟨fun hh => hh⟩, ?_⟩
    have c18 := h.1
    refine ⟨c18, ?_⟩
    replace h := h.2 _ rfl
    refine ⟨⟨fun hh => hh⟩, ?_⟩
    have h : _ = row := h
    subst h
    repeat' (first | exact trivial | exact rfl | refine And.intro ?_ ?_)
def vc8 (E : Env) (x1 : Int) (x2 : Int) (x3 : Int) (x4 : Int) (x5 : Int) (x6 : Int) (x7 : Int) (x8 : Int) (Q : List C → Prop) : Prop :=
  (E.pok 26 [(false, [.int .i64]), (false, [.int .i64])] [.agg [.c (.int .i64 x1), .c (.int .i64 x2), .c (.int .i64 x3), .c (.int .i64 x4)]]) ∧ (∀ r9 : Nat → C, r9 = E.res 26 [.agg [.c (.int .i64 x1), .c (.int .i64 x2), .c (.int .i64 x3), .c (.int .i64 x4)]] → 
  ((E.pok 26 [(false, [.int .i64]), (false, [.int .i64])] [.agg [.c (.int .i64 x5), .c (.int .i64 x6), .c (.int .i64 x7), .c (.int .i64 x8)]]) ∧ (∀ r10 : Nat → C, r10 = E.res 26 [.agg [.c (.int .i64 x5), .c (.int .i64 x6), .c (.int .i64 x7), .c (.int .i64 x8)]] → 
  ((E.pok 28 [(true, [.int .i64, .int .i64, .int .i64, .int .i64]), (false, [.bool])] [.agg [.c (.int .i64 x1), .c (.int .i64 x2), .c (.int .i64 x3), .c (.int .i64 x4)], .agg [.c (.int .i64 x5), .c (.int .i64 x6), .c (.int .i64 x7), .c (.int .i64 x8)]]) ∧ (∀ r11 : Nat → C, r11 = E.res 28 [.agg [.c (.int .i64 x1), .c (.int .i64 x2), .c (.int .i64 x3), .c (.int .i64 x4)], .agg [.c (.int .i64 x5), .c (.int .i64 x6), .c (.int .i64 x7), .c (.int .i64 x8)]] → 
  ((E.pok 28 [(true, [.int .i64, .int .i64, .int .i64, .int .i64]), (false, [.bool])] [.agg [.c (.int .i64 x5), .c (.int .i64 x6), .c (.int .i64 x7), .c (.int .i64 x8)], .agg [.c (.int .i64 x1), .c (.int .i64 x2), .c (.int .i64 x3), .c (.int .i64 x4)]]) ∧ (∀ r12 : Nat → C, r12 = E.res 28 [.agg [.c (.int .i64 x5), .c (.int .i64 x6), .c (.int .i64 x7), .c (.int .i64 x8)], .agg [.c (.int .i64 x1), .c (.int .i64 x2), .c (.int .i64 x3), .c (.int .i64 x4)]] → 
  ((Imp (E.not (E.bite (E.not (E.and (E.eq (E.gi (r11 0)) (E.gi (r12 0))) (E.and (E.eq (E.gi (r11 1)) (E.gi (r12 1))) (E.and (E.eq (E.gi (r11 2)) (E.gi (r12 2))) (E.and (E.eq (E.gi (r11 3)) (E.gi (r12 3))) true))))) true (E.not (E.beq (E.gb (r11 4)) (E.gb (r12 4)))))) (E.pok 24 [(false, [.bool])] [.c (.sl [.int .i64, .int .i64, .int .i64, .int .i64] [[.int .i64 x1, .int .i64 x2, .int .i64 x3, .int .i64 x4], [.int .i64 x5, .int .i64 x6, .int .i64 x7, .int .i64 x8]])])) ∧ (∀ r13 : Nat → C, r13 = E.res 24 [.c (.sl [.int .i64, .int .i64, .int .i64, .int .i64] [[.int .i64 x1, .int .i64 x2, .int .i64 x3, .int .i64 x4], [.int .i64 x5, .int .i64 x6, .int .i64 x7, .int .i64 x8]])] → 
  ((Imp (E.and (E.not (E.bite (E.bite (E.not (E.and (E.eq (E.gi (r11 0)) (E.gi (r12 0))) (E.and (E.eq (E.gi (r11 1)) (E.gi (r12 1))) (E.and (E.eq (E.gi (r11 2)) (E.gi (r12 2))) (E.and (E.eq (E.gi (r11 3)) (E.gi (r12 3))) true))))) true (E.not (E.beq (E.gb (r11 4)) (E.gb (r12 4))))) true (E.beq (E.gb (r11 4)) (E.gb (r13 0))))) (E.gb (r11 4))) (E.pok 32 [(false, [.bool])] [.agg [.c (.int .i64 (E.gi (r11 0))), .c (.int .i64 (E.gi (r11 1))), .c (.int .i64 (E.gi (r11 2))), .c (.int .i64 (E.gi (r11 3)))], .agg [.c (.int .i64 x1), .c (.int .i64 x2), .c (.int .i64 x3), .c (.int .i64 x4)]])) ∧ (∀ r14 : Nat → C, r14 = E.res 32 [.agg [.c (.int .i64 (E.gi (r11 0))), .c (.int .i64 (E.gi (r11 1))), .c (.int .i64 (E.gi (r11 2))), .c (.int .i64 (E.gi (r11 3)))], .agg [.c (.int .i64 x1), .c (.int .i64 x2), .c (.int .i64 x3), .c (.int .i64 x4)]] → 
  ((Imp (E.and (E.and (E.not (E.bite (E.bite (E.not (E.and (E.eq (E.gi (r11 0)) (E.gi (r12 0))) (E.and (E.eq (E.gi (r11 1)) (E.gi (r12 1))) (E.and (E.eq (E.gi (r11 2)) (E.gi (r12 2))) (E.and (E.eq (E.gi (r11 3)) (E.gi (r12 3))) true))))) true (E.not (E.beq (E.gb (r11 4)) (E.gb (r12 4))))) true (E.beq (E.gb (r11 4)) (E.gb (r13 0))))) (E.gb (r11 4))) (E.not (E.not (E.gb (r14 0))))) (E.pok 32 [(false, [.bool])] [.agg [.c (.int .i64 (E.gi (r11 0))), .c (.int .i64 (E.gi (r11 1))), .c (.int .i64 (E.gi (r11 2))), .c (.int .i64 (E.gi (r11 3)))], .agg [.c (.int .i64 x5), .c (.int .i64 x6), .c (.int .i64 x7), .c (.int .i64 x8)]])) ∧ (∀ r15 : Nat → C, r15 = E.res 32 [.agg [.c (.int .i64 (E.gi (r11 0))), .c (.int .i64 (E.gi (r11 1))), .c (.int .i64 (E.gi (r11 2))), .c (.int .i64 (E.gi (r11 3)))], .agg [.c (.int .i64 x5), .c (.int .i64 x6), .c (.int .i64 x7), .c (.int .i64 x8)]] → 
  ((Imp (E.and (E.not (E.bite (E.bite (E.not (E.and (E.eq (E.gi (r11 0)) (E.gi (r12 0))) (E.and (E.eq (E.gi (r11 1)) (E.gi (r12 1))) (E.and (E.eq (E.gi (r11 2)) (E.gi (r12 2))) (E.and (E.eq (E.gi (r11 3)) (E.gi (r12 3))) true))))) true (E.not (E.beq (E.gb (r11 4)) (E.gb (r12 4))))) true (E.beq (E.gb (r11 4)) (E.gb (r13 0))))) (E.gb (r11 4))) (Imp (E.not (E.not (E.gb (r14 0)))) ((E.and (E.and (E.not (E.bite (E.bite (E.not (E.and (E.eq (E.gi (r11 0)) (E.gi (r12 0))) (E.and (E.eq (E.gi (r11 1)) (E.gi (r12 1))) (E.and (E.eq (E.gi (r11 2)) (E.gi (r12 2))) (E.and (E.eq (E.gi (r11 3)) (E.gi (r12 3))) true))))) true (E.not (E.beq (E.gb (r11 4)) (E.gb (r12 4))))) true (E.beq (E.gb (r11 4)) (E.gb (r13 0))))) (E.gb (r11 4))) (E.not (E.not (E.gb (r14 0))))) = true))) ∧ 
  ((Imp (E.not (E.bite (E.bite (E.not (E.and (E.eq (E.gi (r11 0)) (E.gi (r12 0))) (E.and (E.eq (E.gi (r11 1)) (E.gi (r12 1))) (E.and (E.eq (E.gi (r11 2)) (E.gi (r12 2))) (E.and (E.eq (E.gi (r11 3)) (E.gi (r12 3))) true))))) true (E.not (E.beq (E.gb (r11 4)) (E.gb (r12 4))))) true (E.beq (E.gb (r11 4)) (E.gb (r13 0))))) (Imp (E.gb (r11 4)) ((E.and (E.not (E.bite (E.bite (E.not (E.and (E.eq (E.gi (r11 0)) (E.gi (r12 0))) (E.and (E.eq (E.gi (r11 1)) (E.gi (r12 1))) (E.and (E.eq (E.gi (r11 2)) (E.gi (r12 2))) (E.and (E.eq (E.gi (r11 3)) (E.gi (r12 3))) true))))) true (E.not (E.beq (E.gb (r11 4)) (E.gb (r12 4))))) true (E.beq (E.gb (r11 4)) (E.gb (r13 0))))) (E.gb (r11 4))) = true))) ∧ 
  (Br (E.bite (E.bite (E.bite (E.not (E.and (E.eq (E.gi (r11 0)) (E.gi (r12 0))) (E.and (E.eq (E.gi (r11 1)) (E.gi (r12 1))) (E.and (E.eq (E.gi (r11 2)) (E.gi (r12 2))) (E.and (E.eq (E.gi (r11 3)) (E.gi (r12 3))) true))))) true (E.not (E.beq (E.gb (r11 4)) (E.gb (r12 4))))) true (E.beq (E.gb (r11 4)) (E.gb (r13 0)))) true (E.bite (E.gb (r11 4)) (E.bite (E.not (E.gb (r14 0))) true (E.not (E.gb (r15 0)))) false))
  (Q [.bool false])
  (Br (E.bite (E.not (E.eq (E.gi (r9 1)) 0)) true (E.not (E.eq (E.gi (r10 1)) 0)))
    ((E.pok 11 [(false, [.bool])] []) ∧ (∀ r16 : Nat → C, r16 = E.res 11 [] → 
      (Q [.bool (E.gb (r16 0))])))
    ((E.pok 12 [(false, [.int .i64]), (false, [.int .i64])] [.c (.sl [.int .i64, .int .i64, .int .i64, .int .i64] [[.int .i64 x1, .int .i64 x2, .int .i64 x3, .int .i64 x4], [.int .i64 x5, .int .i64 x6, .int .i64 x7, .int .i64 x8]])]) ∧ (∀ r17 : Nat → C, r17 = E.res 12 [.c (.sl [.int .i64, .int .i64, .int .i64, .int .i64] [[.int .i64 x1, .int .i64 x2, .int .i64 x3, .int .i64 x4], [.int .i64 x5, .int .i64 x6, .int .i64 x7, .int .i64 x8]])] → 
      ((E.pok 26 [(false, [.int .i64]), (false, [.int .i64])] [.agg [.c (.int .i64 (E.gi (r11 0))), .c (.int .i64 (E.gi (r11 1))), .c (.int .i64 (E.gi (r11 2))), .c (.int .i64 (E.gi (r11 3)))]]) ∧ (∀ r18 : Nat → C, r18 = E.res 26 [.agg [.c (.int .i64 (E.gi (r11 0))), .c (.int .i64 (E.gi (r11 1))), .c (.int .i64 (E.gi (r11 2))), .c (.int .i64 (E.gi (r11 3)))]] → 
      ((Imp (E.bite (E.bite (E.bite (E.eq (E.gi (r17 1)) 0) (E.eq (E.gi (r18 1)) 0) false) (E.eq (E.gi (r17 0)) (E.sub .i64 (E.add .i64 (E.gi (r9 0)) (E.gi (r10 0))) (E.gi (r18 0)))) false) (E.beq (E.lt 0 (E.gi (r18 0))) (E.gb (r11 4))) false) (E.pok 11 [(false, [.bool])] [])) ∧ (∀ r19 : Nat → C, r19 = E.res 11 [] → 
      (Q [.bool (E.bite (E.bite (E.bite (E.bite (E.eq (E.gi (r17 1)) 0) (E.eq (E.gi (r18 1)) 0) false) (E.eq (E.gi (r17 0)) (E.sub .i64 (E.add .i64 (E.gi (r9 0)) (E.gi (r10 0))) (E.gi (r18 0)))) false) (E.beq (E.lt 0 (E.gi (r18 0))) (E.gb (r11 4))) false) (E.gb (r19 0)) false)]))))))))))))))))))))))))
theorem w8 {P : Program} {tbl : FuncId → List A → List C}  {x1 : Int} {x2 : Int} {x3 : Int} {x4 : Int} {x5 : Int} {x6 : Int} {x7 : Int} {x8 : Int} {row : List C} (h : vc8 (stdE P tbl) x1 x2 x3 x4 x5 x6 x7 x8 fun c => c = row) : WPg P tbl rf8 [(false, [.bool])] row [.agg [.c (.int .i64 x1), .c (.int .i64 x2), .c (.int .i64 x3), .c (.int .i64 x4)], .agg [.c (.int .i64 x5), .c (.int .i64 x6), .c (.int .i64 x7), .c (.int .i64 x8)]] := by
  refine ⟨?_⟩
  revert h
  generalize hE : stdE P tbl = E
  intro h
  unfold vc8 at h
  cbv
  have c20 := h.1
  refine ⟨c20, ?_⟩
  replace h := h.2 _ rfl
  have c21 := h.1
  refine ⟨c21, ?_⟩
  replace h := h.2 _ rfl
  have c22 := h.1
  refine ⟨c22, ?_⟩
  replace h := h.2 _ rfl
  have c23 := h.1
  refine ⟨c23, ?_⟩
  replace h := h.2 _ rfl
  refine ⟨⟨fun hh => hh⟩, ?_⟩
  refine ⟨⟨fun hh => hh⟩, ?_⟩
  refine ⟨⟨fun hh => hh⟩, ?_⟩
  refine ⟨⟨fun hh => hh⟩, ?_⟩
  refine ⟨⟨fun hh => hh⟩, ?_⟩
  refine ⟨⟨fun hh => hh⟩, ?_⟩
  have c24 := h.1
  refine ⟨c24, ?_⟩
  replace h := h.2 _ rfl
  refine ⟨⟨fun hh => hh⟩, ?_⟩
  refine ⟨⟨fun hh => hh⟩, ?_⟩
  refine ⟨⟨fun hh => hh⟩, ?_⟩
  refine ⟨⟨fun hh => hh⟩, ?_⟩
  refine ⟨⟨fun hh => hh⟩, ?_⟩
  refine ⟨⟨fun hh => hh⟩, ?_⟩
  have c25 := h.1
  refine ⟨c25, ?_⟩
  replace h := h.2 _ rfl
  refine ⟨⟨fun hh => hh⟩, ?_⟩
  refine ⟨⟨fun hh => hh⟩, ?_⟩
  refine ⟨⟨fun hh => hh⟩, ?_⟩
  refine ⟨⟨fun hh => hh⟩, ?_⟩
  have c26 := h.1
  refine ⟨c26, ?_⟩
  replace h := h.2 _ rfl
  refine ⟨⟨fun hh => hh⟩, ?_⟩
  refine ⟨⟨fun hh => hh⟩, ?_⟩
  have c27 := h.1
  refine ⟨c27, ?_⟩
  replace h := h.2
  refine ⟨⟨fun hh => hh⟩, ?_⟩
  have c28 := h.1
  refine ⟨c28, ?_⟩
  replace h := h.2
  refine ⟨⟨fun hh => hh⟩, ?_⟩
  refine ⟨fun hb29 => ?_, fun hb29 => ?_⟩
  · replace h := h.t hb29
    have h : _ = row := h
    subst h
    repeat' (first | exact trivial | exact rfl | refine And.intro ?_ ?_)
  · replace h := h.f hb29
    refine ⟨⟨fun hh => hh⟩, ?_⟩
    refine ⟨⟨fun hh => hh⟩, ?_⟩
    refine ⟨fun hb30 => ?_, fun hb30 => ?_⟩
    · replace h := h.t hb30
      have c31 := h.1
      refine ⟨c31, ?_⟩
      replace h := h.2 _ rfl
      have h : _ = row := h
      subst h
      repeat' (first | exact trivial | exact rfl | refine And.intro ?_ ?_)
    · replace h := h.f hb30
      have c32 := h.1
      refine ⟨c32, ?_⟩
      replace h := h.2 _ rfl
      have c33 := h.1
      refine ⟨c33, ?_⟩
      replace h := h.2 _ rfl
      refine ⟨⟨fun hh => hh⟩, ?_⟩
      refine ⟨⟨fun hh => hh⟩, ?_⟩
      refine ⟨⟨fun hh => hh⟩, ?_⟩
      refine ⟨⟨fun hh => hh⟩, ?_⟩
      refine ⟨⟨fun hh => hh⟩, ?_⟩
      refine ⟨⟨fun hh => hh⟩, ?_⟩
      refine ⟨⟨fun hh => hh⟩, ?_⟩
      refine ⟨⟨fun hh => hh⟩, ?_⟩
      refine ⟨⟨fun hh => hh⟩, ?_⟩
      refine ⟨⟨fun hh => hh⟩, ?_⟩
      refine ⟨⟨fun hh => hh⟩, ?_⟩
      refine ⟨⟨fun hh => hh⟩, ?_⟩
      refine ⟨⟨fun hh => hh⟩, ?_⟩
      have c34 := h.1
      refine ⟨c34, ?_⟩
      replace h := h.2 _ rfl
      refine ⟨⟨fun hh => hh⟩, ?_⟩
      have h : _ = row := h
      subst h
      repeat' (first | exact trivial | exact rfl | refine And.intro ?_ ?_)
def vc7 (E : Env) (x1 : List (List C)) (x2 : Int) (x3 : Int) (x4 : Int) (x5 : Int) (Q : List C → Prop) : Prop :=
  Br (E.lt 40 (E.len x1))
  ((E.pok 11 [(false, [.bool])] []) ∧ (∀ r6 : Nat → C, r6 = E.res 11 [] → 
    (Q [.bool (E.gb (r6 0))])))
  ((E.pok 12 [(false, [.int .i64]), (false, [.int .i64])] [.c (.sl [.int .i64, .int .i64, .int .i64, .int .i64] x1)]) ∧ (∀ r7 : Nat → C, r7 = E.res 12 [.c (.sl [.int .i64, .int .i64, .int .i64, .int .i64] x1)] → 
    ((E.pok 26 [(false, [.int .i64]), (false, [.int .i64])] [.agg [.c (.int .i64 x2), .c (.int .i64 x3), .c (.int .i64 x4), .c (.int .i64 x5)]]) ∧ (∀ r8 : Nat → C, r8 = E.res 26 [.agg [.c (.int .i64 x2), .c (.int .i64 x3), .c (.int .i64 x4), .c (.int .i64 x5)]] → 
    ((E.pok 14 [(false, [.int .i64]), (false, [.int .i64])] [.agg [.c (.int .i64 x2), .c (.int .i64 x3), .c (.int .i64 x4), .c (.int .i64 x5)], .c (.sl [.int .i64, .int .i64, .int .i64, .int .i64] x1)]) ∧ (∀ r9 : Nat → C, r9 = E.res 14 [.agg [.c (.int .i64 x2), .c (.int .i64 x3), .c (.int .i64 x4), .c (.int .i64 x5)], .c (.sl [.int .i64, .int .i64, .int .i64, .int .i64] x1)] → 
    ((E.pok 16 [(false, [.sl [.int .i64, .int .i64, .int .i64, .int .i64]]), (false, [.int .i64])] [.c (.sl [.int .i64, .int .i64, .int .i64, .int .i64] x1), .agg [.c (.int .i64 x2), .c (.int .i64 x3), .c (.int .i64 x4), .c (.int .i64 x5)]]) ∧ (∀ r10 : Nat → C, r10 = E.res 16 [.c (.sl [.int .i64, .int .i64, .int .i64, .int .i64] x1), .agg [.c (.int .i64 x2), .c (.int .i64 x3), .c (.int .i64 x4), .c (.int .i64 x5)]] → 
    (Br (E.not (E.eq (E.gi (r8 1)) 0))
    ((Imp (E.bite (E.bite (E.eq (E.gi (r8 1)) 1) (E.eq (E.gi (r9 1)) (E.gi (r8 1))) false) (E.eq (E.gi (r10 1)) (E.gi (r8 1))) false) (E.pok 11 [(false, [.bool])] [])) ∧ (∀ r11 : Nat → C, r11 = E.res 11 [] → 
      (Q [.bool (E.bite (E.bite (E.bite (E.eq (E.gi (r8 1)) 1) (E.eq (E.gi (r9 1)) (E.gi (r8 1))) false) (E.eq (E.gi (r10 1)) (E.gi (r8 1))) false) (E.gb (r11 0)) false)])))
    (Br (E.not (E.eq (E.gi (r7 1)) 0))
      ((Imp (E.bite (E.eq (E.gi (r9 1)) (E.gi (r7 1))) (E.eq (E.gi (r10 1)) (E.gi (r7 1))) false) (E.pok 11 [(false, [.bool])] [])) ∧ (∀ r12 : Nat → C, r12 = E.res 11 [] → 
        (Q [.bool (E.bite (E.bite (E.eq (E.gi (r9 1)) (E.gi (r7 1))) (E.eq (E.gi (r10 1)) (E.gi (r7 1))) false) (E.gb (r12 0)) false)])))
      (((E.le (E.len x1) 4398046511104) = true) ∧ 
        (((E.le (E.pl (E.len x1) (E.len [[.int .i64 x2, .int .i64 x3, .int .i64 x4, .int .i64 x5]])) 4398046511104) = true) ∧ 
        ((E.pok 12 [(false, [.int .i64]), (false, [.int .i64])] [.c (.sl [.int .i64, .int .i64, .int .i64, .int .i64] (E.cat x1 [[.int .i64 x2, .int .i64 x3, .int .i64 x4, .int .i64 x5]]))]) ∧ (∀ r13 : Nat → C, r13 = E.res 12 [.c (.sl [.int .i64, .int .i64, .int .i64, .int .i64] (E.cat x1 [[.int .i64 x2, .int .i64 x3, .int .i64 x4, .int .i64 x5]]))] → 
        ((E.pok 12 [(false, [.int .i64]), (false, [.int .i64])] [.c (.sl [.int .i64, .int .i64, .int .i64, .int .i64] (E.gl (r10 0)))]) ∧ (∀ r14 : Nat → C, r14 = E.res 12 [.c (.sl [.int .i64, .int .i64, .int .i64, .int .i64] (E.gl (r10 0)))] → 
        (Br (E.bite (E.bite (E.bite (E.not (E.eq (E.gi (r9 1)) 0)) true (E.not (E.eq (E.gi (r10 1)) 0))) true (E.not (E.eq (E.gi (r13 1)) 0))) true (E.not (E.eq (E.gi (r14 1)) 0)))
        (Q [.bool false])
        ((Imp (E.bite (E.bite (E.bite (E.eq (E.gi (r13 0)) (E.add .i64 (E.gi (r7 0)) (E.gi (r9 0)))) (E.eq (E.gi (r9 0)) (E.sub .i64 (E.gi (r8 0)) (E.gi (r14 0)))) false) (E.le 0 (E.gi (r9 0))) false) (E.le (E.gi (r7 0)) 206158430208000) false) (E.pok 11 [(false, [.bool])] [])) ∧ (∀ r15 : Nat → C, r15 = E.res 11 [] → 
          (Q [.bool (E.bite (E.bite (E.bite (E.bite (E.eq (E.gi (r13 0)) (E.add .i64 (E.gi (r7 0)) (E.gi (r9 0)))) (E.eq (E.gi (r9 0)) (E.sub .i64 (E.gi (r8 0)) (E.gi (r14 0)))) false) (E.le 0 (E.gi (r9 0))) false) (E.le (E.gi (r7 0)) 206158430208000) false) (E.gb (r15 0)) false)]))))))))))))))))))))
theorem w7 {P : Program} {tbl : FuncId → List A → List C}  {x1 : List (List C)} {x2 : Int} {x3 : Int} {x4 : Int} {x5 : Int} {row : List C} (h : vc7 (stdE P tbl) x1 x2 x3 x4 x5 fun c => c = row) : WPg P tbl rf7 [(false, [.bool])] row [.c (.sl [.int .i64, .int .i64, .int .i64, .int .i64] x1), .agg [.c (.int .i64 x2), .c (.int .i64 x3), .c (.int .i64 x4), .c (.int .i64 x5)]] := by
  refine ⟨?_⟩
  revert h
  generalize hE : stdE P tbl = E
  intro h
  unfold vc7 at h
  cbv
  refine ⟨fun hb16 => ?_, fun hb16 => ?_⟩
  · replace h := h.t hb16
    have c17 := h.1
    refine ⟨c17, ?_⟩
    replace h := h.2 _ rfl
    have h : _ = row := h
    subst h
    repeat' (first | exact trivial | exact rfl | refine And.intro ?_ ?_)
  · replace h := h.f hb16
    have c18 := h.1
    refine ⟨c18, ?_⟩
    replace h := h.2 _ rfl
    have c19 := h.1
    refine ⟨c19, ?_⟩
    replace h := h.2 _ rfl
    have c20 := h.1
    refine ⟨c20, ?_⟩
    replace h := h.2 _ rfl
    have c21 := h.1
    refine ⟨c21, ?_⟩
    replace h := h.2 _ rfl
    refine ⟨fun hb22 => ?_, fun hb22 => ?_⟩
    · replace h := h.t hb22
      refine ⟨⟨fun hh => hh⟩, ?_⟩
      refine ⟨⟨fun hh => hh⟩, ?_⟩
      refine ⟨⟨fun hh => hh⟩, ?_⟩
      refine ⟨⟨fun hh => hh⟩, ?_⟩
      refine ⟨⟨fun hh => hh⟩, ?_⟩
      refine ⟨⟨fun hh => hh⟩, ?_⟩
      have c23 := h.1
      refine ⟨c23, ?_⟩
      replace h := h.2 _ rfl
      refine ⟨⟨fun hh => hh⟩, ?_⟩
      have h : _ = row := h
      subst h
      repeat' (first | exact trivial | exact rfl | refine And.intro ?_ ?_)
    · replace h := h.f hb22
      refine ⟨fun hb24 => ?_, fun hb24 => ?_⟩
      · replace h := h.t hb24
        refine ⟨⟨fun hh => hh⟩, ?_⟩
        refine ⟨⟨fun hh => hh⟩, ?_⟩
        refine ⟨⟨fun hh => hh⟩, ?_⟩
        have c25 := h.1
        refine ⟨c25, ?_⟩
        replace h := h.2 _ rfl
        refine ⟨⟨fun hh => hh⟩, ?_⟩
        have h : _ = row := h
        subst h
        repeat' (first | exact trivial | exact rfl | refine And.intro ?_ ?_)
      · replace h := h.f hb24
        have c26 := h.1
        refine ⟨c26, ?_⟩
        replace h := h.2
        have c27 := h.1
        refine ⟨c27, ?_⟩
        replace h := h.2
        have c28 := h.1
        refine ⟨c28, ?_⟩
        replace h := h.2 _ rfl
        have c29 := h.1
        refine ⟨c29, ?_⟩
        replace h := h.2 _ rfl
        refine ⟨⟨fun hh => hh⟩, ?_⟩
        refine ⟨⟨fun hh => hh⟩, ?_⟩
        refine ⟨⟨fun hh => hh⟩, ?_⟩
        refine ⟨⟨fun hh => hh⟩, ?_⟩
        refine ⟨⟨fun hh => hh⟩, ?_⟩
        refine ⟨⟨fun hh => hh⟩, ?_⟩
        refine ⟨fun hb30 => ?_, fun hb30 => ?_⟩
        · replace h := h.t hb30
          have h : _ = row := h
          subst h
          repeat' (first | exact trivial | exact rfl | refine And.intro ?_ ?_)
        · replace h := h.f hb30
          refine ⟨⟨fun hh => hh⟩, ?_⟩
          refine ⟨⟨fun hh => hh⟩, ?_⟩
          refine ⟨⟨fun hh => hh⟩, ?_⟩
          refine ⟨⟨fun hh => hh⟩, ?_⟩
          refine ⟨⟨fun hh => hh⟩, ?_⟩
          refine ⟨⟨fun hh => hh⟩, ?_⟩
          refine ⟨⟨fun hh => hh⟩, ?_⟩
          refine ⟨⟨fun hh => hh⟩, ?_⟩
          refine ⟨⟨fun hh => hh⟩, ?_⟩
          have c31 := h.1
          refine ⟨c31, ?_⟩
          replace h := h.2 _ rfl
          refine ⟨⟨fun hh => hh⟩, ?_⟩
          have h : _ = row := h
          subst h
          repeat' (first | exact trivial | exact rfl | refine And.intro ?_ ?_)
def vc9 (E : Env) (x1 : List (List C)) (Q : List C → Prop) : Prop :=
  Br (E.lt 40 (E.len x1))
  ((E.pok 11 [(false, [.bool])] []) ∧ (∀ r2 : Nat → C, r2 = E.res 11 [] → 
    (Q [.bool (E.gb (r2 0))])))
  ((E.pok 12 [(false, [.int .i64]), (false, [.int .i64])] [.c (.sl [.int .i64, .int .i64, .int .i64, .int .i64] x1)]) ∧ (∀ r3 : Nat → C, r3 = E.res 12 [.c (.sl [.int .i64, .int .i64, .int .i64, .int .i64] x1)] → 
    (Br (E.not (E.eq (E.gi (r3 1)) 0))
    ((Imp (E.bite (E.eq (E.gi (r3 1)) 1) (E.eq (E.gi (r3 0)) 0) false) (E.pok 11 [(false, [.bool])] [])) ∧ (∀ r4 : Nat → C, r4 = E.res 11 [] → 
      (Q [.bool (E.bite (E.bite (E.eq (E.gi (r3 1)) 1) (E.eq (E.gi (r3 0)) 0) false) (E.gb (r4 0)) false)])))
    (LoopP2 (fun (i5 : Int) (i6 : Int) (K7 : (Int) → (Int) → Prop) =>
      Br (E.lt i6 (E.len x1))
        (((E.le 0 i6) = true) ∧ 
          ((E.pok 26 [(false, [.int .i64]), (false, [.int .i64])] [.agg [.c (.int .i64 (E.gi (E.cell x1 i6 0))), .c (.int .i64 (E.gi (E.cell x1 i6 1))), .c (.int .i64 (E.gi (E.cell x1 i6 2))), .c (.int .i64 (E.gi (E.cell x1 i6 3)))]]) ∧ (∀ r8 : Nat → C, r8 = E.res 26 [.agg [.c (.int .i64 (E.gi (E.cell x1 i6 0))), .c (.int .i64 (E.gi (E.cell x1 i6 1))), .c (.int .i64 (E.gi (E.cell x1 i6 2))), .c (.int .i64 (E.gi (E.cell x1 i6 3)))]] → 
          (Br (E.not (E.eq (E.gi (r8 1)) 0))
          (Q [.bool false])
          (K7 ((E.add .i64 i5 (E.gi (r8 0)))) ((E.add .i64 i6 1)))))))
        ((Imp (E.le (E.gi (r3 0)) i5) (E.pok 24 [(false, [.bool])] [.c (.sl [.int .i64, .int .i64, .int .i64, .int .i64] x1)])) ∧ (∀ r9 : Nat → C, r9 = E.res 24 [.c (.sl [.int .i64, .int .i64, .int .i64, .int .i64] x1)] → 
          ((Imp (E.bite (E.le (E.gi (r3 0)) i5) (E.beq (E.eq (E.gi (r3 0)) i5) (E.gb (r9 0))) false) (E.pok 11 [(false, [.bool])] [])) ∧ (∀ r10 : Nat → C, r10 = E.res 11 [] → 
          (Q [.bool (E.bite (E.bite (E.le (E.gi (r3 0)) i5) (E.beq (E.eq (E.gi (r3 0)) i5) (E.gb (r9 0))) false) (E.gb (r10 0)) false)]))))))
      (0) (0)))))
theorem w9 {P : Program} {tbl : FuncId → List A → List C}  {x1 : List (List C)} {row : List C} (h : vc9 (stdE P tbl) x1 fun c => c = row) : WPg P tbl rf9 [(false, [.bool])] row [.c (.sl [.int .i64, .int .i64, .int .i64, .int .i64] x1)] := by
  refine ⟨?_⟩
  revert h
  generalize hE : stdE P tbl = E
  intro h
  unfold vc9 at h
  cbv
  refine ⟨fun hb11 => ?_, fun hb11 => ?_⟩
  · replace h := h.t hb11
    have c12 := h.1
    refine ⟨c12, ?_⟩
    replace h := h.2 _ rfl
    have h : _ = row := h
    subst h
    repeat' (first | exact trivial | exact rfl | refine And.intro ?_ ?_)
  · replace h := h.f hb11
    have c13 := h.1
    refine ⟨c13, ?_⟩
    replace h := h.2 _ rfl
    refine ⟨fun hb14 => ?_, fun hb14 => ?_⟩
    · replace h := h.t hb14
      refine ⟨⟨fun hh => hh⟩, ?_⟩
      refine ⟨⟨fun hh => hh⟩, ?_⟩
      have c15 := h.1
      refine ⟨c15, ?_⟩
      replace h := h.2 _ rfl
      refine ⟨⟨fun hh => hh⟩, ?_⟩
      have h : _ = row := h
      subst h
      repeat' (first | exact trivial | exact rfl | refine And.intro ?_ ?_)
    · replace h := h.f hb14
      obtain ⟨I, μ, h0, hI⟩ := h
      refine LoopW.inv (fun R R' s h k => RCode.wp_mono _ R R' s h k) (fun p : Int × Int => (fun (i5 : Int) (i6 : Int) => (⟨[.c (.sl [.int .i64, .int .i64, .int .i64, .int .i64] x1), .u, .u, .c (.int .i64 (E.gi ((E.res 12 [.c (.sl [.int .i64, .int .i64, .int .i64, .int .i64] x1)]) 0))), .u, .c (.int .i64 i5), .c (.int .i64 i6), .u, .u, .u, .u, .u, .u, .u, .u, .u, .u, .u, .u, .u, .u, .u, .u, .u, .u, .u, .u, .u, .u, .u, .u, .u, .u, .u, .u, .u, .u, .u, .u, .u, .u, .u, .u, .u, .u, .u, .u, .u, .u, .u, .u, .u, .u, .u, .u, .u, .u, .u, .u, .u, .u, .u], []⟩ : St)) p.1 p.2) (fun p => I p.1 p.2) (fun p => μ p.1 p.2) (_, _) h0 ?_ ?_
      · refine GSt.ren [] rfl rfl rfl (fun i hi => absurd hi (Nat.not_lt_zero i)) (Nat.zero_le _) ?_ ?_
        all_goals (repeat' (first | exact trivial | exact Or.inl rfl | exact Or.inr rfl | refine And.intro ?_ ?_))
      · rintro ⟨i5, i6⟩ h
        replace h := hI i5 i6 h
        cbv
        refine ⟨fun hb16 => ?_, fun hb16 => ?_⟩
        · replace h := h.t hb16
          have c17 := h.1
          refine ⟨c17, ?_⟩
          replace h := h.2
          refine ⟨hb16, ?_⟩
          have c18 := h.1
          refine ⟨c18, ?_⟩
          replace h := h.2 _ rfl
          refine ⟨fun hb19 => ?_, fun hb19 => ?_⟩
          · replace h := h.t hb19
            have h : _ = row := h
            subst h
            repeat' (first | exact trivial | exact rfl | refine And.intro ?_ ?_)
          · replace h := h.f hb19
            refine ⟨(_, _), h.1, GSt.ren [] rfl rfl rfl (fun i hi => absurd hi (Nat.not_lt_zero i)) (Nat.zero_le _) ?_ ?_, h.2⟩
            all_goals (repeat' (first | exact trivial | exact Or.inl rfl | exact Or.inr rfl | refine And.intro ?_ ?_))
        · replace h := h.f hb16
          refine ⟨⟨fun hh => hh⟩, ?_⟩
          refine ⟨⟨fun hh => hh⟩, ?_⟩
          refine ⟨⟨fun hh => hh⟩, ?_⟩
          have c20 := h.1
          refine ⟨c20, ?_⟩
          replace h := h.2 _ rfl
          refine ⟨⟨fun hh => hh⟩, ?_⟩
          refine ⟨⟨fun hh => hh⟩, ?_⟩
          refine ⟨⟨fun hh => hh⟩, ?_⟩
          have c21 := h.1
          refine ⟨c21, ?_⟩
          replace h := h.2 _ rfl
          refine ⟨⟨fun hh => hh⟩, ?_⟩
          have h : _ = row := h
          subst h
          repeat' (first | exact trivial | exact rfl | refine And.intro ?_ ?_)
end Go.Proofs.Ytjckgkhojjnkdaa.V
