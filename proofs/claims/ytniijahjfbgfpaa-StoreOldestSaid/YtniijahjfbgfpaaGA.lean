/- Warehouses: the walks of the functions. No conditions. -/
import Derived.Test.YtniijahjfbgfpaaCtr
set_option linter.unusedVariables false
set_option linter.unusedSimpArgs false
namespace Go.Proofs.Ytniijahjfbgfpaa.V
open Go Go.Eng
set_option maxRecDepth 1000000
set_option maxHeartbeats 4000000
/-- (*papermill papermillref54.Store).Free -/
def rf16 : RFn := ⟨(.seq (.ops 0 [⟨(some 2), (.v (.mv (.k (.c .nil)))), none, []⟩]) (.seq (.ops 0 [⟨(some 3), (.v (.mv (.k (.c .nil)))), none, []⟩]) (.seq (.seq (.ops 0 [⟨(some 5), (.v (.mv (.t 0))), none, []⟩, ⟨(some 6), (.v (.eqn 1 false (.t 5))), none, []⟩]) (.cond (.t 6) (.seq (.ops 0 [⟨(some 7), (.v (.mv (.t 3))), none, []⟩, ⟨(some 2), (.v (.mv (.t 7))), none, []⟩]) .ret) .skip)) (.seq (.seq (.ops 0 [⟨(some 4), (.v (.mv (.k (.c (.int .i64 0))))), none, []⟩]) (.block 0 (.loop (.seq (.seq (.ops 0 [⟨(some 8), (.v (.mv (.t 4))), none, []⟩, ⟨(some 9), (.v (.mv (.t 0))), none, []⟩, ⟨(some 10), (.v (.nc (.t 9))), none, []⟩, ⟨(some 11), (.v (.fa 0 (.t 10))), none, []⟩, ⟨(some 12), (.v (.ld (.t 11))), none, []⟩, ⟨(some 13), (.v (.lenS (.t 12))), none, []⟩, ⟨(some 14), (.v (.bin .lss (.t 8) (.t 13))), none, []⟩]) (.cond (.t 14) .skip (.exit 0))) (.seq (.block 1 (.any 2 [⟨0, ⟨[], ⟨(some 17), (.v (.mv (.t 3))), none, []⟩⟩⟩, ⟨1, ⟨[], ⟨(some 18), (.v (.mv (.t 0))), none, []⟩⟩⟩, ⟨2, ⟨[1], ⟨(some 19), (.v (.nc (.t 18))), none, []⟩⟩⟩, ⟨3, ⟨[2, 1], ⟨(some 20), (.v (.fa 0 (.t 19))), none, []⟩⟩⟩, ⟨4, ⟨[3, 2, 1], ⟨(some 21), (.v (.ld (.t 20))), none, []⟩⟩⟩, ⟨5, ⟨[], ⟨(some 22), (.v (.mv (.t 4))), none, []⟩⟩⟩, ⟨6, ⟨[4, 3, 2, 1, 5], ⟨(some 23), (.v (.ia 2 (.t 21) (.t 22))), none, []⟩⟩⟩, ⟨7, ⟨[6, 4, 3, 2, 1, 5], ⟨(some 24), (.v (.fa 0 (.t 23))), none, []⟩⟩⟩, ⟨8, ⟨[7, 6, 4, 3, 2, 1, 5], ⟨(some 25), (.v (.ld (.t 24))), none, []⟩⟩⟩, ⟨9, ⟨[], ⟨(some 26), (.v (.mv (.t 0))), none, []⟩⟩⟩, ⟨10, ⟨[9], ⟨(some 27), (.v (.nc (.t 26))), none, []⟩⟩⟩, ⟨11, ⟨[10, 9], ⟨(some 28), (.v (.lda 3 (.t 27))), none, []⟩⟩⟩, ⟨12, ⟨[], ⟨(some 29), (.v (.mv (.t 4))), none, []⟩⟩⟩, ⟨13, ⟨[11, 10, 9, 12], ⟨(some 30), (.v (.det 33 [⟨false, [(.int .i64)]⟩] [(.t 28), (.t 29)])), none, []⟩⟩⟩, ⟨14, ⟨[8, 7, 6, 4, 3, 2, 1, 5, 13, 11, 10, 9, 12], ⟨(some 31), (.v (.bin .sub (.t 25) (.t 30))), none, []⟩⟩⟩, ⟨15, ⟨[14, 8, 7, 6, 4, 3, 2, 1, 5, 13, 11, 10, 9, 12], ⟨(some 32), (.v (.bsl 0 3 [(.int .i64)] [(.t 31)])), none, []⟩⟩⟩, ⟨16, ⟨[0, 15, 14, 8, 7, 6, 4, 3, 2, 1, 5, 13, 11, 10, 9, 12], ⟨(some 33), (.v (.app 1 3 [(.int .i64)] 17592186044416 (.t 17) (.t 32))), none, []⟩⟩⟩, ⟨17, ⟨[16, 0, 15, 14, 8, 7, 6, 4, 3, 2, 1, 5, 13, 11, 10, 9, 12], ⟨(some 3), (.v (.mv (.t 33))), none, []⟩⟩⟩])) (.ops 0 [⟨(some 15), (.v (.mv (.t 4))), none, []⟩, ⟨(some 16), (.v (.bin .add (.t 15) (.k (.c (.int .i64 1))))), none, []⟩, ⟨(some 4), (.v (.mv (.t 16))), none, []⟩])))))) (.seq (.ops 0 [⟨(some 34), (.v (.mv (.t 3))), none, []⟩, ⟨(some 2), (.v (.mv (.t 34))), none, []⟩]) .ret))))), 35, [(.t 2)]⟩
theorem h16 : fnR Try.prog DD 16 = some rf16 := by kernel_rfl
/-- (*papermill store.Store).Bay -/
def rf17 : RFn := ⟨(.seq (.ops 0 [⟨(some 4), (.v (.mv (.k (.c .nil)))), none, []⟩, ⟨(some 5), (.v (.mv (.k (.c (.int .i64 0))))), none, []⟩]) (.seq (.seq (.ops 0 [⟨(some 12), (.v (.mv (.t 0))), none, []⟩, ⟨(some 13), (.v (.eqn 1 false (.t 12))), none, []⟩]) (.cond (.t 13) (.seq (.ops 0 [⟨(some 4), (.v (.mv (.k (.c .nil)))), none, []⟩, ⟨(some 5), (.v (.mv (.k (.c (.int .i64 14))))), none, []⟩]) .ret) .skip)) (.seq (.seq (.ops 0 [⟨(some 14), (.v (.mv (.t 0))), none, []⟩, ⟨(some 15), (.v (.mv (.t 1))), none, []⟩, ⟨(some 16), (.v (.det 34 [⟨false, [.bool]⟩] [(.t 14), (.t 15)])), none, []⟩, ⟨(some 17), (.v (.un .not (.t 16))), none, []⟩]) (.cond (.t 17) (.seq (.ops 0 [⟨(some 4), (.v (.mv (.k (.c .nil)))), none, []⟩, ⟨(some 5), (.v (.mv (.k (.c (.int .i64 7))))), none, []⟩]) .ret) .skip)) (.seq (.ops 0 [⟨(some 6), (.v (.mv (.k (.c .nil)))), none, []⟩]) (.seq (.rng ⟨0, [⟨(some 18), (.v (.mv (.t 0))), none, []⟩, ⟨(some 19), (.v (.nc (.t 18))), none, []⟩, ⟨(some 20), (.v (.fa 1 (.t 19))), none, []⟩, ⟨(some 21), (.v (.ld (.t 20))), none, []⟩], 21, 22, 23, 24, 0, 1, 1, 25, [⟨(some 26), (.v (.ext (.t 25) 1)), none, []⟩, ⟨(some 8), (.v (.alloc 0 73 [(.c (.int .i64 0)), (.c (.int .i64 0)), (.c (.int .i64 0)), (.c (.int .i64 0)), (.c (.int .i64 0))])), none, []⟩, ⟨none, (.v (.st 5 (.t 8) (.t 26))), none, []⟩]⟩ (.seq (.ops 0 [⟨(some 27), (.v (.fa 0 (.t 8))), none, []⟩, ⟨(some 28), (.v (.fa 1 (.t 27))), none, []⟩, ⟨(some 29), (.v (.ld (.t 28))), none, []⟩, ⟨(some 30), (.v (.mv (.t 1))), none, []⟩, ⟨(some 31), (.v (.bin .eql (.t 29) (.t 30))), none, []⟩]) (.cond (.t 31) (.ops 2 [⟨(some 32), (.v (.mv (.t 6))), none, []⟩, ⟨(some 33), (.v (.lda 5 (.t 8))), none, []⟩, ⟨(some 34), (.v (.bsl 0 73 [(.int .i64), (.int .i64), (.int .i64), (.int .i64), (.int .i64)] [(.t 33)])), none, []⟩, ⟨(some 35), (.v (.app 1 73 [(.int .i64), (.int .i64), (.int .i64), (.int .i64), (.int .i64)] 3518437208883 (.t 32) (.t 34))), none, []⟩, ⟨(some 6), (.v (.mv (.t 35))), none, []⟩]) .skip))) (.seq (.ops 0 [⟨(some 36), (.v (.mv (.t 6))), none, []⟩, ⟨(some 37), (.h (.call 35 [(.t 36), (.k (.fn 36 []))])), none, []⟩]) (.seq (.ops 0 [⟨(some 9), (.v (.mv (.k (.c .nil)))), none, []⟩]) (.seq (.seq (.ops 0 [⟨(some 38), (.v (.mv (.t 6))), none, []⟩, ⟨(some 39), (.v (.lenS (.t 38))), none, []⟩, ⟨(some 40), (.v (.mv (.k (.c (.int .i64 0))))), none, []⟩]) (.block 2 (.loop (.seq (.ops 0 [⟨(some 41), (.v (.bin .lss (.t 40) (.t 39))), none, []⟩]) (.seq (.cond (.t 41) .skip (.exit 2)) (.seq (.block 3 (.seq (.ops 1 [⟨(some 42), (.v (.ia 5 (.t 38) (.t 40))), none, []⟩, ⟨(some 43), (.v (.lda 5 (.t 42))), none, []⟩, ⟨(some 11), (.v (.alloc 0 73 [(.c (.int .i64 0)), (.c (.int .i64 0)), (.c (.int .i64 0)), (.c (.int .i64 0)), (.c (.int .i64 0))])), none, []⟩, ⟨none, (.v (.st 5 (.t 11) (.t 43))), none, []⟩]) (.ops 2 [⟨(some 44), (.v (.mv (.t 9))), none, []⟩, ⟨(some 45), (.v (.fa 0 (.t 11))), none, []⟩, ⟨(some 46), (.v (.lda 3 (.t 45))), none, []⟩, ⟨(some 47), (.v (.bsl 0 44 [(.int .i64), (.int .i64), (.int .i64)] [(.t 46)])), none, []⟩, ⟨(some 48), (.v (.app 1 44 [(.int .i64), (.int .i64), (.int .i64)] 5864062014805 (.t 44) (.t 47))), none, []⟩, ⟨(some 9), (.v (.mv (.t 48))), none, []⟩]))) (.ops 0 [⟨(some 49), (.v (.bin .add (.t 40) (.k (.c (.int .i64 1))))), none, []⟩, ⟨(some 40), (.v (.mv (.t 49))), none, []⟩]))))))) (.seq (.ops 0 [⟨(some 50), (.v (.mv (.t 9))), none, []⟩, ⟨(some 4), (.v (.mv (.t 50))), none, []⟩, ⟨(some 5), (.v (.mv (.k (.c (.int .i64 0))))), none, []⟩]) .ret))))))))), 51, [(.t 4), (.t 5)]⟩
theorem h17 : fnR Try.prog DD 17 = some rf17 := by kernel_rfl
/-- (*papermill papermillref54.Store).Bay -/
def rf18 : RFn := ⟨(.seq (.ops 0 [⟨(some 4), (.v (.mv (.k (.c .nil)))), none, []⟩, ⟨(some 5), (.v (.mv (.k (.c (.int .i64 0))))), none, []⟩]) (.seq (.seq (.ops 0 [⟨(some 8), (.v (.mv (.t 0))), none, []⟩, ⟨(some 9), (.v (.eqn 1 false (.t 8))), none, []⟩]) (.cond (.t 9) (.seq (.ops 0 [⟨(some 4), (.v (.mv (.k (.c .nil)))), none, []⟩, ⟨(some 5), (.v (.mv (.k (.c (.int .i64 14))))), none, []⟩]) .ret) .skip)) (.seq (.seq (.ops 0 [⟨(some 10), (.v (.mv (.t 0))), none, []⟩, ⟨(some 11), (.v (.nc (.t 10))), none, []⟩, ⟨(some 12), (.v (.lda 3 (.t 11))), none, []⟩, ⟨(some 13), (.v (.mv (.t 1))), none, []⟩, ⟨(some 14), (.v (.det 38 [⟨false, [.bool]⟩] [(.t 12), (.t 13)])), none, []⟩, ⟨(some 15), (.v (.un .not (.t 14))), none, []⟩]) (.cond (.t 15) (.seq (.ops 0 [⟨(some 4), (.v (.mv (.k (.c .nil)))), none, []⟩, ⟨(some 5), (.v (.mv (.k (.c (.int .i64 7))))), none, []⟩]) .ret) .skip)) (.seq (.ops 0 [⟨(some 6), (.v (.mv (.k (.c .nil)))), none, []⟩]) (.seq (.seq (.ops 0 [⟨(some 7), (.v (.mv (.k (.c (.int .i64 0))))), none, []⟩]) (.block 0 (.loop (.seq (.seq (.ops 0 [⟨(some 16), (.v (.mv (.t 7))), none, []⟩, ⟨(some 17), (.v (.mv (.t 0))), none, []⟩, ⟨(some 18), (.v (.nc (.t 17))), none, []⟩, ⟨(some 19), (.v (.fa 1 (.t 18))), none, []⟩, ⟨(some 20), (.v (.ld (.t 19))), none, []⟩, ⟨(some 21), (.v (.lenS (.t 20))), none, []⟩, ⟨(some 22), (.v (.bin .lss (.t 16) (.t 21))), none, []⟩]) (.cond (.t 22) .skip (.exit 0))) (.seq (.block 1 (.seq (.ops 0 [⟨(some 25), (.v (.mv (.t 0))), none, []⟩, ⟨(some 26), (.v (.nc (.t 25))), none, []⟩, ⟨(some 27), (.v (.fa 1 (.t 26))), none, []⟩, ⟨(some 28), (.v (.ld (.t 27))), none, []⟩, ⟨(some 29), (.v (.mv (.t 7))), none, []⟩, ⟨(some 30), (.v (.ia 4 (.t 28) (.t 29))), none, []⟩, ⟨(some 31), (.v (.fa 2 (.t 30))), none, []⟩, ⟨(some 32), (.v (.ld (.t 31))), none, []⟩, ⟨(some 33), (.v (.mv (.t 1))), none, []⟩, ⟨(some 34), (.v (.bin .eql (.t 32) (.t 33))), none, []⟩]) (.cond (.t 34) (.ops 2 [⟨(some 35), (.v (.mv (.t 6))), none, []⟩, ⟨(some 36), (.v (.mv (.t 0))), none, []⟩, ⟨(some 37), (.v (.nc (.t 36))), none, []⟩, ⟨(some 38), (.v (.fa 1 (.t 37))), none, []⟩, ⟨(some 39), (.v (.ld (.t 38))), none, []⟩, ⟨(some 40), (.v (.mv (.t 7))), none, []⟩, ⟨(some 41), (.v (.ia 4 (.t 39) (.t 40))), none, []⟩, ⟨(some 42), (.v (.lda 4 (.t 41))), none, []⟩, ⟨(some 43), (.v (.det 39 [⟨true, [(.int .i64), (.int .i64), (.int .i64)]⟩] [(.t 42)])), none, []⟩, ⟨(some 44), (.v (.bsl 0 44 [(.int .i64), (.int .i64), (.int .i64)] [(.t 43)])), none, []⟩, ⟨(some 45), (.v (.app 1 44 [(.int .i64), (.int .i64), (.int .i64)] 5864062014805 (.t 35) (.t 44))), none, []⟩, ⟨(some 6), (.v (.mv (.t 45))), none, []⟩]) .skip))) (.ops 0 [⟨(some 23), (.v (.mv (.t 7))), none, []⟩, ⟨(some 24), (.v (.bin .add (.t 23) (.k (.c (.int .i64 1))))), none, []⟩, ⟨(some 7), (.v (.mv (.t 24))), none, []⟩])))))) (.seq (.ops 0 [⟨(some 46), (.v (.mv (.t 6))), none, []⟩, ⟨(some 4), (.v (.mv (.t 46))), none, []⟩, ⟨(some 5), (.v (.mv (.k (.c (.int .i64 0))))), none, []⟩]) .ret)))))), 47, [(.t 4), (.t 5)]⟩
theorem h18 : fnR Try.prog DD 18 = some rf18 := by kernel_rfl
/-- papermill papermillref54.Slots -/
def rf19 : RFn := ⟨(.seq (.ops 0 [⟨(some 4), (.v (.mv (.k (.c (.bool false))))), none, []⟩]) (.seq (.seq (.ops 0 [⟨(some 6), (.v (.mv (.t 0))), none, []⟩, ⟨(some 7), (.v (.lenS (.t 6))), none, []⟩, ⟨(some 8), (.v (.mv (.t 1))), none, []⟩, ⟨(some 9), (.v (.lenS (.t 8))), none, []⟩, ⟨(some 10), (.v (.bin .neq (.t 7) (.t 9))), none, []⟩]) (.cond (.t 10) (.seq (.ops 0 [⟨(some 4), (.v (.mv (.k (.c (.bool false))))), none, []⟩]) .ret) .skip)) (.seq (.seq (.ops 0 [⟨(some 5), (.v (.mv (.k (.c (.int .i64 0))))), none, []⟩]) (.block 0 (.loop (.seq (.seq (.ops 0 [⟨(some 11), (.v (.mv (.t 5))), none, []⟩, ⟨(some 12), (.v (.mv (.t 0))), none, []⟩, ⟨(some 13), (.v (.lenS (.t 12))), none, []⟩, ⟨(some 14), (.v (.bin .lss (.t 11) (.t 13))), none, []⟩]) (.cond (.t 14) .skip (.exit 0))) (.seq (.block 1 (.seq (.any 0 [⟨0, ⟨[], ⟨(some 17), (.v (.mv (.t 0))), none, []⟩⟩⟩, ⟨1, ⟨[], ⟨(some 18), (.v (.mv (.t 5))), none, []⟩⟩⟩, ⟨2, ⟨[0, 1], ⟨(some 19), (.v (.ia 3 (.t 17) (.t 18))), none, []⟩⟩⟩, ⟨3, ⟨[2, 0, 1], ⟨(some 20), (.v (.lda 3 (.t 19))), none, []⟩⟩⟩, ⟨4, ⟨[], ⟨(some 21), (.v (.mv (.t 1))), none, []⟩⟩⟩, ⟨5, ⟨[], ⟨(some 22), (.v (.mv (.t 5))), none, []⟩⟩⟩, ⟨6, ⟨[4, 5], ⟨(some 23), (.v (.ia 3 (.t 21) (.t 22))), none, []⟩⟩⟩, ⟨7, ⟨[6, 4, 5], ⟨(some 24), (.v (.lda 3 (.t 23))), none, []⟩⟩⟩, ⟨8, ⟨[3, 2, 0, 1, 7, 6, 4, 5], ⟨(some 25), (.v (.eqs [(.int .i64), (.int .i64), (.int .i64)] true (.t 20) (.t 24))), none, []⟩⟩⟩]) (.cond (.t 25) (.seq (.ops 0 [⟨(some 4), (.v (.mv (.k (.c (.bool false))))), none, []⟩]) .ret) .skip))) (.ops 0 [⟨(some 15), (.v (.mv (.t 5))), none, []⟩, ⟨(some 16), (.v (.bin .add (.t 15) (.k (.c (.int .i64 1))))), none, []⟩, ⟨(some 5), (.v (.mv (.t 16))), none, []⟩])))))) (.seq (.ops 0 [⟨(some 4), (.v (.mv (.k (.c (.bool true))))), none, []⟩]) .ret)))), 26, [(.t 4)]⟩
theorem h19 : fnR Try.prog DD 19 = some rf19 := by kernel_rfl
/-- (*papermill papermillref54.Store).Find -/
def rf21 : RFn := ⟨(.seq (.ops 1 [⟨(some 4), (.v (.alloc 0 44 [(.c (.int .i64 0)), (.c (.int .i64 0)), (.c (.int .i64 0))])), none, []⟩, ⟨(some 5), (.v (.mv (.k (.c (.bool false))))), none, []⟩]) (.seq (.seq (.ops 0 [⟨(some 7), (.v (.mv (.t 0))), none, []⟩, ⟨(some 8), (.v (.eqn 1 false (.t 7))), none, []⟩]) (.cond (.t 8) (.seq (.ops 0 [⟨(some 9), (.v (.build [(.c (.int .i64 0)), (.c (.int .i64 0)), (.c (.int .i64 0))] [])), none, []⟩, ⟨none, (.v (.st 3 (.t 4) (.t 9))), none, []⟩, ⟨(some 5), (.v (.mv (.k (.c (.bool false))))), none, []⟩]) .ret) .skip)) (.seq (.ops 0 [⟨(some 10), (.v (.mv (.t 0))), none, []⟩, ⟨(some 11), (.v (.nc (.t 10))), none, []⟩, ⟨(some 12), (.v (.lda 3 (.t 11))), none, []⟩, ⟨(some 13), (.v (.mv (.t 1))), none, []⟩, ⟨(some 14), (.v (.det 40 [⟨false, [(.int .i64)]⟩] [(.t 12), (.t 13)])), none, []⟩, ⟨(some 6), (.v (.mv (.t 14))), none, []⟩]) (.seq (.seq (.ops 0 [⟨(some 15), (.v (.mv (.t 6))), none, []⟩, ⟨(some 16), (.v (.bin .lss (.t 15) (.k (.c (.int .i64 0))))), none, []⟩]) (.cond (.t 16) (.seq (.ops 0 [⟨(some 17), (.v (.build [(.c (.int .i64 0)), (.c (.int .i64 0)), (.c (.int .i64 0))] [])), none, []⟩, ⟨none, (.v (.st 3 (.t 4) (.t 17))), none, []⟩, ⟨(some 5), (.v (.mv (.k (.c (.bool false))))), none, []⟩]) .ret) .skip)) (.seq (.ops 0 [⟨(some 18), (.v (.mv (.t 0))), none, []⟩, ⟨(some 19), (.v (.nc (.t 18))), none, []⟩, ⟨(some 20), (.v (.fa 1 (.t 19))), none, []⟩, ⟨(some 21), (.v (.ld (.t 20))), none, []⟩, ⟨(some 22), (.v (.mv (.t 6))), none, []⟩, ⟨(some 23), (.v (.ia 4 (.t 21) (.t 22))), none, []⟩, ⟨(some 24), (.v (.lda 4 (.t 23))), none, []⟩, ⟨(some 25), (.v (.det 39 [⟨true, [(.int .i64), (.int .i64), (.int .i64)]⟩] [(.t 24)])), none, []⟩, ⟨none, (.v (.st 3 (.t 4) (.t 25))), none, []⟩, ⟨(some 5), (.v (.mv (.k (.c (.bool true))))), none, []⟩]) .ret))))), 26, [(.la 4 3), (.t 5)]⟩
theorem h21 : fnR Try.prog DD 21 = some rf21 := by kernel_rfl
/-- (*papermill papermillref54.Store).Oldest -/
def rf23 : RFn := ⟨(.seq (.ops 0 [⟨(some 4), (.v (.mv (.k (.c (.int .i64 0))))), none, []⟩, ⟨(some 5), (.v (.mv (.k (.c (.int .i64 0))))), none, []⟩]) (.seq (.seq (.ops 0 [⟨(some 8), (.v (.mv (.t 0))), none, []⟩, ⟨(some 9), (.v (.eqn 1 false (.t 8))), none, []⟩]) (.cond (.t 9) (.seq (.ops 0 [⟨(some 4), (.v (.mv (.k (.c (.int .i64 0))))), none, []⟩, ⟨(some 5), (.v (.mv (.k (.c (.int .i64 14))))), none, []⟩]) .ret) .skip)) (.seq (.seq (.ops 0 [⟨(some 6), (.v (.mv (.k (.c (.int .i64 0))))), none, []⟩]) (.block 0 (.loop (.seq (.seq (.ops 0 [⟨(some 10), (.v (.mv (.t 6))), none, []⟩, ⟨(some 11), (.v (.mv (.t 0))), none, []⟩, ⟨(some 12), (.v (.nc (.t 11))), none, []⟩, ⟨(some 13), (.v (.fa 1 (.t 12))), none, []⟩, ⟨(some 14), (.v (.ld (.t 13))), none, []⟩, ⟨(some 15), (.v (.lenS (.t 14))), none, []⟩, ⟨(some 16), (.v (.bin .lss (.t 10) (.t 15))), none, []⟩]) (.cond (.t 16) .skip (.exit 0))) (.seq (.block 1 (.seq (.ops 0 [⟨(some 7), (.v (.mv (.k (.c (.int .i64 0))))), none, []⟩]) (.block 2 (.loop (.seq (.seq (.ops 0 [⟨(some 19), (.v (.mv (.t 7))), none, []⟩, ⟨(some 20), (.v (.mv (.t 1))), none, []⟩, ⟨(some 21), (.v (.lenS (.t 20))), none, []⟩, ⟨(some 22), (.v (.bin .lss (.t 19) (.t 21))), none, []⟩]) (.cond (.t 22) .skip (.exit 2))) (.seq (.block 3 (.seq (.any 0 [⟨0, ⟨[], ⟨(some 25), (.v (.mv (.t 1))), none, []⟩⟩⟩, ⟨1, ⟨[], ⟨(some 26), (.v (.mv (.t 7))), none, []⟩⟩⟩, ⟨2, ⟨[0, 1], ⟨(some 27), (.v (.ia 1 (.t 25) (.t 26))), none, []⟩⟩⟩, ⟨3, ⟨[2, 0, 1], ⟨(some 28), (.v (.ld (.t 27))), none, []⟩⟩⟩, ⟨4, ⟨[], ⟨(some 29), (.v (.mv (.t 0))), none, []⟩⟩⟩, ⟨5, ⟨[4], ⟨(some 30), (.v (.nc (.t 29))), none, []⟩⟩⟩, ⟨6, ⟨[5, 4], ⟨(some 31), (.v (.fa 1 (.t 30))), none, []⟩⟩⟩, ⟨7, ⟨[6, 5, 4], ⟨(some 32), (.v (.ld (.t 31))), none, []⟩⟩⟩, ⟨8, ⟨[], ⟨(some 33), (.v (.mv (.t 6))), none, []⟩⟩⟩, ⟨9, ⟨[7, 6, 5, 4, 8], ⟨(some 34), (.v (.ia 4 (.t 32) (.t 33))), none, []⟩⟩⟩, ⟨10, ⟨[9, 7, 6, 5, 4, 8], ⟨(some 35), (.v (.fa 0 (.t 34))), none, []⟩⟩⟩, ⟨11, ⟨[10, 9, 7, 6, 5, 4, 8], ⟨(some 36), (.v (.ld (.t 35))), none, []⟩⟩⟩, ⟨12, ⟨[3, 2, 0, 1, 11, 10, 9, 7, 6, 5, 4, 8], ⟨(some 37), (.v (.bin .eql (.t 28) (.t 36))), none, []⟩⟩⟩]) (.cond (.t 37) (.seq (.ops 0 [⟨(some 38), (.v (.mv (.t 1))), none, []⟩, ⟨(some 39), (.v (.mv (.t 7))), none, []⟩, ⟨(some 40), (.v (.ia 1 (.t 38) (.t 39))), none, []⟩, ⟨(some 41), (.v (.ld (.t 40))), none, []⟩, ⟨(some 4), (.v (.mv (.t 41))), none, []⟩, ⟨(some 5), (.v (.mv (.k (.c (.int .i64 0))))), none, []⟩]) .ret) .skip))) (.ops 0 [⟨(some 23), (.v (.mv (.t 7))), none, []⟩, ⟨(some 24), (.v (.bin .add (.t 23) (.k (.c (.int .i64 1))))), none, []⟩, ⟨(some 7), (.v (.mv (.t 24))), none, []⟩]))))))) (.ops 0 [⟨(some 17), (.v (.mv (.t 6))), none, []⟩, ⟨(some 18), (.v (.bin .add (.t 17) (.k (.c (.int .i64 1))))), none, []⟩, ⟨(some 6), (.v (.mv (.t 18))), none, []⟩])))))) (.seq (.ops 0 [⟨(some 4), (.v (.mv (.k (.c (.int .i64 0))))), none, []⟩, ⟨(some 5), (.v (.mv (.k (.c (.int .i64 7))))), none, []⟩]) .ret)))), 42, [(.t 4), (.t 5)]⟩
theorem h23 : fnR Try.prog DD 23 = some rf23 := by kernel_rfl
/-- papermill papermillref54.New -/
def rf28 : RFn := ⟨(.seq (.ops 0 [⟨(some 2), (.v (.mv (.k .np))), none, []⟩, ⟨(some 3), (.v (.mv (.k (.c (.int .i64 0))))), none, []⟩]) (.seq (.seq (.ops 0 [⟨(some 5), (.v (.mv (.t 0))), none, []⟩, ⟨(some 6), (.v (.lenS (.t 5))), none, []⟩, ⟨(some 7), (.v (.bin .eql (.t 6) (.k (.c (.int .i64 0))))), none, []⟩]) (.cond (.t 7) (.seq (.ops 0 [⟨(some 2), (.v (.mv (.k .np))), none, []⟩, ⟨(some 3), (.v (.mv (.k (.c (.int .i64 10))))), none, []⟩]) .ret) .skip)) (.seq (.seq (.ops 0 [⟨(some 8), (.v (.mv (.t 0))), none, []⟩, ⟨(some 9), (.v (.lenS (.t 8))), none, []⟩, ⟨(some 10), (.v (.bin .gtr (.t 9) (.k (.c (.int .i64 32))))), none, []⟩]) (.cond (.t 10) (.seq (.ops 0 [⟨(some 2), (.v (.mv (.k .np))), none, []⟩, ⟨(some 3), (.v (.mv (.k (.c (.int .i64 8))))), none, []⟩]) .ret) .skip)) (.seq (.seq (.ops 0 [⟨(some 4), (.v (.mv (.k (.c (.int .i64 0))))), none, []⟩]) (.block 0 (.loop (.seq (.seq (.ops 0 [⟨(some 11), (.v (.mv (.t 4))), none, []⟩, ⟨(some 12), (.v (.mv (.t 0))), none, []⟩, ⟨(some 13), (.v (.lenS (.t 12))), none, []⟩, ⟨(some 14), (.v (.bin .lss (.t 11) (.t 13))), none, []⟩]) (.cond (.t 14) .skip (.exit 0))) (.seq (.block 1 (.seq (.ops 0 [⟨(some 17), (.v (.mv (.t 0))), none, []⟩, ⟨(some 18), (.v (.mv (.t 4))), none, []⟩, ⟨(some 19), (.v (.ia 2 (.t 17) (.t 18))), none, []⟩, ⟨(some 20), (.v (.fa 0 (.t 19))), none, []⟩, ⟨(some 21), (.v (.ld (.t 20))), none, []⟩, ⟨(some 22), (.v (.bin .lss (.t 21) (.k (.c (.int .i64 1))))), none, []⟩, ⟨(some 23), (.v (.mv (.t 22))), none, []⟩, ⟨(some 24), (.v (.mv (.t 0))), (some ⟨23, false⟩), [(.t 0)]⟩, ⟨(some 25), (.v (.mv (.t 4))), (some ⟨23, false⟩), [(.t 4)]⟩, ⟨(some 26), (.v (.ia 2 (.t 24) (.t 25))), (some ⟨23, false⟩), [(.t 24), (.t 25)]⟩, ⟨(some 27), (.v (.fa 0 (.t 26))), (some ⟨23, false⟩), [(.t 26)]⟩, ⟨(some 28), (.v (.ld (.t 27))), (some ⟨23, false⟩), [(.t 27)]⟩, ⟨(some 29), (.v (.bin .gtr (.t 28) (.k (.c (.int .i64 512))))), (some ⟨23, false⟩), [(.t 28), (.k (.c (.int .i64 512)))]⟩, ⟨(some 30), (.v (.pick (.t 23) (.k (.c (.bool true))) (.t 29))), none, []⟩, ⟨(some 31), (.v (.mv (.t 30))), none, []⟩, ⟨(some 32), (.v (.mv (.t 0))), (some ⟨31, false⟩), [(.t 0)]⟩, ⟨(some 33), (.v (.mv (.t 4))), (some ⟨31, false⟩), [(.t 4)]⟩, ⟨(some 34), (.v (.ia 2 (.t 32) (.t 33))), (some ⟨31, false⟩), [(.t 32), (.t 33)]⟩, ⟨(some 35), (.v (.fa 1 (.t 34))), (some ⟨31, false⟩), [(.t 34)]⟩, ⟨(some 36), (.v (.ld (.t 35))), (some ⟨31, false⟩), [(.t 35)]⟩, ⟨(some 37), (.v (.bin .lss (.t 36) (.k (.c (.int .i64 1))))), (some ⟨31, false⟩), [(.t 36), (.k (.c (.int .i64 1)))]⟩, ⟨(some 38), (.v (.pick (.t 31) (.k (.c (.bool true))) (.t 37))), none, []⟩, ⟨(some 39), (.v (.mv (.t 38))), none, []⟩, ⟨(some 40), (.v (.mv (.t 0))), (some ⟨39, false⟩), [(.t 0)]⟩, ⟨(some 41), (.v (.mv (.t 4))), (some ⟨39, false⟩), [(.t 4)]⟩, ⟨(some 42), (.v (.ia 2 (.t 40) (.t 41))), (some ⟨39, false⟩), [(.t 40), (.t 41)]⟩, ⟨(some 43), (.v (.fa 1 (.t 42))), (some ⟨39, false⟩), [(.t 42)]⟩, ⟨(some 44), (.v (.ld (.t 43))), (some ⟨39, false⟩), [(.t 43)]⟩, ⟨(some 45), (.v (.bin .gtr (.t 44) (.k (.c (.int .i64 12000))))), (some ⟨39, false⟩), [(.t 44), (.k (.c (.int .i64 12000)))]⟩, ⟨(some 46), (.v (.pick (.t 39) (.k (.c (.bool true))) (.t 45))), none, []⟩]) (.cond (.t 46) (.seq (.ops 0 [⟨(some 2), (.v (.mv (.k .np))), none, []⟩, ⟨(some 3), (.v (.mv (.k (.c (.int .i64 1))))), none, []⟩]) .ret) .skip))) (.ops 0 [⟨(some 15), (.v (.mv (.t 4))), none, []⟩, ⟨(some 16), (.v (.bin .add (.t 15) (.k (.c (.int .i64 1))))), none, []⟩, ⟨(some 4), (.v (.mv (.t 16))), none, []⟩])))))) (.seq (.ops 3 [⟨(some 47), (.v (.bsl 0 52 [(.int .i64), (.int .i64)] [])), none, []⟩, ⟨(some 48), (.v (.mv (.t 0))), none, []⟩, ⟨(some 49), (.v (.app 1 52 [(.int .i64), (.int .i64)] 8796093022208 (.t 47) (.t 48))), none, []⟩, ⟨(some 50), (.v (.build [(.c .nil), (.c .nil), (.c (.int .i64 0))] [⟨0, ⟨1, (.t 49)⟩⟩])), none, []⟩, ⟨(some 51), (.v (.box 2 68 (.t 50))), none, []⟩, ⟨(some 2), (.v (.mv (.t 51))), none, []⟩, ⟨(some 3), (.v (.mv (.k (.c (.int .i64 0))))), none, []⟩]) .ret))))), 52, [(.t 2), (.t 3)]⟩
theorem h28 : fnR Try.prog DD 28 = some rf28 := by kernel_rfl
/-- (*papermill papermillref54.Store).Put -/
def rf29 : RFn := ⟨(.seq (.ops 0 [⟨(some 10), (.v (.mv (.k (.c (.int .i64 0))))), none, []⟩]) (.seq (.seq (.ops 0 [⟨(some 13), (.v (.mv (.t 0))), none, []⟩, ⟨(some 14), (.v (.eqn 1 false (.t 13))), none, []⟩]) (.cond (.t 14) (.seq (.ops 0 [⟨(some 10), (.v (.mv (.k (.c (.int .i64 14))))), none, []⟩]) .ret) .skip)) (.seq (.ops 1 [⟨(some 16), (.v (.mv (.t 0))), none, []⟩, ⟨(some 17), (.v (.nc (.t 16))), none, []⟩, ⟨(some 18), (.v (.lda 3 (.t 17))), none, []⟩, ⟨(some 19), (.v (.mv (.t 1))), none, []⟩, ⟨(some 20), (.v (.mv (.t 2))), none, []⟩, ⟨(some 21), (.v (.mv (.t 3))), none, []⟩, ⟨(some 22), (.v (.mv (.t 4))), none, []⟩, ⟨(some 23), (.v (.det 44 [⟨true, [(.sl [(.int .i64), (.int .i64)]), (.sl [(.int .i64), (.int .i64), (.int .i64), (.int .i64)]), (.int .i64)]⟩, ⟨false, [(.int .i64)]⟩] [(.t 18), (.t 19), (.t 20), (.t 21), (.t 22)])), none, []⟩, ⟨(some 15), (.v (.mv (.t 23))), none, []⟩, ⟨(some 24), (.v (.ext (.t 15) 0)), none, []⟩, ⟨(some 25), (.v (.ext (.t 15) 1)), none, []⟩, ⟨(some 11), (.v (.alloc 0 68 [(.c .nil), (.c .nil), (.c (.int .i64 0))])), none, []⟩, ⟨none, (.v (.st 3 (.t 11) (.t 24))), none, []⟩, ⟨(some 12), (.v (.mv (.t 25))), none, []⟩]) (.seq (.ops 0 [⟨(some 26), (.v (.mv (.t 0))), none, []⟩, ⟨(some 27), (.v (.lda 3 (.t 11))), none, []⟩, ⟨(some 28), (.v (.nc (.t 26))), none, []⟩, ⟨none, (.v (.st 3 (.t 28) (.t 27))), none, []⟩]) (.seq (.ops 0 [⟨(some 29), (.v (.mv (.t 12))), none, []⟩, ⟨(some 10), (.v (.mv (.t 29))), none, []⟩]) .ret))))), 30, [(.t 10)]⟩
theorem h29 : fnR Try.prog DD 29 = some rf29 := by kernel_rfl
/-- (*papermill papermillref54.Store).Move -/
def rf30 : RFn := ⟨(.seq (.ops 0 [⟨(some 8), (.v (.mv (.k (.c (.int .i64 0))))), none, []⟩]) (.seq (.seq (.ops 0 [⟨(some 11), (.v (.mv (.t 0))), none, []⟩, ⟨(some 12), (.v (.eqn 1 false (.t 11))), none, []⟩]) (.cond (.t 12) (.seq (.ops 0 [⟨(some 8), (.v (.mv (.k (.c (.int .i64 14))))), none, []⟩]) .ret) .skip)) (.seq (.ops 1 [⟨(some 14), (.v (.mv (.t 0))), none, []⟩, ⟨(some 15), (.v (.nc (.t 14))), none, []⟩, ⟨(some 16), (.v (.lda 3 (.t 15))), none, []⟩, ⟨(some 17), (.v (.mv (.t 1))), none, []⟩, ⟨(some 18), (.v (.mv (.t 2))), none, []⟩, ⟨(some 19), (.v (.mv (.t 3))), none, []⟩, ⟨(some 20), (.v (.det 45 [⟨true, [(.sl [(.int .i64), (.int .i64)]), (.sl [(.int .i64), (.int .i64), (.int .i64), (.int .i64)]), (.int .i64)]⟩, ⟨false, [(.int .i64)]⟩] [(.t 16), (.t 17), (.t 18), (.t 19)])), none, []⟩, ⟨(some 13), (.v (.mv (.t 20))), none, []⟩, ⟨(some 21), (.v (.ext (.t 13) 0)), none, []⟩, ⟨(some 22), (.v (.ext (.t 13) 1)), none, []⟩, ⟨(some 9), (.v (.alloc 0 68 [(.c .nil), (.c .nil), (.c (.int .i64 0))])), none, []⟩, ⟨none, (.v (.st 3 (.t 9) (.t 21))), none, []⟩, ⟨(some 10), (.v (.mv (.t 22))), none, []⟩]) (.seq (.ops 0 [⟨(some 23), (.v (.mv (.t 0))), none, []⟩, ⟨(some 24), (.v (.lda 3 (.t 9))), none, []⟩, ⟨(some 25), (.v (.nc (.t 23))), none, []⟩, ⟨none, (.v (.st 3 (.t 25) (.t 24))), none, []⟩]) (.seq (.ops 0 [⟨(some 26), (.v (.mv (.t 10))), none, []⟩, ⟨(some 8), (.v (.mv (.t 26))), none, []⟩]) .ret))))), 27, [(.t 8)]⟩
theorem h30 : fnR Try.prog DD 30 = some rf30 := by kernel_rfl
/-- (*papermill papermillref54.Store).Take -/
def rf31 : RFn := ⟨(.seq (.ops 0 [⟨(some 4), (.v (.mv (.k (.c (.int .i64 0))))), none, []⟩, ⟨(some 5), (.v (.mv (.k (.c (.int .i64 0))))), none, []⟩]) (.seq (.seq (.ops 0 [⟨(some 9), (.v (.mv (.t 0))), none, []⟩, ⟨(some 10), (.v (.eqn 1 false (.t 9))), none, []⟩]) (.cond (.t 10) (.seq (.ops 0 [⟨(some 4), (.v (.mv (.k (.c (.int .i64 0))))), none, []⟩, ⟨(some 5), (.v (.mv (.k (.c (.int .i64 14))))), none, []⟩]) .ret) .skip)) (.seq (.ops 1 [⟨(some 12), (.v (.mv (.t 0))), none, []⟩, ⟨(some 13), (.v (.nc (.t 12))), none, []⟩, ⟨(some 14), (.v (.lda 3 (.t 13))), none, []⟩, ⟨(some 15), (.v (.mv (.t 1))), none, []⟩, ⟨(some 16), (.v (.det 46 [⟨true, [(.sl [(.int .i64), (.int .i64)]), (.sl [(.int .i64), (.int .i64), (.int .i64), (.int .i64)]), (.int .i64)]⟩, ⟨false, [(.int .i64)]⟩, ⟨false, [(.int .i64)]⟩] [(.t 14), (.t 15)])), none, []⟩, ⟨(some 11), (.v (.mv (.t 16))), none, []⟩, ⟨(some 17), (.v (.ext (.t 11) 0)), none, []⟩, ⟨(some 18), (.v (.ext (.t 11) 1)), none, []⟩, ⟨(some 19), (.v (.ext (.t 11) 2)), none, []⟩, ⟨(some 6), (.v (.alloc 0 68 [(.c .nil), (.c .nil), (.c (.int .i64 0))])), none, []⟩, ⟨none, (.v (.st 3 (.t 6) (.t 17))), none, []⟩, ⟨(some 7), (.v (.mv (.t 18))), none, []⟩, ⟨(some 8), (.v (.mv (.t 19))), none, []⟩]) (.seq (.ops 0 [⟨(some 20), (.v (.mv (.t 0))), none, []⟩, ⟨(some 21), (.v (.lda 3 (.t 6))), none, []⟩, ⟨(some 22), (.v (.nc (.t 20))), none, []⟩, ⟨none, (.v (.st 3 (.t 22) (.t 21))), none, []⟩]) (.seq (.ops 0 [⟨(some 23), (.v (.mv (.t 7))), none, []⟩, ⟨(some 24), (.v (.mv (.t 8))), none, []⟩, ⟨(some 4), (.v (.mv (.t 23))), none, []⟩, ⟨(some 5), (.v (.mv (.t 24))), none, []⟩]) .ret))))), 25, [(.t 4), (.t 5)]⟩
theorem h31 : fnR Try.prog DD 31 = some rf31 := by kernel_rfl
/-- papermill papermillref54.count -/
def rf33 : RFn := ⟨(.seq (.ops 1 [⟨(some 2), (.v (.box 0 68 (.t 0))), none, []⟩, ⟨(some 4), (.v (.mv (.k (.c (.int .i64 0))))), none, []⟩]) (.seq (.ops 0 [⟨(some 5), (.v (.mv (.k (.c (.int .i64 0))))), none, []⟩]) (.seq (.seq (.ops 0 [⟨(some 6), (.v (.mv (.k (.c (.int .i64 0))))), none, []⟩]) (.block 0 (.loop (.seq (.seq (.ops 0 [⟨(some 7), (.v (.mv (.t 6))), none, []⟩, ⟨(some 8), (.v (.fa 1 (.t 2))), none, []⟩, ⟨(some 9), (.v (.ld (.t 8))), none, []⟩, ⟨(some 10), (.v (.lenS (.t 9))), none, []⟩, ⟨(some 11), (.v (.bin .lss (.t 7) (.t 10))), none, []⟩]) (.cond (.t 11) .skip (.exit 0))) (.seq (.block 1 (.seq (.ops 0 [⟨(some 14), (.v (.fa 1 (.t 2))), none, []⟩, ⟨(some 15), (.v (.ld (.t 14))), none, []⟩, ⟨(some 16), (.v (.mv (.t 6))), none, []⟩, ⟨(some 17), (.v (.ia 4 (.t 15) (.t 16))), none, []⟩, ⟨(some 18), (.v (.fa 2 (.t 17))), none, []⟩, ⟨(some 19), (.v (.ld (.t 18))), none, []⟩, ⟨(some 20), (.v (.mv (.t 1))), none, []⟩, ⟨(some 21), (.v (.bin .eql (.t 19) (.t 20))), none, []⟩]) (.cond (.t 21) (.ops 0 [⟨(some 22), (.v (.mv (.t 5))), none, []⟩, ⟨(some 23), (.v (.bin .add (.t 22) (.k (.c (.int .i64 1))))), none, []⟩, ⟨(some 5), (.v (.mv (.t 23))), none, []⟩]) .skip))) (.ops 0 [⟨(some 12), (.v (.mv (.t 6))), none, []⟩, ⟨(some 13), (.v (.bin .add (.t 12) (.k (.c (.int .i64 1))))), none, []⟩, ⟨(some 6), (.v (.mv (.t 13))), none, []⟩])))))) (.seq (.ops 0 [⟨(some 24), (.v (.mv (.t 5))), none, []⟩, ⟨(some 4), (.v (.mv (.t 24))), none, []⟩]) .ret)))), 25, [(.t 4)]⟩
theorem h33 : fnR Try.prog DD 33 = some rf33 := by kernel_rfl
/-- (*papermill store.Store).Bay closure 1 -/
def rf36 : RFn := ⟨(.seq (.ops 2 [⟨(some 2), (.v (.box 0 73 (.t 0))), none, []⟩, ⟨(some 3), (.v (.box 1 73 (.t 1))), none, []⟩, ⟨(some 4), (.v (.mv (.k (.c (.int .i64 0))))), none, []⟩]) (.seq (.ops 0 [⟨(some 5), (.v (.fa 4 (.t 2))), none, []⟩, ⟨(some 6), (.v (.ld (.t 5))), none, []⟩, ⟨(some 7), (.v (.fa 4 (.t 3))), none, []⟩, ⟨(some 8), (.v (.ld (.t 7))), none, []⟩, ⟨(some 9), (.v (.det 37 [⟨false, [(.int .i64)]⟩] [(.t 6), (.t 8)])), none, []⟩, ⟨(some 4), (.v (.mv (.t 9))), none, []⟩]) .ret)), 10, [(.t 4)]⟩
theorem h36 : fnR Try.prog DD 36 = some rf36 := by kernel_rfl
/-- cmp.Compare[int] -/
def rf37 : RFn := ⟨(.seq (.ops 0 [⟨(some 4), (.v (.mv (.k (.c (.int .i64 0))))), none, []⟩]) (.seq (.ops 0 [⟨(some 7), (.v (.mv (.t 0))), none, []⟩, ⟨(some 8), (.v (.det 49 [⟨false, [.bool]⟩] [(.t 7)])), none, []⟩, ⟨(some 5), (.v (.mv (.t 8))), none, []⟩]) (.seq (.ops 0 [⟨(some 9), (.v (.mv (.t 1))), none, []⟩, ⟨(some 10), (.v (.det 49 [⟨false, [.bool]⟩] [(.t 9)])), none, []⟩, ⟨(some 6), (.v (.mv (.t 10))), none, []⟩]) (.seq (.seq (.ops 0 [⟨(some 11), (.v (.mv (.t 5))), none, []⟩]) (.cond (.t 11) (.seq (.seq (.ops 0 [⟨(some 12), (.v (.mv (.t 6))), none, []⟩]) (.cond (.t 12) (.seq (.ops 0 [⟨(some 4), (.v (.mv (.k (.c (.int .i64 0))))), none, []⟩]) .ret) .skip)) (.seq (.ops 0 [⟨(some 4), (.v (.mv (.k (.c (.int .i64 (-1)))))), none, []⟩]) .ret)) .skip)) (.seq (.seq (.ops 0 [⟨(some 13), (.v (.mv (.t 6))), none, []⟩]) (.cond (.t 13) (.seq (.ops 0 [⟨(some 4), (.v (.mv (.k (.c (.int .i64 1))))), none, []⟩]) .ret) .skip)) (.seq (.seq (.ops 0 [⟨(some 14), (.v (.mv (.t 0))), none, []⟩, ⟨(some 15), (.v (.mv (.t 1))), none, []⟩, ⟨(some 16), (.v (.bin .lss (.t 14) (.t 15))), none, []⟩]) (.cond (.t 16) (.seq (.ops 0 [⟨(some 4), (.v (.mv (.k (.c (.int .i64 (-1)))))), none, []⟩]) .ret) .skip)) (.seq (.seq (.ops 0 [⟨(some 17), (.v (.mv (.t 0))), none, []⟩, ⟨(some 18), (.v (.mv (.t 1))), none, []⟩, ⟨(some 19), (.v (.bin .gtr (.t 17) (.t 18))), none, []⟩]) (.cond (.t 19) (.seq (.ops 0 [⟨(some 4), (.v (.mv (.k (.c (.int .i64 1))))), none, []⟩]) .ret) .skip)) (.seq (.ops 0 [⟨(some 4), (.v (.mv (.k (.c (.int .i64 0))))), none, []⟩]) .ret)))))))), 20, [(.t 4)]⟩
theorem h37 : fnR Try.prog DD 37 = some rf37 := by kernel_rfl
/-- papermill papermillref54.exists -/
def rf38 : RFn := ⟨(.seq (.ops 1 [⟨(some 2), (.v (.box 0 68 (.t 0))), none, []⟩, ⟨(some 4), (.v (.mv (.k (.c (.bool false))))), none, []⟩]) (.seq (.ops 0 [⟨(some 5), (.v (.mv (.t 1))), none, []⟩, ⟨(some 6), (.v (.bin .geq (.t 5) (.k (.c (.int .i64 0))))), none, []⟩, ⟨(some 7), (.v (.mv (.t 6))), none, []⟩, ⟨(some 8), (.v (.mv (.t 1))), (some ⟨7, true⟩), [(.t 1)]⟩, ⟨(some 9), (.v (.fa 0 (.t 2))), (some ⟨7, true⟩), [(.t 2)]⟩, ⟨(some 10), (.v (.ld (.t 9))), (some ⟨7, true⟩), [(.t 9)]⟩, ⟨(some 11), (.v (.lenS (.t 10))), (some ⟨7, true⟩), [(.t 10)]⟩, ⟨(some 12), (.v (.bin .lss (.t 8) (.t 11))), (some ⟨7, true⟩), [(.t 8), (.t 11)]⟩, ⟨(some 13), (.v (.pick (.t 7) (.t 12) (.k (.c (.bool false))))), none, []⟩, ⟨(some 4), (.v (.mv (.t 13))), none, []⟩]) .ret)), 14, [(.t 4)]⟩
theorem h38 : fnR Try.prog DD 38 = some rf38 := by kernel_rfl
/-- papermill papermillref54.slot -/
def rf39 : RFn := ⟨(.seq (.ops 2 [⟨(some 1), (.v (.box 0 79 (.t 0))), none, []⟩, ⟨(some 2), (.v (.alloc 1 44 [(.c (.int .i64 0)), (.c (.int .i64 0)), (.c (.int .i64 0))])), none, []⟩]) (.seq (.ops 0 [⟨(some 3), (.v (.fa 0 (.t 1))), none, []⟩, ⟨(some 4), (.v (.ld (.t 3))), none, []⟩, ⟨(some 5), (.v (.fa 2 (.t 1))), none, []⟩, ⟨(some 6), (.v (.ld (.t 5))), none, []⟩, ⟨(some 7), (.v (.fa 3 (.t 1))), none, []⟩, ⟨(some 8), (.v (.ld (.t 7))), none, []⟩, ⟨(some 9), (.v (.build [(.c (.int .i64 0)), (.c (.int .i64 0)), (.c (.int .i64 0))] [⟨0, ⟨1, (.t 4)⟩⟩, ⟨1, ⟨1, (.t 6)⟩⟩, ⟨2, ⟨1, (.t 8)⟩⟩])), none, []⟩, ⟨none, (.v (.st 3 (.t 2) (.t 9))), none, []⟩]) .ret)), 10, [(.la 2 3)]⟩
theorem h39 : fnR Try.prog DD 39 = some rf39 := by kernel_rfl
/-- papermill papermillref54.place -/
def rf40 : RFn := ⟨(.seq (.ops 1 [⟨(some 2), (.v (.box 0 68 (.t 0))), none, []⟩, ⟨(some 4), (.v (.mv (.k (.c (.int .i64 0))))), none, []⟩]) (.seq (.seq (.ops 0 [⟨(some 5), (.v (.mv (.k (.c (.int .i64 0))))), none, []⟩]) (.block 0 (.loop (.seq (.seq (.ops 0 [⟨(some 6), (.v (.mv (.t 5))), none, []⟩, ⟨(some 7), (.v (.fa 1 (.t 2))), none, []⟩, ⟨(some 8), (.v (.ld (.t 7))), none, []⟩, ⟨(some 9), (.v (.lenS (.t 8))), none, []⟩, ⟨(some 10), (.v (.bin .lss (.t 6) (.t 9))), none, []⟩]) (.cond (.t 10) .skip (.exit 0))) (.seq (.block 1 (.seq (.ops 0 [⟨(some 13), (.v (.fa 1 (.t 2))), none, []⟩, ⟨(some 14), (.v (.ld (.t 13))), none, []⟩, ⟨(some 15), (.v (.mv (.t 5))), none, []⟩, ⟨(some 16), (.v (.ia 4 (.t 14) (.t 15))), none, []⟩, ⟨(some 17), (.v (.fa 0 (.t 16))), none, []⟩, ⟨(some 18), (.v (.ld (.t 17))), none, []⟩, ⟨(some 19), (.v (.mv (.t 1))), none, []⟩, ⟨(some 20), (.v (.bin .eql (.t 18) (.t 19))), none, []⟩]) (.cond (.t 20) (.seq (.ops 0 [⟨(some 21), (.v (.mv (.t 5))), none, []⟩, ⟨(some 4), (.v (.mv (.t 21))), none, []⟩]) .ret) .skip))) (.ops 0 [⟨(some 11), (.v (.mv (.t 5))), none, []⟩, ⟨(some 12), (.v (.bin .add (.t 11) (.k (.c (.int .i64 1))))), none, []⟩, ⟨(some 5), (.v (.mv (.t 12))), none, []⟩])))))) (.seq (.ops 0 [⟨(some 4), (.v (.mv (.k (.c (.int .i64 (-1)))))), none, []⟩]) .ret))), 22, [(.t 4)]⟩
theorem h40 : fnR Try.prog DD 40 = some rf40 := by kernel_rfl
/-- papermill papermillref54.put -/
def rf44 : RFn := ⟨(.seq (.ops 2 [⟨(some 5), (.v (.box 0 68 (.t 0))), none, []⟩, ⟨(some 10), (.v (.alloc 1 68 [(.c .nil), (.c .nil), (.c (.int .i64 0))])), none, []⟩, ⟨(some 11), (.v (.mv (.k (.c (.int .i64 0))))), none, []⟩]) (.seq (.seq (.ops 0 [⟨(some 12), (.v (.mv (.t 1))), none, []⟩, ⟨(some 13), (.v (.bin .lss (.t 12) (.k (.c (.int .i64 1))))), none, []⟩, ⟨(some 14), (.v (.mv (.t 13))), none, []⟩, ⟨(some 15), (.v (.mv (.t 1))), (some ⟨14, false⟩), [(.t 1)]⟩, ⟨(some 16), (.v (.bin .gtr (.t 15) (.k (.c (.int .i64 1000000))))), (some ⟨14, false⟩), [(.t 15), (.k (.c (.int .i64 1000000)))]⟩, ⟨(some 17), (.v (.pick (.t 14) (.k (.c (.bool true))) (.t 16))), none, []⟩, ⟨(some 18), (.v (.mv (.t 17))), none, []⟩, ⟨(some 19), (.v (.mv (.t 2))), (some ⟨18, false⟩), [(.t 2)]⟩, ⟨(some 20), (.v (.bin .lss (.t 19) (.k (.c (.int .i64 1))))), (some ⟨18, false⟩), [(.t 19), (.k (.c (.int .i64 1)))]⟩, ⟨(some 21), (.v (.pick (.t 18) (.k (.c (.bool true))) (.t 20))), none, []⟩, ⟨(some 22), (.v (.mv (.t 21))), none, []⟩, ⟨(some 23), (.v (.mv (.t 2))), (some ⟨22, false⟩), [(.t 2)]⟩, ⟨(some 24), (.v (.bin .gtr (.t 23) (.k (.c (.int .i64 12000))))), (some ⟨22, false⟩), [(.t 23), (.k (.c (.int .i64 12000)))]⟩, ⟨(some 25), (.v (.pick (.t 22) (.k (.c (.bool true))) (.t 24))), none, []⟩, ⟨(some 26), (.v (.mv (.t 25))), none, []⟩, ⟨(some 27), (.v (.mv (.t 4))), (some ⟨26, false⟩), [(.t 4)]⟩, ⟨(some 28), (.v (.det 50 [⟨false, [.bool]⟩] [(.t 27)])), (some ⟨26, false⟩), [(.k (.fn 50 [])), (.t 27)]⟩, ⟨(some 29), (.v (.un .not (.t 28))), (some ⟨26, false⟩), [(.t 28)]⟩, ⟨(some 30), (.v (.pick (.t 26) (.k (.c (.bool true))) (.t 29))), none, []⟩]) (.cond (.t 30) (.seq (.ops 0 [⟨(some 31), (.v (.lda 3 (.t 5))), none, []⟩, ⟨none, (.v (.st 3 (.t 10) (.t 31))), none, []⟩, ⟨(some 11), (.v (.mv (.k (.c (.int .i64 1))))), none, []⟩]) .ret) .skip)) (.seq (.seq (.ops 0 [⟨(some 32), (.v (.lda 3 (.t 5))), none, []⟩, ⟨(some 33), (.v (.mv (.t 1))), none, []⟩, ⟨(some 34), (.v (.det 40 [⟨false, [(.int .i64)]⟩] [(.t 32), (.t 33)])), none, []⟩, ⟨(some 35), (.v (.bin .geq (.t 34) (.k (.c (.int .i64 0))))), none, []⟩]) (.cond (.t 35) (.seq (.ops 0 [⟨(some 36), (.v (.lda 3 (.t 5))), none, []⟩, ⟨none, (.v (.st 3 (.t 10) (.t 36))), none, []⟩, ⟨(some 11), (.v (.mv (.k (.c (.int .i64 6))))), none, []⟩]) .ret) .skip)) (.seq (.seq (.ops 0 [⟨(some 37), (.v (.lda 3 (.t 5))), none, []⟩, ⟨(some 38), (.v (.mv (.t 3))), none, []⟩, ⟨(some 39), (.v (.det 38 [⟨false, [.bool]⟩] [(.t 37), (.t 38)])), none, []⟩, ⟨(some 40), (.v (.un .not (.t 39))), none, []⟩]) (.cond (.t 40) (.seq (.ops 0 [⟨(some 41), (.v (.lda 3 (.t 5))), none, []⟩, ⟨none, (.v (.st 3 (.t 10) (.t 41))), none, []⟩, ⟨(some 11), (.v (.mv (.k (.c (.int .i64 7))))), none, []⟩]) .ret) .skip)) (.seq (.seq (.ops 0 [⟨(some 42), (.v (.mv (.t 2))), none, []⟩, ⟨(some 43), (.v (.fa 0 (.t 5))), none, []⟩, ⟨(some 44), (.v (.ld (.t 43))), none, []⟩, ⟨(some 45), (.v (.mv (.t 3))), none, []⟩, ⟨(some 46), (.v (.ia 2 (.t 44) (.t 45))), none, []⟩, ⟨(some 47), (.v (.fa 1 (.t 46))), none, []⟩, ⟨(some 48), (.v (.ld (.t 47))), none, []⟩, ⟨(some 49), (.v (.bin .gtr (.t 42) (.t 48))), none, []⟩]) (.cond (.t 49) (.seq (.ops 0 [⟨(some 50), (.v (.lda 3 (.t 5))), none, []⟩, ⟨none, (.v (.st 3 (.t 10) (.t 50))), none, []⟩, ⟨(some 11), (.v (.mv (.k (.c (.int .i64 20))))), none, []⟩]) .ret) .skip)) (.seq (.seq (.ops 0 [⟨(some 51), (.v (.mv (.t 4))), none, []⟩, ⟨(some 52), (.v (.fa 2 (.t 5))), none, []⟩, ⟨(some 53), (.v (.ld (.t 52))), none, []⟩, ⟨(some 54), (.v (.bin .lss (.t 51) (.t 53))), none, []⟩]) (.cond (.t 54) (.seq (.ops 0 [⟨(some 55), (.v (.lda 3 (.t 5))), none, []⟩, ⟨none, (.v (.st 3 (.t 10) (.t 55))), none, []⟩, ⟨(some 11), (.v (.mv (.k (.c (.int .i64 9))))), none, []⟩]) .ret) .skip)) (.seq (.seq (.any 0 [⟨0, ⟨[], ⟨(some 56), (.v (.lda 3 (.t 5))), none, []⟩⟩⟩, ⟨1, ⟨[], ⟨(some 57), (.v (.mv (.t 3))), none, []⟩⟩⟩, ⟨2, ⟨[0, 1], ⟨(some 58), (.v (.det 33 [⟨false, [(.int .i64)]⟩] [(.t 56), (.t 57)])), none, []⟩⟩⟩, ⟨3, ⟨[], ⟨(some 59), (.v (.fa 0 (.t 5))), none, []⟩⟩⟩, ⟨4, ⟨[3], ⟨(some 60), (.v (.ld (.t 59))), none, []⟩⟩⟩, ⟨5, ⟨[], ⟨(some 61), (.v (.mv (.t 3))), none, []⟩⟩⟩, ⟨6, ⟨[4, 3, 5], ⟨(some 62), (.v (.ia 2 (.t 60) (.t 61))), none, []⟩⟩⟩, ⟨7, ⟨[6, 4, 3, 5], ⟨(some 63), (.v (.fa 0 (.t 62))), none, []⟩⟩⟩, ⟨8, ⟨[7, 6, 4, 3, 5], ⟨(some 64), (.v (.ld (.t 63))), none, []⟩⟩⟩, ⟨9, ⟨[2, 0, 1, 8, 7, 6, 4, 3, 5], ⟨(some 65), (.v (.bin .geq (.t 58) (.t 64))), none, []⟩⟩⟩]) (.cond (.t 65) (.seq (.ops 0 [⟨(some 66), (.v (.lda 3 (.t 5))), none, []⟩, ⟨none, (.v (.st 3 (.t 10) (.t 66))), none, []⟩, ⟨(some 11), (.v (.mv (.k (.c (.int .i64 8))))), none, []⟩]) .ret) .skip)) (.seq (.ops 0 [⟨(some 67), (.v (.lda 3 (.t 5))), none, []⟩, ⟨(some 68), (.v (.mv (.t 1))), none, []⟩, ⟨(some 69), (.v (.mv (.t 2))), none, []⟩, ⟨(some 70), (.v (.mv (.t 3))), none, []⟩, ⟨(some 71), (.v (.mv (.t 4))), none, []⟩, ⟨(some 72), (.v (.build [(.c (.int .i64 0)), (.c (.int .i64 0)), (.c (.int .i64 0)), (.c (.int .i64 0))] [⟨0, ⟨1, (.t 68)⟩⟩, ⟨1, ⟨1, (.t 69)⟩⟩, ⟨2, ⟨1, (.t 70)⟩⟩, ⟨3, ⟨1, (.t 71)⟩⟩])), none, []⟩, ⟨(some 73), (.v (.det 51 [⟨true, [(.sl [(.int .i64), (.int .i64)]), (.sl [(.int .i64), (.int .i64), (.int .i64), (.int .i64)]), (.int .i64)]⟩] [(.t 67), (.t 72)])), none, []⟩, ⟨none, (.v (.st 3 (.t 10) (.t 73))), none, []⟩, ⟨(some 11), (.v (.mv (.k (.c (.int .i64 0))))), none, []⟩]) .ret)))))))), 74, [(.la 10 3), (.t 11)]⟩
theorem h44 : fnR Try.prog DD 44 = some rf44 := by kernel_rfl
/-- papermill papermillref54.move -/
def rf45 : RFn := ⟨(.seq (.ops 2 [⟨(some 4), (.v (.box 0 68 (.t 0))), none, []⟩, ⟨(some 8), (.v (.alloc 1 68 [(.c .nil), (.c .nil), (.c (.int .i64 0))])), none, []⟩, ⟨(some 9), (.v (.mv (.k (.c (.int .i64 0))))), none, []⟩]) (.seq (.ops 0 [⟨(some 11), (.v (.lda 3 (.t 4))), none, []⟩, ⟨(some 12), (.v (.mv (.t 1))), none, []⟩, ⟨(some 13), (.v (.det 40 [⟨false, [(.int .i64)]⟩] [(.t 11), (.t 12)])), none, []⟩, ⟨(some 10), (.v (.mv (.t 13))), none, []⟩]) (.seq (.seq (.ops 0 [⟨(some 14), (.v (.mv (.t 10))), none, []⟩, ⟨(some 15), (.v (.bin .lss (.t 14) (.k (.c (.int .i64 0))))), none, []⟩, ⟨(some 16), (.v (.mv (.t 15))), none, []⟩, ⟨(some 17), (.v (.lda 3 (.t 4))), (some ⟨16, false⟩), [(.t 4)]⟩, ⟨(some 18), (.v (.mv (.t 2))), (some ⟨16, false⟩), [(.t 2)]⟩, ⟨(some 19), (.v (.det 38 [⟨false, [.bool]⟩] [(.t 17), (.t 18)])), (some ⟨16, false⟩), [(.k (.fn 38 [])), (.t 17), (.t 18)]⟩, ⟨(some 20), (.v (.un .not (.t 19))), (some ⟨16, false⟩), [(.t 19)]⟩, ⟨(some 21), (.v (.pick (.t 16) (.k (.c (.bool true))) (.t 20))), none, []⟩]) (.cond (.t 21) (.seq (.ops 0 [⟨(some 22), (.v (.lda 3 (.t 4))), none, []⟩, ⟨none, (.v (.st 3 (.t 8) (.t 22))), none, []⟩, ⟨(some 9), (.v (.mv (.k (.c (.int .i64 7))))), none, []⟩]) .ret) .skip)) (.seq (.seq (.ops 0 [⟨(some 23), (.v (.fa 1 (.t 4))), none, []⟩, ⟨(some 24), (.v (.ld (.t 23))), none, []⟩, ⟨(some 25), (.v (.mv (.t 10))), none, []⟩, ⟨(some 26), (.v (.ia 4 (.t 24) (.t 25))), none, []⟩, ⟨(some 27), (.v (.fa 2 (.t 26))), none, []⟩, ⟨(some 28), (.v (.ld (.t 27))), none, []⟩, ⟨(some 29), (.v (.mv (.t 2))), none, []⟩, ⟨(some 30), (.v (.bin .eql (.t 28) (.t 29))), none, []⟩]) (.cond (.t 30) (.seq (.ops 0 [⟨(some 31), (.v (.lda 3 (.t 4))), none, []⟩, ⟨none, (.v (.st 3 (.t 8) (.t 31))), none, []⟩, ⟨(some 9), (.v (.mv (.k (.c (.int .i64 6))))), none, []⟩]) .ret) .skip)) (.seq (.seq (.any 0 [⟨0, ⟨[], ⟨(some 32), (.v (.fa 1 (.t 4))), none, []⟩⟩⟩, ⟨1, ⟨[0], ⟨(some 33), (.v (.ld (.t 32))), none, []⟩⟩⟩, ⟨2, ⟨[], ⟨(some 34), (.v (.mv (.t 10))), none, []⟩⟩⟩, ⟨3, ⟨[1, 0, 2], ⟨(some 35), (.v (.ia 4 (.t 33) (.t 34))), none, []⟩⟩⟩, ⟨4, ⟨[3, 1, 0, 2], ⟨(some 36), (.v (.fa 1 (.t 35))), none, []⟩⟩⟩, ⟨5, ⟨[4, 3, 1, 0, 2], ⟨(some 37), (.v (.ld (.t 36))), none, []⟩⟩⟩, ⟨6, ⟨[], ⟨(some 38), (.v (.fa 0 (.t 4))), none, []⟩⟩⟩, ⟨7, ⟨[6], ⟨(some 39), (.v (.ld (.t 38))), none, []⟩⟩⟩, ⟨8, ⟨[], ⟨(some 40), (.v (.mv (.t 2))), none, []⟩⟩⟩, ⟨9, ⟨[7, 6, 8], ⟨(some 41), (.v (.ia 2 (.t 39) (.t 40))), none, []⟩⟩⟩, ⟨10, ⟨[9, 7, 6, 8], ⟨(some 42), (.v (.fa 1 (.t 41))), none, []⟩⟩⟩, ⟨11, ⟨[10, 9, 7, 6, 8], ⟨(some 43), (.v (.ld (.t 42))), none, []⟩⟩⟩, ⟨12, ⟨[5, 4, 3, 1, 0, 2, 11, 10, 9, 7, 6, 8], ⟨(some 44), (.v (.bin .gtr (.t 37) (.t 43))), none, []⟩⟩⟩]) (.cond (.t 44) (.seq (.ops 0 [⟨(some 45), (.v (.lda 3 (.t 4))), none, []⟩, ⟨none, (.v (.st 3 (.t 8) (.t 45))), none, []⟩, ⟨(some 9), (.v (.mv (.k (.c (.int .i64 20))))), none, []⟩]) .ret) .skip)) (.seq (.seq (.ops 0 [⟨(some 46), (.v (.mv (.t 3))), none, []⟩, ⟨(some 47), (.v (.det 50 [⟨false, [.bool]⟩] [(.t 46)])), none, []⟩, ⟨(some 48), (.v (.un .not (.t 47))), none, []⟩]) (.cond (.t 48) (.seq (.ops 0 [⟨(some 49), (.v (.lda 3 (.t 4))), none, []⟩, ⟨none, (.v (.st 3 (.t 8) (.t 49))), none, []⟩, ⟨(some 9), (.v (.mv (.k (.c (.int .i64 1))))), none, []⟩]) .ret) .skip)) (.seq (.seq (.ops 0 [⟨(some 50), (.v (.mv (.t 3))), none, []⟩, ⟨(some 51), (.v (.fa 2 (.t 4))), none, []⟩, ⟨(some 52), (.v (.ld (.t 51))), none, []⟩, ⟨(some 53), (.v (.bin .lss (.t 50) (.t 52))), none, []⟩]) (.cond (.t 53) (.seq (.ops 0 [⟨(some 54), (.v (.lda 3 (.t 4))), none, []⟩, ⟨none, (.v (.st 3 (.t 8) (.t 54))), none, []⟩, ⟨(some 9), (.v (.mv (.k (.c (.int .i64 9))))), none, []⟩]) .ret) .skip)) (.seq (.seq (.any 0 [⟨0, ⟨[], ⟨(some 55), (.v (.lda 3 (.t 4))), none, []⟩⟩⟩, ⟨1, ⟨[], ⟨(some 56), (.v (.mv (.t 2))), none, []⟩⟩⟩, ⟨2, ⟨[0, 1], ⟨(some 57), (.v (.det 33 [⟨false, [(.int .i64)]⟩] [(.t 55), (.t 56)])), none, []⟩⟩⟩, ⟨3, ⟨[], ⟨(some 58), (.v (.fa 0 (.t 4))), none, []⟩⟩⟩, ⟨4, ⟨[3], ⟨(some 59), (.v (.ld (.t 58))), none, []⟩⟩⟩, ⟨5, ⟨[], ⟨(some 60), (.v (.mv (.t 2))), none, []⟩⟩⟩, ⟨6, ⟨[4, 3, 5], ⟨(some 61), (.v (.ia 2 (.t 59) (.t 60))), none, []⟩⟩⟩, ⟨7, ⟨[6, 4, 3, 5], ⟨(some 62), (.v (.fa 0 (.t 61))), none, []⟩⟩⟩, ⟨8, ⟨[7, 6, 4, 3, 5], ⟨(some 63), (.v (.ld (.t 62))), none, []⟩⟩⟩, ⟨9, ⟨[2, 0, 1, 8, 7, 6, 4, 3, 5], ⟨(some 64), (.v (.bin .geq (.t 57) (.t 63))), none, []⟩⟩⟩]) (.cond (.t 64) (.seq (.ops 0 [⟨(some 65), (.v (.lda 3 (.t 4))), none, []⟩, ⟨none, (.v (.st 3 (.t 8) (.t 65))), none, []⟩, ⟨(some 9), (.v (.mv (.k (.c (.int .i64 8))))), none, []⟩]) .ret) .skip)) (.seq (.any 0 [⟨0, ⟨[], ⟨(some 66), (.v (.lda 3 (.t 4))), none, []⟩⟩⟩, ⟨1, ⟨[], ⟨(some 67), (.v (.mv (.t 10))), none, []⟩⟩⟩, ⟨2, ⟨[0, 1], ⟨(some 68), (.v (.det 52 [⟨true, [(.sl [(.int .i64), (.int .i64)]), (.sl [(.int .i64), (.int .i64), (.int .i64), (.int .i64)]), (.int .i64)]⟩] [(.t 66), (.t 67)])), none, []⟩⟩⟩, ⟨3, ⟨[], ⟨(some 69), (.v (.mv (.t 1))), none, []⟩⟩⟩, ⟨4, ⟨[], ⟨(some 70), (.v (.fa 1 (.t 4))), none, []⟩⟩⟩, ⟨5, ⟨[4], ⟨(some 71), (.v (.ld (.t 70))), none, []⟩⟩⟩, ⟨6, ⟨[], ⟨(some 72), (.v (.mv (.t 10))), none, []⟩⟩⟩, ⟨7, ⟨[5, 4, 6], ⟨(some 73), (.v (.ia 4 (.t 71) (.t 72))), none, []⟩⟩⟩, ⟨8, ⟨[7, 5, 4, 6], ⟨(some 74), (.v (.fa 1 (.t 73))), none, []⟩⟩⟩, ⟨9, ⟨[8, 7, 5, 4, 6], ⟨(some 75), (.v (.ld (.t 74))), none, []⟩⟩⟩, ⟨10, ⟨[], ⟨(some 76), (.v (.mv (.t 2))), none, []⟩⟩⟩, ⟨11, ⟨[], ⟨(some 77), (.v (.mv (.t 3))), none, []⟩⟩⟩, ⟨12, ⟨[3, 9, 8, 7, 5, 4, 6, 10, 11], ⟨(some 78), (.v (.build [(.c (.int .i64 0)), (.c (.int .i64 0)), (.c (.int .i64 0)), (.c (.int .i64 0))] [⟨0, ⟨1, (.t 69)⟩⟩, ⟨1, ⟨1, (.t 75)⟩⟩, ⟨2, ⟨1, (.t 76)⟩⟩, ⟨3, ⟨1, (.t 77)⟩⟩])), none, []⟩⟩⟩, ⟨13, ⟨[12, 3, 9, 8, 7, 5, 4, 6, 10, 11, 2, 0, 1], ⟨(some 79), (.v (.det 51 [⟨true, [(.sl [(.int .i64), (.int .i64)]), (.sl [(.int .i64), (.int .i64), (.int .i64), (.int .i64)]), (.int .i64)]⟩] [(.t 68), (.t 78)])), none, []⟩⟩⟩, ⟨14, ⟨[13, 12, 3, 9, 8, 7, 5, 4, 6, 10, 11, 2, 0, 1], ⟨none, (.v (.st 3 (.t 8) (.t 79))), none, []⟩⟩⟩, ⟨15, ⟨[14, 13, 12, 3, 9, 8, 7, 5, 4, 6, 10, 11, 2, 0, 1], ⟨(some 9), (.v (.mv (.k (.c (.int .i64 0))))), none, []⟩⟩⟩]) .ret))))))))), 80, [(.la 8 3), (.t 9)]⟩
theorem h45 : fnR Try.prog DD 45 = some rf45 := by kernel_rfl
/-- papermill papermillref54.take -/
def rf46 : RFn := ⟨(.seq (.ops 2 [⟨(some 2), (.v (.box 0 68 (.t 0))), none, []⟩, ⟨(some 4), (.v (.alloc 1 68 [(.c .nil), (.c .nil), (.c (.int .i64 0))])), none, []⟩, ⟨(some 5), (.v (.mv (.k (.c (.int .i64 0))))), none, []⟩, ⟨(some 6), (.v (.mv (.k (.c (.int .i64 0))))), none, []⟩]) (.seq (.ops 0 [⟨(some 8), (.v (.lda 3 (.t 2))), none, []⟩, ⟨(some 9), (.v (.mv (.t 1))), none, []⟩, ⟨(some 10), (.v (.det 40 [⟨false, [(.int .i64)]⟩] [(.t 8), (.t 9)])), none, []⟩, ⟨(some 7), (.v (.mv (.t 10))), none, []⟩]) (.seq (.seq (.ops 0 [⟨(some 11), (.v (.mv (.t 7))), none, []⟩, ⟨(some 12), (.v (.bin .lss (.t 11) (.k (.c (.int .i64 0))))), none, []⟩]) (.cond (.t 12) (.seq (.ops 0 [⟨(some 13), (.v (.lda 3 (.t 2))), none, []⟩, ⟨none, (.v (.st 3 (.t 4) (.t 13))), none, []⟩, ⟨(some 5), (.v (.mv (.k (.c (.int .i64 0))))), none, []⟩, ⟨(some 6), (.v (.mv (.k (.c (.int .i64 7))))), none, []⟩]) .ret) .skip)) (.seq (.any 0 [⟨0, ⟨[], ⟨(some 14), (.v (.lda 3 (.t 2))), none, []⟩⟩⟩, ⟨1, ⟨[], ⟨(some 15), (.v (.mv (.t 7))), none, []⟩⟩⟩, ⟨2, ⟨[0, 1], ⟨(some 16), (.v (.det 52 [⟨true, [(.sl [(.int .i64), (.int .i64)]), (.sl [(.int .i64), (.int .i64), (.int .i64), (.int .i64)]), (.int .i64)]⟩] [(.t 14), (.t 15)])), none, []⟩⟩⟩, ⟨3, ⟨[], ⟨(some 17), (.v (.fa 1 (.t 2))), none, []⟩⟩⟩, ⟨4, ⟨[3], ⟨(some 18), (.v (.ld (.t 17))), none, []⟩⟩⟩, ⟨5, ⟨[], ⟨(some 19), (.v (.mv (.t 7))), none, []⟩⟩⟩, ⟨6, ⟨[4, 3, 5], ⟨(some 20), (.v (.ia 4 (.t 18) (.t 19))), none, []⟩⟩⟩, ⟨7, ⟨[6, 4, 3, 5], ⟨(some 21), (.v (.fa 2 (.t 20))), none, []⟩⟩⟩, ⟨8, ⟨[7, 6, 4, 3, 5], ⟨(some 22), (.v (.ld (.t 21))), none, []⟩⟩⟩, ⟨9, ⟨[2, 0, 1], ⟨none, (.v (.st 3 (.t 4) (.t 16))), none, []⟩⟩⟩, ⟨10, ⟨[8, 7, 6, 4, 3, 5, 9, 2, 0, 1], ⟨(some 5), (.v (.mv (.t 22))), none, []⟩⟩⟩, ⟨11, ⟨[10, 8, 7, 6, 4, 3, 5, 9, 2, 0, 1], ⟨(some 6), (.v (.mv (.k (.c (.int .i64 0))))), none, []⟩⟩⟩]) .ret)))), 23, [(.la 4 3), (.t 5), (.t 6)]⟩
theorem h46 : fnR Try.prog DD 46 = some rf46 := by kernel_rfl
/-- papermill papermillref54.moment -/
def rf50 : RFn := ⟨(.seq (.ops 0 [⟨(some 2), (.v (.mv (.k (.c (.bool false))))), none, []⟩]) (.seq (.ops 0 [⟨(some 3), (.v (.mv (.t 0))), none, []⟩, ⟨(some 4), (.v (.bin .geq (.t 3) (.k (.c (.int .i64 0))))), none, []⟩, ⟨(some 5), (.v (.mv (.t 4))), none, []⟩, ⟨(some 6), (.v (.mv (.t 0))), (some ⟨5, true⟩), [(.t 0)]⟩, ⟨(some 7), (.v (.bin .leq (.t 6) (.k (.c (.int .i64 2147483647))))), (some ⟨5, true⟩), [(.t 6), (.k (.c (.int .i64 2147483647)))]⟩, ⟨(some 8), (.v (.pick (.t 5) (.t 7) (.k (.c (.bool false))))), none, []⟩, ⟨(some 2), (.v (.mv (.t 8))), none, []⟩]) .ret)), 9, [(.t 2)]⟩
theorem h50 : fnR Try.prog DD 50 = some rf50 := by kernel_rfl
/-- papermill papermillref54.with -/
def rf51 : RFn := ⟨(.seq (.ops 3 [⟨(some 2), (.v (.box 0 68 (.t 0))), none, []⟩, ⟨(some 3), (.v (.box 1 79 (.t 1))), none, []⟩, ⟨(some 4), (.v (.alloc 2 68 [(.c .nil), (.c .nil), (.c (.int .i64 0))])), none, []⟩]) (.seq (.any 4 [⟨0, ⟨[], ⟨(some 5), (.v (.bsl 0 79 [(.int .i64), (.int .i64), (.int .i64), (.int .i64)] [])), none, []⟩⟩⟩, ⟨1, ⟨[], ⟨(some 6), (.v (.fa 1 (.t 2))), none, []⟩⟩⟩, ⟨2, ⟨[1], ⟨(some 7), (.v (.ld (.t 6))), none, []⟩⟩⟩, ⟨3, ⟨[0, 2, 1], ⟨(some 8), (.v (.app 1 79 [(.int .i64), (.int .i64), (.int .i64), (.int .i64)] 4398046511104 (.t 5) (.t 7))), none, []⟩⟩⟩, ⟨4, ⟨[], ⟨(some 9), (.v (.lda 4 (.t 3))), none, []⟩⟩⟩, ⟨5, ⟨[4], ⟨(some 10), (.v (.bsl 2 79 [(.int .i64), (.int .i64), (.int .i64), (.int .i64)] [(.t 9)])), none, []⟩⟩⟩, ⟨6, ⟨[5, 4, 3, 0, 2, 1], ⟨(some 11), (.v (.app 3 79 [(.int .i64), (.int .i64), (.int .i64), (.int .i64)] 4398046511104 (.t 8) (.t 10))), none, []⟩⟩⟩, ⟨7, ⟨[6, 5, 4, 3, 0, 2, 1], ⟨(some 12), (.v (.fa 1 (.t 2))), none, []⟩⟩⟩, ⟨8, ⟨[7, 6, 5, 4, 3, 0, 2, 1], ⟨none, (.v (.st 1 (.t 12) (.t 11))), none, []⟩⟩⟩]) (.seq (.ops 0 [⟨(some 13), (.v (.fa 3 (.t 3))), none, []⟩, ⟨(some 14), (.v (.ld (.t 13))), none, []⟩, ⟨(some 15), (.v (.fa 2 (.t 2))), none, []⟩, ⟨none, (.v (.st 1 (.t 15) (.t 14))), none, []⟩]) (.seq (.ops 0 [⟨(some 16), (.v (.lda 3 (.t 2))), none, []⟩, ⟨none, (.v (.st 3 (.t 4) (.t 16))), none, []⟩]) .ret)))), 17, [(.la 4 3)]⟩
theorem h51 : fnR Try.prog DD 51 = some rf51 := by kernel_rfl
/-- papermill papermillref54.without -/
def rf52 : RFn := ⟨(.seq (.ops 2 [⟨(some 2), (.v (.box 0 68 (.t 0))), none, []⟩, ⟨(some 4), (.v (.alloc 1 68 [(.c .nil), (.c .nil), (.c (.int .i64 0))])), none, []⟩]) (.seq (.ops 2 [⟨(some 6), (.v (.bsl 0 79 [(.int .i64), (.int .i64), (.int .i64), (.int .i64)] [])), none, []⟩, ⟨(some 7), (.v (.fa 1 (.t 2))), none, []⟩, ⟨(some 8), (.v (.ld (.t 7))), none, []⟩, ⟨(some 9), (.v (.mv (.t 1))), none, []⟩, ⟨(some 10), (.v (.sls 4 (.t 8) none (some (.t 9)))), none, []⟩, ⟨(some 11), (.v (.app 1 79 [(.int .i64), (.int .i64), (.int .i64), (.int .i64)] 4398046511104 (.t 6) (.t 10))), none, []⟩, ⟨(some 5), (.v (.mv (.t 11))), none, []⟩]) (.seq (.ops 1 [⟨(some 12), (.v (.mv (.t 5))), none, []⟩, ⟨(some 13), (.v (.fa 1 (.t 2))), none, []⟩, ⟨(some 14), (.v (.ld (.t 13))), none, []⟩, ⟨(some 15), (.v (.mv (.t 1))), none, []⟩, ⟨(some 16), (.v (.bin .add (.t 15) (.k (.c (.int .i64 1))))), none, []⟩, ⟨(some 17), (.v (.sls 4 (.t 14) (some (.t 16)) none)), none, []⟩, ⟨(some 18), (.v (.app 0 79 [(.int .i64), (.int .i64), (.int .i64), (.int .i64)] 4398046511104 (.t 12) (.t 17))), none, []⟩, ⟨(some 19), (.v (.fa 1 (.t 2))), none, []⟩, ⟨none, (.v (.st 1 (.t 19) (.t 18))), none, []⟩]) (.seq (.ops 0 [⟨(some 20), (.v (.lda 3 (.t 2))), none, []⟩, ⟨none, (.v (.st 3 (.t 4) (.t 20))), none, []⟩]) .ret)))), 21, [(.la 4 3)]⟩
theorem h52 : fnR Try.prog DD 52 = some rf52 := by kernel_rfl
/-- papermill papermilllaw54.begin -/
def rf10 : RFn := ⟨(.seq (.ops 0 [⟨(some 4), (.v (.mv (.k .np))), none, []⟩, ⟨(some 5), (.v (.mv (.k .np))), none, []⟩, ⟨(some 6), (.v (.mv (.k (.c (.bool false))))), none, []⟩]) (.seq (.seq (.ops 0 [⟨(some 11), (.v (.mv (.t 0))), none, []⟩, ⟨(some 12), (.v (.lenS (.t 11))), none, []⟩, ⟨(some 13), (.v (.bin .gtr (.t 12) (.k (.c (.int .i64 40))))), none, []⟩, ⟨(some 14), (.v (.mv (.t 13))), none, []⟩, ⟨(some 15), (.v (.mv (.t 1))), (some ⟨14, false⟩), [(.t 1)]⟩, ⟨(some 16), (.v (.lenS (.t 15))), (some ⟨14, false⟩), [(.t 15)]⟩, ⟨(some 17), (.v (.bin .gtr (.t 16) (.k (.c (.int .i64 120))))), (some ⟨14, false⟩), [(.t 16), (.k (.c (.int .i64 120)))]⟩, ⟨(some 18), (.v (.pick (.t 14) (.k (.c (.bool true))) (.t 17))), none, []⟩]) (.cond (.t 18) (.seq (.ops 0 [⟨(some 4), (.v (.mv (.k .np))), none, []⟩, ⟨(some 5), (.v (.mv (.k .np))), none, []⟩, ⟨(some 6), (.v (.mv (.k (.c (.bool true))))), none, []⟩]) .ret) .skip)) (.seq (.ops 0 [⟨(some 20), (.v (.mv (.t 0))), none, []⟩, ⟨(some 21), (.h (.call 24 [(.t 20)])), none, []⟩, ⟨(some 19), (.v (.mv (.t 21))), none, []⟩, ⟨(some 22), (.v (.ext (.t 19) 0)), none, []⟩, ⟨(some 23), (.v (.ext (.t 19) 1)), none, []⟩, ⟨(some 7), (.v (.mv (.t 22))), none, []⟩, ⟨(some 8), (.v (.mv (.t 23))), none, []⟩]) (.seq (.ops 0 [⟨(some 25), (.v (.mv (.t 0))), none, []⟩, ⟨(some 26), (.h (.call 28 [(.t 25)])), none, []⟩, ⟨(some 24), (.v (.mv (.t 26))), none, []⟩, ⟨(some 27), (.v (.ext (.t 24) 0)), none, []⟩, ⟨(some 28), (.v (.ext (.t 24) 1)), none, []⟩, ⟨(some 9), (.v (.mv (.t 27))), none, []⟩, ⟨(some 10), (.v (.mv (.t 28))), none, []⟩]) (.seq (.seq (.ops 0 [⟨(some 29), (.v (.mv (.t 8))), none, []⟩, ⟨(some 30), (.v (.mv (.t 10))), none, []⟩, ⟨(some 31), (.v (.bin .neq (.t 29) (.t 30))), none, []⟩, ⟨(some 32), (.v (.mv (.t 31))), none, []⟩, ⟨(some 33), (.v (.mv (.t 7))), (some ⟨32, false⟩), [(.t 7)]⟩, ⟨(some 34), (.v (.eqn 1 false (.t 33))), (some ⟨32, false⟩), [(.t 33), (.k .np)]⟩, ⟨(some 35), (.v (.mv (.t 10))), (some ⟨32, false⟩), [(.t 10)]⟩, ⟨(some 36), (.v (.bin .neq (.t 35) (.k (.c (.int .i64 0))))), (some ⟨32, false⟩), [(.t 35), (.k (.c (.int .i64 0)))]⟩, ⟨(some 37), (.v (.eqb true (.t 34) (.t 36))), (some ⟨32, false⟩), [(.t 34), (.t 36)]⟩, ⟨(some 38), (.v (.pick (.t 32) (.k (.c (.bool true))) (.t 37))), none, []⟩]) (.cond (.t 38) (.seq (.ops 0 [⟨(some 4), (.v (.mv (.k .np))), none, []⟩, ⟨(some 5), (.v (.mv (.k .np))), none, []⟩, ⟨(some 6), (.v (.mv (.k (.c (.bool false))))), none, []⟩]) .ret) .skip)) (.seq (.ops 0 [⟨(some 39), (.v (.mv (.t 7))), none, []⟩, ⟨(some 40), (.v (.mv (.t 9))), none, []⟩, ⟨(some 4), (.v (.mv (.t 39))), none, []⟩, ⟨(some 5), (.v (.mv (.t 40))), none, []⟩, ⟨(some 6), (.v (.mv (.k (.c (.bool true))))), none, []⟩]) .ret)))))), 41, [(.t 4), (.t 5), (.t 6)]⟩
theorem h10 : fnR Try.prog DD 10 = some rf10 := by kernel_rfl
/-- papermill papermilllaw54.do -/
def rf12 : RFn := ⟨(.seq (.ops 1 [⟨(some 3), (.v (.box 0 33 (.t 1))), none, []⟩, ⟨(some 4), (.v (.mv (.k (.c (.int .i64 0))))), none, []⟩, ⟨(some 5), (.v (.mv (.k (.c (.int .i64 0))))), none, []⟩]) (.seq (.seq (.ops 0 [⟨(some 6), (.v (.fa 0 (.t 3))), none, []⟩, ⟨(some 7), (.v (.ld (.t 6))), none, []⟩]) (.block 0 (.seq (.ops 0 [⟨(some 9), (.v (.bin .eql (.t 7) (.k (.c (.int .i64 0))))), none, []⟩, ⟨(some 8), (.v (.mv (.t 9))), none, []⟩]) (.cond (.t 8) (.seq (.ops 0 [⟨(some 10), (.v (.mv (.t 0))), none, []⟩, ⟨(some 11), (.v (.fa 1 (.t 3))), none, []⟩, ⟨(some 12), (.v (.ld (.t 11))), none, []⟩, ⟨(some 13), (.v (.fa 2 (.t 3))), none, []⟩, ⟨(some 14), (.v (.ld (.t 13))), none, []⟩, ⟨(some 15), (.v (.fa 3 (.t 3))), none, []⟩, ⟨(some 16), (.v (.ld (.t 15))), none, []⟩, ⟨(some 17), (.v (.fa 4 (.t 3))), none, []⟩, ⟨(some 18), (.v (.ld (.t 17))), none, []⟩, ⟨(some 19), (.h (.call 26 [(.t 10), (.t 12), (.t 14), (.t 16), (.t 18)])), none, []⟩, ⟨(some 4), (.v (.mv (.k (.c (.int .i64 0))))), none, []⟩, ⟨(some 5), (.v (.mv (.t 19))), none, []⟩]) .ret) (.seq (.ops 0 [⟨(some 21), (.v (.bin .eql (.t 7) (.k (.c (.int .i64 1))))), none, []⟩, ⟨(some 20), (.v (.mv (.t 21))), none, []⟩]) (.cond (.t 20) (.seq (.ops 0 [⟨(some 22), (.v (.mv (.t 0))), none, []⟩, ⟨(some 23), (.v (.fa 1 (.t 3))), none, []⟩, ⟨(some 24), (.v (.ld (.t 23))), none, []⟩, ⟨(some 25), (.v (.fa 3 (.t 3))), none, []⟩, ⟨(some 26), (.v (.ld (.t 25))), none, []⟩, ⟨(some 27), (.v (.fa 4 (.t 3))), none, []⟩, ⟨(some 28), (.v (.ld (.t 27))), none, []⟩, ⟨(some 29), (.h (.call 27 [(.t 22), (.t 24), (.t 26), (.t 28)])), none, []⟩, ⟨(some 4), (.v (.mv (.k (.c (.int .i64 0))))), none, []⟩, ⟨(some 5), (.v (.mv (.t 29))), none, []⟩]) .ret) .skip)))))) (.seq (.ops 0 [⟨(some 30), (.v (.mv (.t 0))), none, []⟩, ⟨(some 31), (.v (.fa 1 (.t 3))), none, []⟩, ⟨(some 32), (.v (.ld (.t 31))), none, []⟩, ⟨(some 33), (.h (.call 25 [(.t 30), (.t 32)])), none, []⟩, ⟨(some 34), (.v (.ext (.t 33) 0)), none, []⟩, ⟨(some 35), (.v (.ext (.t 33) 1)), none, []⟩, ⟨(some 4), (.v (.mv (.t 34))), none, []⟩, ⟨(some 5), (.v (.mv (.t 35))), none, []⟩]) .ret))), 36, [(.t 4), (.t 5)]⟩
theorem h12 : fnR Try.prog DD 12 = some rf12 := by kernel_rfl
/-- papermill papermilllaw54.must -/
def rf13 : RFn := ⟨(.seq (.ops 1 [⟨(some 3), (.v (.box 0 33 (.t 1))), none, []⟩, ⟨(some 4), (.v (.mv (.k (.c (.int .i64 0))))), none, []⟩, ⟨(some 5), (.v (.mv (.k (.c (.int .i64 0))))), none, []⟩]) (.seq (.seq (.ops 0 [⟨(some 6), (.v (.fa 0 (.t 3))), none, []⟩, ⟨(some 7), (.v (.ld (.t 6))), none, []⟩]) (.block 0 (.seq (.ops 0 [⟨(some 9), (.v (.bin .eql (.t 7) (.k (.c (.int .i64 0))))), none, []⟩, ⟨(some 8), (.v (.mv (.t 9))), none, []⟩]) (.cond (.t 8) (.seq (.ops 0 [⟨(some 10), (.v (.mv (.t 0))), none, []⟩, ⟨(some 11), (.v (.fa 1 (.t 3))), none, []⟩, ⟨(some 12), (.v (.ld (.t 11))), none, []⟩, ⟨(some 13), (.v (.fa 2 (.t 3))), none, []⟩, ⟨(some 14), (.v (.ld (.t 13))), none, []⟩, ⟨(some 15), (.v (.fa 3 (.t 3))), none, []⟩, ⟨(some 16), (.v (.ld (.t 15))), none, []⟩, ⟨(some 17), (.v (.fa 4 (.t 3))), none, []⟩, ⟨(some 18), (.v (.ld (.t 17))), none, []⟩, ⟨(some 19), (.h (.call 29 [(.t 10), (.t 12), (.t 14), (.t 16), (.t 18)])), none, []⟩, ⟨(some 4), (.v (.mv (.k (.c (.int .i64 0))))), none, []⟩, ⟨(some 5), (.v (.mv (.t 19))), none, []⟩]) .ret) (.seq (.ops 0 [⟨(some 21), (.v (.bin .eql (.t 7) (.k (.c (.int .i64 1))))), none, []⟩, ⟨(some 20), (.v (.mv (.t 21))), none, []⟩]) (.cond (.t 20) (.seq (.ops 0 [⟨(some 22), (.v (.mv (.t 0))), none, []⟩, ⟨(some 23), (.v (.fa 1 (.t 3))), none, []⟩, ⟨(some 24), (.v (.ld (.t 23))), none, []⟩, ⟨(some 25), (.v (.fa 3 (.t 3))), none, []⟩, ⟨(some 26), (.v (.ld (.t 25))), none, []⟩, ⟨(some 27), (.v (.fa 4 (.t 3))), none, []⟩, ⟨(some 28), (.v (.ld (.t 27))), none, []⟩, ⟨(some 29), (.h (.call 30 [(.t 22), (.t 24), (.t 26), (.t 28)])), none, []⟩, ⟨(some 4), (.v (.mv (.k (.c (.int .i64 0))))), none, []⟩, ⟨(some 5), (.v (.mv (.t 29))), none, []⟩]) .ret) .skip)))))) (.seq (.ops 0 [⟨(some 30), (.v (.mv (.t 0))), none, []⟩, ⟨(some 31), (.v (.fa 1 (.t 3))), none, []⟩, ⟨(some 32), (.v (.ld (.t 31))), none, []⟩, ⟨(some 33), (.h (.call 31 [(.t 30), (.t 32)])), none, []⟩, ⟨(some 34), (.v (.ext (.t 33) 0)), none, []⟩, ⟨(some 35), (.v (.ext (.t 33) 1)), none, []⟩, ⟨(some 4), (.v (.mv (.t 34))), none, []⟩, ⟨(some 5), (.v (.mv (.t 35))), none, []⟩]) .ret))), 36, [(.t 4), (.t 5)]⟩
theorem h13 : fnR Try.prog DD 13 = some rf13 := by kernel_rfl
def vc34 (E : Env) (x1 : List (List C)) (x2 : List (Int × List C)) (x3 : Int) (x4 : Int) (x5 : Int) (Q : List C → Prop) : Prop :=
  Q [.bool (E.bite (E.le 0 x5) (E.lt x5 (E.len (E.gl (E.cell [[.sl [.int .i64, .int .i64] x1, .mp .i64 true [.int .i64, .int .i64, .int .i64, .int .i64, .int .i64] x2, .int .i64 x3, .int .i64 x4]] 0 0)))) false)]
theorem w34 {P : Program} {tbl : FuncId → List A → List C}  {x1 : List (List C)} {x2 : List (Int × List C)} {x3 : Int} {x4 : Int} {x5 : Int} {row : List C} (h : vc34 (stdE P tbl) x1 x2 x3 x4 x5 fun c => c = row) : WPg P tbl rf34 [(false, [.bool])] row [.el [.sl [.int .i64, .int .i64], .mp .i64 true [.int .i64, .int .i64, .int .i64, .int .i64, .int .i64], .int .i64, .int .i64] [[.sl [.int .i64, .int .i64] x1, .mp .i64 true [.int .i64, .int .i64, .int .i64, .int .i64, .int .i64] x2, .int .i64 x3, .int .i64 x4]] 0 0, .c (.int .i64 x5)] := by
  refine ⟨?_⟩
  revert h
  generalize hE : stdE P tbl = E
  intro h
  unfold vc34 at h
  cbv
  refine ⟨⟨fun hh => hh⟩, ?_⟩
  refine ⟨⟨fun hh => hh⟩, ?_⟩
  refine ⟨⟨fun hh => hh⟩, ?_⟩
  refine ⟨⟨fun hh => hh⟩, ?_⟩
  refine ⟨⟨fun hh => hh⟩, ?_⟩
  refine ⟨⟨fun hh => hh⟩, ?_⟩
  refine ⟨⟨fun hh => hh⟩, ?_⟩
  have h : _ = row := h
  subst h
  repeat' (first | exact trivial | exact rfl | refine And.intro ?_ ?_)
def vc20 (E : Env) (x1 : List (List C)) (x2 : List (Int × List C)) (x3 : Int) (x4 : Int) (x5 : Int) (Q : List C → Prop) : Prop :=
  (false = false) ∧ 
  (Q [.int .i64 (E.gi (E.mlk (E.gm (E.cell [[.sl [.int .i64, .int .i64] x1, .mp .i64 true [.int .i64, .int .i64, .int .i64, .int .i64, .int .i64] x2, .int .i64 x3, .int .i64 x4]] 0 1)) x5 0 (.int .i64 0))), .int .i64 (E.gi (E.mlk (E.gm (E.cell [[.sl [.int .i64, .int .i64] x1, .mp .i64 true [.int .i64, .int .i64, .int .i64, .int .i64, .int .i64] x2, .int .i64 x3, .int .i64 x4]] 0 1)) x5 1 (.int .i64 0))), .int .i64 (E.gi (E.mlk (E.gm (E.cell [[.sl [.int .i64, .int .i64] x1, .mp .i64 true [.int .i64, .int .i64, .int .i64, .int .i64, .int .i64] x2, .int .i64 x3, .int .i64 x4]] 0 1)) x5 2 (.int .i64 0))), .bool (E.not (E.and (E.eq (E.gi (E.mlk (E.gm (E.cell [[.sl [.int .i64, .int .i64] x1, .mp .i64 true [.int .i64, .int .i64, .int .i64, .int .i64, .int .i64] x2, .int .i64 x3, .int .i64 x4]] 0 1)) x5 0 (.int .i64 0))) 0) (E.and (E.eq (E.gi (E.mlk (E.gm (E.cell [[.sl [.int .i64, .int .i64] x1, .mp .i64 true [.int .i64, .int .i64, .int .i64, .int .i64, .int .i64] x2, .int .i64 x3, .int .i64 x4]] 0 1)) x5 1 (.int .i64 0))) 0) (E.and (E.eq (E.gi (E.mlk (E.gm (E.cell [[.sl [.int .i64, .int .i64] x1, .mp .i64 true [.int .i64, .int .i64, .int .i64, .int .i64, .int .i64] x2, .int .i64 x3, .int .i64 x4]] 0 1)) x5 2 (.int .i64 0))) 0) true))))])
theorem w20 {P : Program} {tbl : FuncId → List A → List C}  {x1 : List (List C)} {x2 : List (Int × List C)} {x3 : Int} {x4 : Int} {x5 : Int} {row : List C} (h : vc20 (stdE P tbl) x1 x2 x3 x4 x5 fun c => c = row) : WPg P tbl rf20 [(true, [.int .i64, .int .i64, .int .i64]), (false, [.bool])] row [.el [.sl [.int .i64, .int .i64], .mp .i64 true [.int .i64, .int .i64, .int .i64, .int .i64, .int .i64], .int .i64, .int .i64] [[.sl [.int .i64, .int .i64] x1, .mp .i64 true [.int .i64, .int .i64, .int .i64, .int .i64, .int .i64] x2, .int .i64 x3, .int .i64 x4]] 0 0, .c (.int .i64 x5)] := by
  refine ⟨?_⟩
  revert h
  generalize hE : stdE P tbl = E
  intro h
  unfold vc20 at h
  cbv
  have hb1 := h.1
  refine ⟨fun hb => absurd (hb1.symm.trans hb) Bool.false_ne_true, fun _ => ?_⟩
  replace h := h.2
  have h : _ = row := h
  subst h
  repeat' (first | exact trivial | exact rfl | refine And.intro ?_ ?_)
def vc22 (E : Env) (x1 : List (List C)) (x2 : List (Int × List C)) (x3 : Int) (x4 : Int) (x5 : List (List C)) (Q : List C → Prop) : Prop :=
  (false = false) ∧ 
  (LoopP6 (fun (i1 : Int) (i2 : Int) (i3 : Int) (i4 : Int) (i5 : Int) (i6 : Int) (K7 : (Int) → (Int) → (Int) → (Int) → (Int) → (Int) → Prop) =>
  Br (E.lt i6 (E.len x5))
    (((E.le 0 i6) = true) ∧ 
      ((Imp (E.mhas (E.gm (E.cell [[.sl [.int .i64, .int .i64] x1, .mp .i64 true [.int .i64, .int .i64, .int .i64, .int .i64, .int .i64] x2, .int .i64 x3, .int .i64 x4]] 0 1)) (E.gi (E.cell x5 i6 0))) (Imp (E.not (E.eq i5 0)) ((E.and (E.mhas (E.gm (E.cell [[.sl [.int .i64, .int .i64] x1, .mp .i64 true [.int .i64, .int .i64, .int .i64, .int .i64, .int .i64] x2, .int .i64 x3, .int .i64 x4]] 0 1)) (E.gi (E.cell x5 i6 0))) (E.not (E.eq i5 0))) = true))) ∧ 
      (Br (E.bite (E.mhas (E.gm (E.cell [[.sl [.int .i64, .int .i64] x1, .mp .i64 true [.int .i64, .int .i64, .int .i64, .int .i64, .int .i64] x2, .int .i64 x3, .int .i64 x4]] 0 1)) (E.gi (E.cell x5 i6 0))) (E.bite (E.eq i5 0) true (E.lt (E.gi (E.mlk (E.gm (E.cell [[.sl [.int .i64, .int .i64] x1, .mp .i64 true [.int .i64, .int .i64, .int .i64, .int .i64, .int .i64] x2, .int .i64 x3, .int .i64 x4]] 0 1)) (E.gi (E.cell x5 i6 0)) 4 (.int .i64 0))) i5)) false)
      (K7 ((E.gi (E.mlk (E.gm (E.cell [[.sl [.int .i64, .int .i64] x1, .mp .i64 true [.int .i64, .int .i64, .int .i64, .int .i64, .int .i64] x2, .int .i64 x3, .int .i64 x4]] 0 1)) (E.gi (E.cell x5 i6 0)) 0 (.int .i64 0)))) ((E.gi (E.mlk (E.gm (E.cell [[.sl [.int .i64, .int .i64] x1, .mp .i64 true [.int .i64, .int .i64, .int .i64, .int .i64, .int .i64] x2, .int .i64 x3, .int .i64 x4]] 0 1)) (E.gi (E.cell x5 i6 0)) 1 (.int .i64 0)))) ((E.gi (E.mlk (E.gm (E.cell [[.sl [.int .i64, .int .i64] x1, .mp .i64 true [.int .i64, .int .i64, .int .i64, .int .i64, .int .i64] x2, .int .i64 x3, .int .i64 x4]] 0 1)) (E.gi (E.cell x5 i6 0)) 2 (.int .i64 0)))) ((E.gi (E.mlk (E.gm (E.cell [[.sl [.int .i64, .int .i64] x1, .mp .i64 true [.int .i64, .int .i64, .int .i64, .int .i64, .int .i64] x2, .int .i64 x3, .int .i64 x4]] 0 1)) (E.gi (E.cell x5 i6 0)) 3 (.int .i64 0)))) ((E.gi (E.mlk (E.gm (E.cell [[.sl [.int .i64, .int .i64] x1, .mp .i64 true [.int .i64, .int .i64, .int .i64, .int .i64, .int .i64] x2, .int .i64 x3, .int .i64 x4]] 0 1)) (E.gi (E.cell x5 i6 0)) 4 (.int .i64 0)))) ((E.add .i64 i6 1)))
      (K7 (i1) (i2) (i3) (i4) (i5) ((E.add .i64 i6 1))))))
    (Br (E.eq i5 0)
      (Q [.int .i64 0, .int .i64 7])
      (Q [.int .i64 i1, .int .i64 0])))
  (0) (0) (0) (0) (0) (0))
theorem w22 {P : Program} {tbl : FuncId → List A → List C}  {x1 : List (List C)} {x2 : List (Int × List C)} {x3 : Int} {x4 : Int} {x5 : List (List C)} {row : List C} (h : vc22 (stdE P tbl) x1 x2 x3 x4 x5 fun c => c = row) : WPg P tbl rf22 [(false, [.int .i64]), (false, [.int .i64])] row [.el [.sl [.int .i64, .int .i64], .mp .i64 true [.int .i64, .int .i64, .int .i64, .int .i64, .int .i64], .int .i64, .int .i64] [[.sl [.int .i64, .int .i64] x1, .mp .i64 true [.int .i64, .int .i64, .int .i64, .int .i64, .int .i64] x2, .int .i64 x3, .int .i64 x4]] 0 0, .c (.sl [.int .i64] x5)] := by
  refine ⟨?_⟩
  revert h
  generalize hE : stdE P tbl = E
  intro h
  unfold vc22 at h
  cbv
  have hb8 := h.1
  refine ⟨fun hb => absurd (hb8.symm.trans hb) Bool.false_ne_true, fun _ => ?_⟩
  replace h := h.2
  obtain ⟨I, μ, h0, hI⟩ := h
  refine LoopW.inv (fun R R' s h k => RCode.wp_mono _ R R' s h k) (fun p : Int × Int × Int × Int × Int × Int => (fun (i1 : Int) (i2 : Int) (i3 : Int) (i4 : Int) (i5 : Int) (i6 : Int) => (⟨[.el [.sl [.int .i64, .int .i64], .mp .i64 true [.int .i64, .int .i64, .int .i64, .int .i64, .int .i64], .int .i64, .int .i64] [[.sl [.int .i64, .int .i64] x1, .mp .i64 true [.int .i64, .int .i64, .int .i64, .int .i64, .int .i64] x2, .int .i64 x3, .int .i64 x4]] 0 0, .u, .u, .u, .u, .u, .ptr 0 0, .u, .u, .u, .u, .u, .u, .u, .c (.sl [.int .i64] x5), .c (.int .i64 (E.len x5)), .c (.int .i64 i6), .u, .u, .u, .u, .u, .u, .u, .u, .u, .u, .u, .u, .u, .u, .u, .u, .u, .u, .u, .u, .u, .u, .u, .u, .u, .u, .u, .u, .u, .u, .u, .u, .u], [.box 73 [.c (.int .i64 i1), .c (.int .i64 i2), .c (.int .i64 i3), .c (.int .i64 i4), .c (.int .i64 i5)]]⟩ : St)) p.1 p.2.1 p.2.2.1 p.2.2.2.1 p.2.2.2.2.1 p.2.2.2.2.2) (fun p => I p.1 p.2.1 p.2.2.1 p.2.2.2.1 p.2.2.2.2.1 p.2.2.2.2.2) (fun p => μ p.1 p.2.1 p.2.2.1 p.2.2.2.1 p.2.2.2.2.1 p.2.2.2.2.2) (_, _, _, _, _, _) h0 ?_ ?_
  · refine GSt.ren [0] rfl rfl rfl (fun i hi => absurd hi (Nat.not_lt_zero i)) (Nat.zero_le _) ?_ ?_
    all_goals (repeat' (first | exact trivial | exact Or.inl rfl | exact Or.inr rfl | refine And.intro ?_ ?_))
  · rintro ⟨i1, i2, i3, i4, i5, i6⟩ h
    replace h := hI i1 i2 i3 i4 i5 i6 h
    cbv
    refine ⟨fun hb9 => ?_, fun hb9 => ?_⟩
    · replace h := h.t hb9
      have c10 := h.1
      refine ⟨c10, ?_⟩
      replace h := h.2
      refine ⟨hb9, ?_⟩
      refine ⟨⟨fun hh => hh⟩, ?_⟩
      refine ⟨⟨fun hh => hh⟩, ?_⟩
      refine ⟨⟨fun hh => hh⟩, ?_⟩
      refine ⟨⟨fun hh => hh⟩, ?_⟩
      refine ⟨⟨fun hh => hh⟩, ?_⟩
      refine ⟨⟨fun hh => hh⟩, ?_⟩
      refine ⟨⟨fun hh => hh⟩, ?_⟩
      refine ⟨⟨fun hh => hh⟩, ?_⟩
      have c11 := h.1
      refine ⟨c11, ?_⟩
      replace h := h.2
      refine ⟨⟨fun hh => hh⟩, ?_⟩
      refine ⟨fun hb12 => ?_, fun hb12 => ?_⟩
      · replace h := h.t hb12
        refine ⟨(_, _, _, _, _, _), h.1, GSt.ren [0] rfl rfl rfl (fun i hi => absurd hi (Nat.not_lt_zero i)) (Nat.zero_le _) ?_ ?_, h.2⟩
        all_goals (repeat' (first | exact trivial | exact Or.inl rfl | exact Or.inr rfl | refine And.intro ?_ ?_))
      · replace h := h.f hb12
        refine ⟨(_, _, _, _, _, _), h.1, GSt.ren [0] rfl rfl rfl (fun i hi => absurd hi (Nat.not_lt_zero i)) (Nat.zero_le _) ?_ ?_, h.2⟩
        all_goals (repeat' (first | exact trivial | exact Or.inl rfl | exact Or.inr rfl | refine And.intro ?_ ?_))
    · replace h := h.f hb9
      refine ⟨fun hb13 => ?_, fun hb13 => ?_⟩
      · replace h := h.t hb13
        have h : _ = row := h
        subst h
        repeat' (first | exact trivial | exact rfl | refine And.intro ?_ ?_)
      · replace h := h.f hb13
        have h : _ = row := h
        subst h
        repeat' (first | exact trivial | exact rfl | refine And.intro ?_ ?_)
def vc21 (E : Env) (x1 : List (List C)) (x2 : List (List C)) (x3 : Int) (x5 : Int) (Q : List C → Prop) : Prop :=
  (false = false) ∧ 
  ((E.pok 40 [(false, [.int .i64])] [.agg [.c (.sl [.int .i64, .int .i64] (E.gl (E.cell [[.sl [.int .i64, .int .i64] x1, .sl [.int .i64, .int .i64, .int .i64, .int .i64] x2, .int .i64 x3]] 0 0))), .c (.sl [.int .i64, .int .i64, .int .i64, .int .i64] (E.gl (E.cell [[.sl [.int .i64, .int .i64] x1, .sl [.int .i64, .int .i64, .int .i64, .int .i64] x2, .int .i64 x3]] 0 1))), .c (.int .i64 (E.gi (E.cell [[.sl [.int .i64, .int .i64] x1, .sl [.int .i64, .int .i64, .int .i64, .int .i64] x2, .int .i64 x3]] 0 2)))], .c (.int .i64 x5)]) ∧ (∀ r1 : Nat → C, r1 = E.res 40 [.agg [.c (.sl [.int .i64, .int .i64] (E.gl (E.cell [[.sl [.int .i64, .int .i64] x1, .sl [.int .i64, .int .i64, .int .i64, .int .i64] x2, .int .i64 x3]] 0 0))), .c (.sl [.int .i64, .int .i64, .int .i64, .int .i64] (E.gl (E.cell [[.sl [.int .i64, .int .i64] x1, .sl [.int .i64, .int .i64, .int .i64, .int .i64] x2, .int .i64 x3]] 0 1))), .c (.int .i64 (E.gi (E.cell [[.sl [.int .i64, .int .i64] x1, .sl [.int .i64, .int .i64, .int .i64, .int .i64] x2, .int .i64 x3]] 0 2)))], .c (.int .i64 x5)] → 
  (Br (E.lt (E.gi (r1 0)) 0)
  (Q [.int .i64 0, .int .i64 0, .int .i64 0, .bool false])
  (((E.le 0 (E.gi (r1 0))) = true) ∧ ((E.lt (E.gi (r1 0)) (E.len (E.gl (E.cell [[.sl [.int .i64, .int .i64] x1, .sl [.int .i64, .int .i64, .int .i64, .int .i64] x2, .int .i64 x3]] 0 1)))) = true) ∧ 
    ((E.pok 39 [(true, [.int .i64, .int .i64, .int .i64])] [.agg [.c (.int .i64 (E.gi (E.cell (E.gl (E.cell [[.sl [.int .i64, .int .i64] x1, .sl [.int .i64, .int .i64, .int .i64, .int .i64] x2, .int .i64 x3]] 0 1)) (E.gi (r1 0)) 0))), .c (.int .i64 (E.gi (E.cell (E.gl (E.cell [[.sl [.int .i64, .int .i64] x1, .sl [.int .i64, .int .i64, .int .i64, .int .i64] x2, .int .i64 x3]] 0 1)) (E.gi (r1 0)) 1))), .c (.int .i64 (E.gi (E.cell (E.gl (E.cell [[.sl [.int .i64, .int .i64] x1, .sl [.int .i64, .int .i64, .int .i64, .int .i64] x2, .int .i64 x3]] 0 1)) (E.gi (r1 0)) 2))), .c (.int .i64 (E.gi (E.cell (E.gl (E.cell [[.sl [.int .i64, .int .i64] x1, .sl [.int .i64, .int .i64, .int .i64, .int .i64] x2, .int .i64 x3]] 0 1)) (E.gi (r1 0)) 3)))]]) ∧ (∀ r2 : Nat → C, r2 = E.res 39 [.agg [.c (.int .i64 (E.gi (E.cell (E.gl (E.cell [[.sl [.int .i64, .int .i64] x1, .sl [.int .i64, .int .i64, .int .i64, .int .i64] x2, .int .i64 x3]] 0 1)) (E.gi (r1 0)) 0))), .c (.int .i64 (E.gi (E.cell (E.gl (E.cell [[.sl [.int .i64, .int .i64] x1, .sl [.int .i64, .int .i64, .int .i64, .int .i64] x2, .int .i64 x3]] 0 1)) (E.gi (r1 0)) 1))), .c (.int .i64 (E.gi (E.cell (E.gl (E.cell [[.sl [.int .i64, .int .i64] x1, .sl [.int .i64, .int .i64, .int .i64, .int .i64] x2, .int .i64 x3]] 0 1)) (E.gi (r1 0)) 2))), .c (.int .i64 (E.gi (E.cell (E.gl (E.cell [[.sl [.int .i64, .int .i64] x1, .sl [.int .i64, .int .i64, .int .i64, .int .i64] x2, .int .i64 x3]] 0 1)) (E.gi (r1 0)) 3)))]] → 
    (Q [.int .i64 (E.gi (r2 0)), .int .i64 (E.gi (r2 1)), .int .i64 (E.gi (r2 2)), .bool true])))))))
theorem w21 {P : Program} {tbl : FuncId → List A → List C}  {x1 : List (List C)} {x2 : List (List C)} {x3 : Int} {x5 : Int} {row : List C} (h : vc21 (stdE P tbl) x1 x2 x3 x5 fun c => c = row) : WPg P tbl rf21 [(true, [.int .i64, .int .i64, .int .i64]), (false, [.bool])] row [.el [.sl [.int .i64, .int .i64], .sl [.int .i64, .int .i64, .int .i64, .int .i64], .int .i64] [[.sl [.int .i64, .int .i64] x1, .sl [.int .i64, .int .i64, .int .i64, .int .i64] x2, .int .i64 x3]] 0 0, .c (.int .i64 x5)] := by
  refine ⟨?_⟩
  revert h
  generalize hE : stdE P tbl = E
  intro h
  unfold vc21 at h
  cbv
  have hb3 := h.1
  refine ⟨fun hb => absurd (hb3.symm.trans hb) Bool.false_ne_true, fun _ => ?_⟩
  replace h := h.2
  have c4 := h.1
  refine ⟨c4, ?_⟩
  replace h := h.2 _ rfl
  refine ⟨fun hb5 => ?_, fun hb5 => ?_⟩
  · replace h := h.t hb5
    have h : _ = row := h
    subst h
    repeat' (first | exact trivial | exact rfl | refine And.intro ?_ ?_)
  · replace h := h.f hb5
    have c6 := h.1
    refine ⟨c6, ?_⟩
    replace h := h.2
    have c7 := h.1
    refine ⟨c7, ?_⟩
    replace h := h.2
    have c8 := h.1
    refine ⟨c8, ?_⟩
    replace h := h.2 _ rfl
    have h : _ = row := h
    subst h
    repeat' (first | exact trivial | exact rfl | refine And.intro ?_ ?_)
def vc23 (E : Env) (x1 : List (List C)) (x2 : List (List C)) (x3 : Int) (x5 : List (List C)) (Q : List C → Prop) : Prop :=
  (false = false) ∧ 
  (LoopP1 (fun (i1 : Int) (K2 : (Int) → Prop) =>
  Br (E.lt i1 (E.len (E.gl (E.cell [[.sl [.int .i64, .int .i64] x1, .sl [.int .i64, .int .i64, .int .i64, .int .i64] x2, .int .i64 x3]] 0 1))))
    (LoopP1 (fun (i3 : Int) (K4 : (Int) → Prop) =>
      Br (E.lt i3 (E.len x5))
        (((E.le 0 i3) = true) ∧ 
          (((E.le 0 i1) = true) ∧ 
          (Br (E.eq (E.gi (E.cell x5 i3 0)) (E.gi (E.cell (E.gl (E.cell [[.sl [.int .i64, .int .i64] x1, .sl [.int .i64, .int .i64, .int .i64, .int .i64] x2, .int .i64 x3]] 0 1)) i1 0)))
          (Q [.int .i64 (E.gi (E.cell x5 i3 0)), .int .i64 0])
          (K4 ((E.add .i64 i3 1))))))
        (K2 ((E.add .i64 i1 1))))
      (0))
    (Q [.int .i64 0, .int .i64 7]))
  (0))
theorem w23 {P : Program} {tbl : FuncId → List A → List C}  {x1 : List (List C)} {x2 : List (List C)} {x3 : Int} {x5 : List (List C)} {row : List C} (h : vc23 (stdE P tbl) x1 x2 x3 x5 fun c => c = row) : WPg P tbl rf23 [(false, [.int .i64]), (false, [.int .i64])] row [.el [.sl [.int .i64, .int .i64], .sl [.int .i64, .int .i64, .int .i64, .int .i64], .int .i64] [[.sl [.int .i64, .int .i64] x1, .sl [.int .i64, .int .i64, .int .i64, .int .i64] x2, .int .i64 x3]] 0 0, .c (.sl [.int .i64] x5)] := by
  refine ⟨?_⟩
  revert h
  generalize hE : stdE P tbl = E
  intro h
  unfold vc23 at h
  cbv
  have hb5 := h.1
  refine ⟨fun hb => absurd (hb5.symm.trans hb) Bool.false_ne_true, fun _ => ?_⟩
  replace h := h.2
  obtain ⟨I, μ, h0, hI⟩ := h
  refine LoopW.inv (fun R R' s h k => RCode.wp_mono _ R R' s h k) (fun p : Int => (fun (i1 : Int) => (⟨[.el [.sl [.int .i64, .int .i64], .sl [.int .i64, .int .i64, .int .i64, .int .i64], .int .i64] [[.sl [.int .i64, .int .i64] x1, .sl [.int .i64, .int .i64, .int .i64, .int .i64] x2, .int .i64 x3]] 0 0, .c (.sl [.int .i64] x5), .u, .u, .u, .u, .c (.int .i64 i1), .u, .u, .u, .u, .u, .u, .u, .u, .u, .u, .u, .u, .u, .u, .u, .u, .u, .u, .u, .u, .u, .u, .u, .u, .u, .u, .u, .u, .u, .u, .u, .u, .u, .u, .u], []⟩ : St)) p) (fun p => I p) (fun p => μ p) _ h0 ?_ ?_
  · refine GSt.ren [] rfl rfl rfl (fun i hi => absurd hi (Nat.not_lt_zero i)) (Nat.zero_le _) ?_ ?_
    all_goals (repeat' (first | exact trivial | exact Or.inl rfl | exact Or.inr rfl | refine And.intro ?_ ?_))
  · rintro i1 h
    replace h := hI i1 h
    cbv
    refine ⟨fun hb6 => ?_, fun hb6 => ?_⟩
    · replace h := h.t hb6
      obtain ⟨I, μ, h0, hI⟩ := h
      refine LoopW.inv (fun R R' s h k => RCode.wp_mono _ R R' s h k) (fun p : Int => (fun (i3 : Int) => (⟨[.el [.sl [.int .i64, .int .i64], .sl [.int .i64, .int .i64, .int .i64, .int .i64], .int .i64] [[.sl [.int .i64, .int .i64] x1, .sl [.int .i64, .int .i64, .int .i64, .int .i64] x2, .int .i64 x3]] 0 0, .c (.sl [.int .i64] x5), .u, .u, .u, .u, .c (.int .i64 i1), .c (.int .i64 i3), .u, .u, .u, .u, .u, .u, .u, .u, .u, .u, .u, .u, .u, .u, .u, .u, .u, .u, .u, .u, .u, .u, .u, .u, .u, .u, .u, .u, .u, .u, .u, .u, .u, .u], []⟩ : St)) p) (fun p => I p) (fun p => μ p) _ h0 ?_ ?_
      · refine GSt.ren [] rfl rfl rfl (fun i hi => absurd hi (Nat.not_lt_zero i)) (Nat.zero_le _) ?_ ?_
        all_goals (repeat' (first | exact trivial | exact Or.inl rfl | exact Or.inr rfl | refine And.intro ?_ ?_))
      · rintro i3 h
        replace h := hI i3 h
        cbv
        refine ⟨fun hb7 => ?_, fun hb7 => ?_⟩
        · replace h := h.t hb7
          have c8 := h.1
          refine ⟨c8, ?_⟩
          replace h := h.2
          refine ⟨hb7, ?_⟩
          have c9 := h.1
          refine ⟨c9, ?_⟩
          replace h := h.2
          refine ⟨hb6, ?_⟩
          refine ⟨fun hb10 => ?_, fun hb10 => ?_⟩
          · replace h := h.t hb10
            refine ⟨c8, ?_⟩
            refine ⟨hb7, ?_⟩
            have h : _ = row := h
            subst h
            repeat' (first | exact trivial | exact rfl | refine And.intro ?_ ?_)
          · replace h := h.f hb10
            refine ⟨_, h.1, GSt.ren [] rfl rfl rfl (fun i hi => absurd hi (Nat.not_lt_zero i)) (Nat.zero_le _) ?_ ?_, h.2⟩
            all_goals (repeat' (first | exact trivial | exact Or.inl rfl | exact Or.inr rfl | refine And.intro ?_ ?_))
        · replace h := h.f hb7
          refine ⟨_, h.1, GSt.ren [] rfl rfl rfl (fun i hi => absurd hi (Nat.not_lt_zero i)) (Nat.zero_le _) ?_ ?_, h.2⟩
          all_goals (repeat' (first | exact trivial | exact Or.inl rfl | exact Or.inr rfl | refine And.intro ?_ ?_))
    · replace h := h.f hb6
      have h : _ = row := h
      subst h
      repeat' (first | exact trivial | exact rfl | refine And.intro ?_ ?_)
def vc20N (E : Env) (x5 : Int) (Q : List C → Prop) : Prop :=
  (true = true) ∧ 
  (Q [.int .i64 0, .int .i64 0, .int .i64 0, .bool false])
theorem w20N {P : Program} {tbl : FuncId → List A → List C}  {x5 : Int} {row : List C} (h : vc20N (stdE P tbl) x5 fun c => c = row) : WPg P tbl rf20 [(true, [.int .i64, .int .i64, .int .i64]), (false, [.bool])] row [.np, .c (.int .i64 x5)] := by
  refine ⟨?_⟩
  revert h
  generalize hE : stdE P tbl = E
  intro h
  unfold vc20N at h
  cbv
  have hb1 := h.1
  refine ⟨fun _ => ?_, fun hb => absurd (hb.symm.trans hb1) Bool.false_ne_true⟩
  replace h := h.2
  have h : _ = row := h
  subst h
  repeat' (first | exact trivial | exact rfl | refine And.intro ?_ ?_)
def vc22N (E : Env) (x5 : List (List C)) (Q : List C → Prop) : Prop :=
  (true = true) ∧ 
  (Q [.int .i64 0, .int .i64 14])
theorem w22N {P : Program} {tbl : FuncId → List A → List C}  {x5 : List (List C)} {row : List C} (h : vc22N (stdE P tbl) x5 fun c => c = row) : WPg P tbl rf22 [(false, [.int .i64]), (false, [.int .i64])] row [.np, .c (.sl [.int .i64] x5)] := by
  refine ⟨?_⟩
  revert h
  generalize hE : stdE P tbl = E
  intro h
  unfold vc22N at h
  cbv
  have hb1 := h.1
  refine ⟨fun _ => ?_, fun hb => absurd (hb.symm.trans hb1) Bool.false_ne_true⟩
  replace h := h.2
  have h : _ = row := h
  subst h
  repeat' (first | exact trivial | exact rfl | refine And.intro ?_ ?_)
def vc14 (E : Env) (x1 : List (List C)) (x2 : List (List C)) (Q : List C → Prop) : Prop :=
  Br (E.not (E.eq (E.len x1) (E.len x2)))
  (Q [.bool false])
  (LoopP1 (fun (i3 : Int) (K4 : (Int) → Prop) =>
    Br (E.lt i3 (E.len x1))
      (((E.le 0 i3) = true) ∧ 
        (((E.lt i3 (E.len x2)) = true) ∧ 
        (Br (E.not (E.eq (E.gi (E.cell x1 i3 0)) (E.gi (E.cell x2 i3 0))))
        (Q [.bool false])
        (K4 ((E.add .i64 i3 1))))))
      (Q [.bool true]))
    (0))
theorem w14 {P : Program} {tbl : FuncId → List A → List C}  {x1 : List (List C)} {x2 : List (List C)} {row : List C} (h : vc14 (stdE P tbl) x1 x2 fun c => c = row) : WPg P tbl rf14 [(false, [.bool])] row [.c (.sl [.int .i64] x1), .c (.sl [.int .i64] x2)] := by
  refine ⟨?_⟩
  revert h
  generalize hE : stdE P tbl = E
  intro h
  unfold vc14 at h
  cbv
  refine ⟨fun hb5 => ?_, fun hb5 => ?_⟩
  · replace h := h.t hb5
    have h : _ = row := h
    subst h
    repeat' (first | exact trivial | exact rfl | refine And.intro ?_ ?_)
  · replace h := h.f hb5
    obtain ⟨I, μ, h0, hI⟩ := h
    refine LoopW.inv (fun R R' s h k => RCode.wp_mono _ R R' s h k) (fun p : Int => (fun (i3 : Int) => (⟨[.c (.sl [.int .i64] x1), .c (.sl [.int .i64] x2), .u, .u, .u, .c (.int .i64 i3), .u, .u, .u, .u, .u, .u, .u, .u, .u, .u, .u, .u, .u, .u, .u, .u, .u, .u, .u, .u], []⟩ : St)) p) (fun p => I p) (fun p => μ p) _ h0 ?_ ?_
    · refine GSt.ren [] rfl rfl rfl (fun i hi => absurd hi (Nat.not_lt_zero i)) (Nat.zero_le _) ?_ ?_
      all_goals (repeat' (first | exact trivial | exact Or.inl rfl | exact Or.inr rfl | refine And.intro ?_ ?_))
    · rintro i3 h
      replace h := hI i3 h
      cbv
      refine ⟨fun hb6 => ?_, fun hb6 => ?_⟩
      · replace h := h.t hb6
        have c7 := h.1
        refine ⟨c7, ?_⟩
        replace h := h.2
        refine ⟨hb6, ?_⟩
        refine ⟨c7, ?_⟩
        have c8 := h.1
        refine ⟨c8, ?_⟩
        replace h := h.2
        refine ⟨fun hb9 => ?_, fun hb9 => ?_⟩
        · replace h := h.t hb9
          have h : _ = row := h
          subst h
          repeat' (first | exact trivial | exact rfl | refine And.intro ?_ ?_)
        · replace h := h.f hb9
          refine ⟨_, h.1, GSt.ren [] rfl rfl rfl (fun i hi => absurd hi (Nat.not_lt_zero i)) (Nat.zero_le _) ?_ ?_, h.2⟩
          all_goals (repeat' (first | exact trivial | exact Or.inl rfl | exact Or.inr rfl | refine And.intro ?_ ?_))
      · replace h := h.f hb6
        have h : _ = row := h
        subst h
        repeat' (first | exact trivial | exact rfl | refine And.intro ?_ ?_)
def vc19 (E : Env) (x1 : List (List C)) (x2 : List (List C)) (Q : List C → Prop) : Prop :=
  Br (E.not (E.eq (E.len x1) (E.len x2)))
  (Q [.bool false])
  (LoopP1 (fun (i3 : Int) (K4 : (Int) → Prop) =>
    Br (E.lt i3 (E.len x1))
      (((E.le 0 i3) = true) ∧ 
        (((E.lt i3 (E.len x2)) = true) ∧ 
        (Br (E.not (E.and (E.eq (E.gi (E.cell x1 i3 0)) (E.gi (E.cell x2 i3 0))) (E.and (E.eq (E.gi (E.cell x1 i3 1)) (E.gi (E.cell x2 i3 1))) (E.and (E.eq (E.gi (E.cell x1 i3 2)) (E.gi (E.cell x2 i3 2))) true))))
        (Q [.bool false])
        (K4 ((E.add .i64 i3 1))))))
      (Q [.bool true]))
    (0))
theorem w19 {P : Program} {tbl : FuncId → List A → List C}  {x1 : List (List C)} {x2 : List (List C)} {row : List C} (h : vc19 (stdE P tbl) x1 x2 fun c => c = row) : WPg P tbl rf19 [(false, [.bool])] row [.c (.sl [.int .i64, .int .i64, .int .i64] x1), .c (.sl [.int .i64, .int .i64, .int .i64] x2)] := by
  refine ⟨?_⟩
  revert h
  generalize hE : stdE P tbl = E
  intro h
  unfold vc19 at h
  cbv
  refine ⟨fun hb5 => ?_, fun hb5 => ?_⟩
  · replace h := h.t hb5
    have h : _ = row := h
    subst h
    repeat' (first | exact trivial | exact rfl | refine And.intro ?_ ?_)
  · replace h := h.f hb5
    obtain ⟨I, μ, h0, hI⟩ := h
    refine LoopW.inv (fun R R' s h k => RCode.wp_mono _ R R' s h k) (fun p : Int => (fun (i3 : Int) => (⟨[.c (.sl [.int .i64, .int .i64, .int .i64] x1), .c (.sl [.int .i64, .int .i64, .int .i64] x2), .u, .u, .u, .c (.int .i64 i3), .u, .u, .u, .u, .u, .u, .u, .u, .u, .u, .u, .u, .u, .u, .u, .u, .u, .u, .u, .u], []⟩ : St)) p) (fun p => I p) (fun p => μ p) _ h0 ?_ ?_
    · refine GSt.ren [] rfl rfl rfl (fun i hi => absurd hi (Nat.not_lt_zero i)) (Nat.zero_le _) ?_ ?_
      all_goals (repeat' (first | exact trivial | exact Or.inl rfl | exact Or.inr rfl | refine And.intro ?_ ?_))
    · rintro i3 h
      replace h := hI i3 h
      cbv
      refine ⟨fun hb6 => ?_, fun hb6 => ?_⟩
      · replace h := h.t hb6
        have c7 := h.1
        refine ⟨c7, ?_⟩
        replace h := h.2
        refine ⟨hb6, ?_⟩
        refine ⟨c7, ?_⟩
        have c8 := h.1
        refine ⟨c8, ?_⟩
        replace h := h.2
        refine ⟨fun hb9 => ?_, fun hb9 => ?_⟩
        · replace h := h.t hb9
          have h : _ = row := h
          subst h
          repeat' (first | exact trivial | exact rfl | refine And.intro ?_ ?_)
        · replace h := h.f hb9
          refine ⟨_, h.1, GSt.ren [] rfl rfl rfl (fun i hi => absurd hi (Nat.not_lt_zero i)) (Nat.zero_le _) ?_ ?_, h.2⟩
          all_goals (repeat' (first | exact trivial | exact Or.inl rfl | exact Or.inr rfl | refine And.intro ?_ ?_))
      · replace h := h.f hb6
        have h : _ = row := h
        subst h
        repeat' (first | exact trivial | exact rfl | refine And.intro ?_ ?_)
def vc33 (E : Env) (x1 : List (List C)) (x2 : List (List C)) (x3 : Int) (x4 : Int) (Q : List C → Prop) : Prop :=
  LoopP2 (fun (i5 : Int) (i6 : Int) (K7 : (Int) → (Int) → Prop) =>
  Br (E.lt i6 (E.len x2))
    (((E.le 0 i6) = true) ∧ 
      (Br (E.eq (E.gi (E.cell x2 i6 2)) x4)
      (K7 ((E.add .i64 i5 1)) ((E.add .i64 i6 1)))
      (K7 (i5) ((E.add .i64 i6 1)))))
    (Q [.int .i64 i5]))
  (0) (0)
theorem w33 {P : Program} {tbl : FuncId → List A → List C}  {x1 : List (List C)} {x2 : List (List C)} {x3 : Int} {x4 : Int} {row : List C} (h : vc33 (stdE P tbl) x1 x2 x3 x4 fun c => c = row) : WPg P tbl rf33 [(false, [.int .i64])] row [.agg [.c (.sl [.int .i64, .int .i64] x1), .c (.sl [.int .i64, .int .i64, .int .i64, .int .i64] x2), .c (.int .i64 x3)], .c (.int .i64 x4)] := by
  refine ⟨?_⟩
  revert h
  generalize hE : stdE P tbl = E
  intro h
  unfold vc33 at h
  cbv
  obtain ⟨I, μ, h0, hI⟩ := h
  refine LoopW.inv (fun R R' s h k => RCode.wp_mono _ R R' s h k) (fun p : Int × Int => (fun (i5 : Int) (i6 : Int) => (⟨[.u, .c (.int .i64 x4), .ptr 0 0, .u, .u, .c (.int .i64 i5), .c (.int .i64 i6), .u, .u, .u, .u, .u, .u, .u, .u, .u, .u, .u, .u, .u, .u, .u, .u, .u, .u], [.box 68 [.c (.sl [.int .i64, .int .i64] x1), .c (.sl [.int .i64, .int .i64, .int .i64, .int .i64] x2), .c (.int .i64 x3)]]⟩ : St)) p.1 p.2) (fun p => I p.1 p.2) (fun p => μ p.1 p.2) (_, _) h0 ?_ ?_
  · refine GSt.ren [0] rfl rfl rfl (fun i hi => absurd hi (Nat.not_lt_zero i)) (Nat.zero_le _) ?_ ?_
    all_goals (repeat' (first | exact trivial | exact Or.inl rfl | exact Or.inr rfl | refine And.intro ?_ ?_))
  · rintro ⟨i5, i6⟩ h
    replace h := hI i5 i6 h
    cbv
    refine ⟨fun hb8 => ?_, fun hb8 => ?_⟩
    · replace h := h.t hb8
      have c9 := h.1
      refine ⟨c9, ?_⟩
      replace h := h.2
      refine ⟨hb8, ?_⟩
      refine ⟨fun hb10 => ?_, fun hb10 => ?_⟩
      · replace h := h.t hb10
        refine ⟨(_, _), h.1, GSt.ren [0] rfl rfl rfl (fun i hi => absurd hi (Nat.not_lt_zero i)) (Nat.zero_le _) ?_ ?_, h.2⟩
        all_goals (repeat' (first | exact trivial | exact Or.inl rfl | exact Or.inr rfl | refine And.intro ?_ ?_))
      · replace h := h.f hb10
        refine ⟨(_, _), h.1, GSt.ren [0] rfl rfl rfl (fun i hi => absurd hi (Nat.not_lt_zero i)) (Nat.zero_le _) ?_ ?_, h.2⟩
        all_goals (repeat' (first | exact trivial | exact Or.inl rfl | exact Or.inr rfl | refine And.intro ?_ ?_))
    · replace h := h.f hb8
      have h : _ = row := h
      subst h
      repeat' (first | exact trivial | exact rfl | refine And.intro ?_ ?_)
def vc38 (E : Env) (x1 : List (List C)) (x2 : List (List C)) (x3 : Int) (x4 : Int) (Q : List C → Prop) : Prop :=
  Q [.bool (E.bite (E.le 0 x4) (E.lt x4 (E.len x1)) false)]
theorem w38 {P : Program} {tbl : FuncId → List A → List C}  {x1 : List (List C)} {x2 : List (List C)} {x3 : Int} {x4 : Int} {row : List C} (h : vc38 (stdE P tbl) x1 x2 x3 x4 fun c => c = row) : WPg P tbl rf38 [(false, [.bool])] row [.agg [.c (.sl [.int .i64, .int .i64] x1), .c (.sl [.int .i64, .int .i64, .int .i64, .int .i64] x2), .c (.int .i64 x3)], .c (.int .i64 x4)] := by
  refine ⟨?_⟩
  revert h
  generalize hE : stdE P tbl = E
  intro h
  unfold vc38 at h
  cbv
  refine ⟨⟨fun hh => hh⟩, ?_⟩
  refine ⟨⟨fun hh => hh⟩, ?_⟩
  refine ⟨⟨fun hh => hh⟩, ?_⟩
  refine ⟨⟨fun hh => hh⟩, ?_⟩
  refine ⟨⟨fun hh => hh⟩, ?_⟩
  have h : _ = row := h
  subst h
  repeat' (first | exact trivial | exact rfl | refine And.intro ?_ ?_)
def vc39 (E : Env) (x1 : Int) (x2 : Int) (x3 : Int) (x4 : Int) (Q : List C → Prop) : Prop :=
  Q [.int .i64 x1, .int .i64 x3, .int .i64 x4]
theorem w39 {P : Program} {tbl : FuncId → List A → List C}  {x1 : Int} {x2 : Int} {x3 : Int} {x4 : Int} {row : List C} (h : vc39 (stdE P tbl) x1 x2 x3 x4 fun c => c = row) : WPg P tbl rf39 [(true, [.int .i64, .int .i64, .int .i64])] row [.agg [.c (.int .i64 x1), .c (.int .i64 x2), .c (.int .i64 x3), .c (.int .i64 x4)]] := by
  refine ⟨?_⟩
  revert h
  generalize hE : stdE P tbl = E
  intro h
  unfold vc39 at h
  cbv
  have h : _ = row := h
  subst h
  repeat' (first | exact trivial | exact rfl | refine And.intro ?_ ?_)
def vc40 (E : Env) (x1 : List (List C)) (x2 : List (List C)) (x3 : Int) (x4 : Int) (Q : List C → Prop) : Prop :=
  LoopP1 (fun (i5 : Int) (K6 : (Int) → Prop) =>
  Br (E.lt i5 (E.len x2))
    (((E.le 0 i5) = true) ∧ 
      (Br (E.eq (E.gi (E.cell x2 i5 0)) x4)
      (Q [.int .i64 i5])
      (K6 ((E.add .i64 i5 1)))))
    (Q [.int .i64 (-1)]))
  (0)
theorem w40 {P : Program} {tbl : FuncId → List A → List C}  {x1 : List (List C)} {x2 : List (List C)} {x3 : Int} {x4 : Int} {row : List C} (h : vc40 (stdE P tbl) x1 x2 x3 x4 fun c => c = row) : WPg P tbl rf40 [(false, [.int .i64])] row [.agg [.c (.sl [.int .i64, .int .i64] x1), .c (.sl [.int .i64, .int .i64, .int .i64, .int .i64] x2), .c (.int .i64 x3)], .c (.int .i64 x4)] := by
  refine ⟨?_⟩
  revert h
  generalize hE : stdE P tbl = E
  intro h
  unfold vc40 at h
  cbv
  obtain ⟨I, μ, h0, hI⟩ := h
  refine LoopW.inv (fun R R' s h k => RCode.wp_mono _ R R' s h k) (fun p : Int => (fun (i5 : Int) => (⟨[.u, .c (.int .i64 x4), .ptr 0 0, .u, .u, .c (.int .i64 i5), .u, .u, .u, .u, .u, .u, .u, .u, .u, .u, .u, .u, .u, .u, .u, .u], [.box 68 [.c (.sl [.int .i64, .int .i64] x1), .c (.sl [.int .i64, .int .i64, .int .i64, .int .i64] x2), .c (.int .i64 x3)]]⟩ : St)) p) (fun p => I p) (fun p => μ p) _ h0 ?_ ?_
  · refine GSt.ren [0] rfl rfl rfl (fun i hi => absurd hi (Nat.not_lt_zero i)) (Nat.zero_le _) ?_ ?_
    all_goals (repeat' (first | exact trivial | exact Or.inl rfl | exact Or.inr rfl | refine And.intro ?_ ?_))
  · rintro i5 h
    replace h := hI i5 h
    cbv
    refine ⟨fun hb7 => ?_, fun hb7 => ?_⟩
    · replace h := h.t hb7
      have c8 := h.1
      refine ⟨c8, ?_⟩
      replace h := h.2
      refine ⟨hb7, ?_⟩
      refine ⟨fun hb9 => ?_, fun hb9 => ?_⟩
      · replace h := h.t hb9
        have h : _ = row := h
        subst h
        repeat' (first | exact trivial | exact rfl | refine And.intro ?_ ?_)
      · replace h := h.f hb9
        refine ⟨_, h.1, GSt.ren [0] rfl rfl rfl (fun i hi => absurd hi (Nat.not_lt_zero i)) (Nat.zero_le _) ?_ ?_, h.2⟩
        all_goals (repeat' (first | exact trivial | exact Or.inl rfl | exact Or.inr rfl | refine And.intro ?_ ?_))
    · replace h := h.f hb7
      have h : _ = row := h
      subst h
      repeat' (first | exact trivial | exact rfl | refine And.intro ?_ ?_)
def vc42 (E : Env) (x1 : Int) (Q : List C → Prop) : Prop :=
  Q [.bool (E.bite (E.le 0 x1) (E.le x1 2147483647) false)]
theorem w42 {P : Program} {tbl : FuncId → List A → List C}  {x1 : Int} {row : List C} (h : vc42 (stdE P tbl) x1 fun c => c = row) : WPg P tbl rf42 [(false, [.bool])] row [.c (.int .i64 x1)] := by
  refine ⟨?_⟩
  revert h
  generalize hE : stdE P tbl = E
  intro h
  unfold vc42 at h
  cbv
  refine ⟨⟨fun hh => hh⟩, ?_⟩
  refine ⟨⟨fun hh => hh⟩, ?_⟩
  have h : _ = row := h
  subst h
  repeat' (first | exact trivial | exact rfl | refine And.intro ?_ ?_)
def vc44 (E : Env) (x1 : List (List C)) (x2 : List (List C)) (x3 : Int) (x4 : Int) (x5 : Int) (x6 : Int) (x7 : Int) (Q : List C → Prop) : Prop :=
  (Imp (E.not (E.bite (E.bite (E.bite (E.lt x4 1) true (E.lt 1000000 x4)) true (E.lt x5 1)) true (E.lt 12000 x5))) (E.pok 50 [(false, [.bool])] [.c (.int .i64 x7)])) ∧ (∀ r8 : Nat → C, r8 = E.res 50 [.c (.int .i64 x7)] → 
  (Br (E.bite (E.bite (E.bite (E.bite (E.lt x4 1) true (E.lt 1000000 x4)) true (E.lt x5 1)) true (E.lt 12000 x5)) true (E.not (E.gb (r8 0))))
  (Q [.sl [.int .i64, .int .i64] x1, .sl [.int .i64, .int .i64, .int .i64, .int .i64] x2, .int .i64 x3, .int .i64 1])
  ((E.pok 40 [(false, [.int .i64])] [.agg [.c (.sl [.int .i64, .int .i64] x1), .c (.sl [.int .i64, .int .i64, .int .i64, .int .i64] x2), .c (.int .i64 x3)], .c (.int .i64 x4)]) ∧ (∀ r9 : Nat → C, r9 = E.res 40 [.agg [.c (.sl [.int .i64, .int .i64] x1), .c (.sl [.int .i64, .int .i64, .int .i64, .int .i64] x2), .c (.int .i64 x3)], .c (.int .i64 x4)] → 
    (Br (E.le 0 (E.gi (r9 0)))
    (Q [.sl [.int .i64, .int .i64] x1, .sl [.int .i64, .int .i64, .int .i64, .int .i64] x2, .int .i64 x3, .int .i64 6])
    ((E.pok 38 [(false, [.bool])] [.agg [.c (.sl [.int .i64, .int .i64] x1), .c (.sl [.int .i64, .int .i64, .int .i64, .int .i64] x2), .c (.int .i64 x3)], .c (.int .i64 x6)]) ∧ (∀ r10 : Nat → C, r10 = E.res 38 [.agg [.c (.sl [.int .i64, .int .i64] x1), .c (.sl [.int .i64, .int .i64, .int .i64, .int .i64] x2), .c (.int .i64 x3)], .c (.int .i64 x6)] → 
      (Br (E.not (E.gb (r10 0)))
      (Q [.sl [.int .i64, .int .i64] x1, .sl [.int .i64, .int .i64, .int .i64, .int .i64] x2, .int .i64 x3, .int .i64 7])
      (((E.le 0 x6) = true) ∧ ((E.lt x6 (E.len x1)) = true) ∧ 
        (Br (E.lt (E.gi (E.cell x1 x6 1)) x5)
        (Q [.sl [.int .i64, .int .i64] x1, .sl [.int .i64, .int .i64, .int .i64, .int .i64] x2, .int .i64 x3, .int .i64 20])
        (Br (E.lt x7 x3)
          (Q [.sl [.int .i64, .int .i64] x1, .sl [.int .i64, .int .i64, .int .i64, .int .i64] x2, .int .i64 x3, .int .i64 9])
          ((E.pok 33 [(false, [.int .i64])] [.agg [.c (.sl [.int .i64, .int .i64] x1), .c (.sl [.int .i64, .int .i64, .int .i64, .int .i64] x2), .c (.int .i64 x3)], .c (.int .i64 x6)]) ∧ (∀ r11 : Nat → C, r11 = E.res 33 [.agg [.c (.sl [.int .i64, .int .i64] x1), .c (.sl [.int .i64, .int .i64, .int .i64, .int .i64] x2), .c (.int .i64 x3)], .c (.int .i64 x6)] → 
            (Br (E.le (E.gi (E.cell x1 x6 0)) (E.gi (r11 0)))
            (Q [.sl [.int .i64, .int .i64] x1, .sl [.int .i64, .int .i64, .int .i64, .int .i64] x2, .int .i64 x3, .int .i64 8])
            ((E.pok 51 [(true, [.sl [.int .i64, .int .i64], .sl [.int .i64, .int .i64, .int .i64, .int .i64], .int .i64])] [.agg [.c (.sl [.int .i64, .int .i64] x1), .c (.sl [.int .i64, .int .i64, .int .i64, .int .i64] x2), .c (.int .i64 x3)], .agg [.c (.int .i64 x4), .c (.int .i64 x5), .c (.int .i64 x6), .c (.int .i64 x7)]]) ∧ (∀ r12 : Nat → C, r12 = E.res 51 [.agg [.c (.sl [.int .i64, .int .i64] x1), .c (.sl [.int .i64, .int .i64, .int .i64, .int .i64] x2), .c (.int .i64 x3)], .agg [.c (.int .i64 x4), .c (.int .i64 x5), .c (.int .i64 x6), .c (.int .i64 x7)]] → 
              (Q [.sl [.int .i64, .int .i64] (E.gl (r12 0)), .sl [.int .i64, .int .i64, .int .i64, .int .i64] (E.gl (r12 1)), .int .i64 (E.gi (r12 2)), .int .i64 0])))))))))))))))))
theorem w44 {P : Program} {tbl : FuncId → List A → List C}  {x1 : List (List C)} {x2 : List (List C)} {x3 : Int} {x4 : Int} {x5 : Int} {x6 : Int} {x7 : Int} {row : List C} (h : vc44 (stdE P tbl) x1 x2 x3 x4 x5 x6 x7 fun c => c = row) : WPg P tbl rf44 [(true, [.sl [.int .i64, .int .i64], .sl [.int .i64, .int .i64, .int .i64, .int .i64], .int .i64]), (false, [.int .i64])] row [.agg [.c (.sl [.int .i64, .int .i64] x1), .c (.sl [.int .i64, .int .i64, .int .i64, .int .i64] x2), .c (.int .i64 x3)], .c (.int .i64 x4), .c (.int .i64 x5), .c (.int .i64 x6), .c (.int .i64 x7)] := by
  refine ⟨?_⟩
  revert h
  generalize hE : stdE P tbl = E
  intro h
  unfold vc44 at h
  cbv
  refine ⟨⟨fun hh => hh⟩, ?_⟩
  refine ⟨⟨fun hh => hh⟩, ?_⟩
  refine ⟨⟨fun hh => hh⟩, ?_⟩
  refine ⟨⟨fun hh => hh⟩, ?_⟩
  refine ⟨⟨fun hh => hh⟩, ?_⟩
  refine ⟨⟨fun hh => hh⟩, ?_⟩
  refine ⟨⟨fun hh => hh⟩, ?_⟩
  have c13 := h.1
  refine ⟨c13, ?_⟩
  replace h := h.2 _ rfl
  refine ⟨⟨fun hh => hh⟩, ?_⟩
  refine ⟨⟨fun hh => hh⟩, ?_⟩
  refine ⟨fun hb14 => ?_, fun hb14 => ?_⟩
  · replace h := h.t hb14
    have h : _ = row := h
    subst h
    repeat' (first | exact trivial | exact rfl | refine And.intro ?_ ?_)
  · replace h := h.f hb14
    have c15 := h.1
    refine ⟨c15, ?_⟩
    replace h := h.2 _ rfl
    refine ⟨fun hb16 => ?_, fun hb16 => ?_⟩
    · replace h := h.t hb16
      have h : _ = row := h
      subst h
      repeat' (first | exact trivial | exact rfl | refine And.intro ?_ ?_)
    · replace h := h.f hb16
      have c17 := h.1
      refine ⟨c17, ?_⟩
      replace h := h.2 _ rfl
      refine ⟨fun hb18 => ?_, fun hb18 => ?_⟩
      · replace h := h.t hb18
        have h : _ = row := h
        subst h
        repeat' (first | exact trivial | exact rfl | refine And.intro ?_ ?_)
      · replace h := h.f hb18
        have c19 := h.1
        refine ⟨c19, ?_⟩
        replace h := h.2
        have c20 := h.1
        refine ⟨c20, ?_⟩
        replace h := h.2
        refine ⟨fun hb21 => ?_, fun hb21 => ?_⟩
        · replace h := h.t hb21
          have h : _ = row := h
          subst h
          repeat' (first | exact trivial | exact rfl | refine And.intro ?_ ?_)
        · replace h := h.f hb21
          refine ⟨fun hb22 => ?_, fun hb22 => ?_⟩
          · replace h := h.t hb22
            have h : _ = row := h
            subst h
            repeat' (first | exact trivial | exact rfl | refine And.intro ?_ ?_)
          · replace h := h.f hb22
            have c23 := h.1
            refine ⟨c23, ?_⟩
            replace h := h.2 _ rfl
            refine ⟨c19, ?_⟩
            refine ⟨c20, ?_⟩
            refine ⟨fun hb24 => ?_, fun hb24 => ?_⟩
            · replace h := h.t hb24
              have h : _ = row := h
              subst h
              repeat' (first | exact trivial | exact rfl | refine And.intro ?_ ?_)
            · replace h := h.f hb24
              have c25 := h.1
              refine ⟨c25, ?_⟩
              replace h := h.2 _ rfl
              have h : _ = row := h
              subst h
              repeat' (first | exact trivial | exact rfl | refine And.intro ?_ ?_)
def vc45 (E : Env) (x1 : List (List C)) (x2 : List (List C)) (x3 : Int) (x4 : Int) (x5 : Int) (x6 : Int) (Q : List C → Prop) : Prop :=
  (E.pok 40 [(false, [.int .i64])] [.agg [.c (.sl [.int .i64, .int .i64] x1), .c (.sl [.int .i64, .int .i64, .int .i64, .int .i64] x2), .c (.int .i64 x3)], .c (.int .i64 x4)]) ∧ (∀ r7 : Nat → C, r7 = E.res 40 [.agg [.c (.sl [.int .i64, .int .i64] x1), .c (.sl [.int .i64, .int .i64, .int .i64, .int .i64] x2), .c (.int .i64 x3)], .c (.int .i64 x4)] → 
  ((Imp (E.not (E.lt (E.gi (r7 0)) 0)) (E.pok 38 [(false, [.bool])] [.agg [.c (.sl [.int .i64, .int .i64] x1), .c (.sl [.int .i64, .int .i64, .int .i64, .int .i64] x2), .c (.int .i64 x3)], .c (.int .i64 x5)])) ∧ (∀ r8 : Nat → C, r8 = E.res 38 [.agg [.c (.sl [.int .i64, .int .i64] x1), .c (.sl [.int .i64, .int .i64, .int .i64, .int .i64] x2), .c (.int .i64 x3)], .c (.int .i64 x5)] → 
  (Br (E.bite (E.lt (E.gi (r7 0)) 0) true (E.not (E.gb (r8 0))))
  (Q [.sl [.int .i64, .int .i64] x1, .sl [.int .i64, .int .i64, .int .i64, .int .i64] x2, .int .i64 x3, .int .i64 7])
  (((E.le 0 (E.gi (r7 0))) = true) ∧ ((E.lt (E.gi (r7 0)) (E.len x2)) = true) ∧ 
    (Br (E.eq (E.gi (E.cell x2 (E.gi (r7 0)) 2)) x5)
    (Q [.sl [.int .i64, .int .i64] x1, .sl [.int .i64, .int .i64, .int .i64, .int .i64] x2, .int .i64 x3, .int .i64 6])
    (((E.le 0 x5) = true) ∧ ((E.lt x5 (E.len x1)) = true) ∧ 
      (Br (E.lt (E.gi (E.cell x1 x5 1)) (E.gi (E.cell x2 (E.gi (r7 0)) 1)))
      (Q [.sl [.int .i64, .int .i64] x1, .sl [.int .i64, .int .i64, .int .i64, .int .i64] x2, .int .i64 x3, .int .i64 20])
      ((E.pok 50 [(false, [.bool])] [.c (.int .i64 x6)]) ∧ (∀ r9 : Nat → C, r9 = E.res 50 [.c (.int .i64 x6)] → 
        (Br (E.not (E.gb (r9 0)))
        (Q [.sl [.int .i64, .int .i64] x1, .sl [.int .i64, .int .i64, .int .i64, .int .i64] x2, .int .i64 x3, .int .i64 1])
        (Br (E.lt x6 x3)
          (Q [.sl [.int .i64, .int .i64] x1, .sl [.int .i64, .int .i64, .int .i64, .int .i64] x2, .int .i64 x3, .int .i64 9])
          ((E.pok 33 [(false, [.int .i64])] [.agg [.c (.sl [.int .i64, .int .i64] x1), .c (.sl [.int .i64, .int .i64, .int .i64, .int .i64] x2), .c (.int .i64 x3)], .c (.int .i64 x5)]) ∧ (∀ r10 : Nat → C, r10 = E.res 33 [.agg [.c (.sl [.int .i64, .int .i64] x1), .c (.sl [.int .i64, .int .i64, .int .i64, .int .i64] x2), .c (.int .i64 x3)], .c (.int .i64 x5)] → 
            (Br (E.le (E.gi (E.cell x1 x5 0)) (E.gi (r10 0)))
            (Q [.sl [.int .i64, .int .i64] x1, .sl [.int .i64, .int .i64, .int .i64, .int .i64] x2, .int .i64 x3, .int .i64 8])
            ((E.pok 52 [(true, [.sl [.int .i64, .int .i64], .sl [.int .i64, .int .i64, .int .i64, .int .i64], .int .i64])] [.agg [.c (.sl [.int .i64, .int .i64] x1), .c (.sl [.int .i64, .int .i64, .int .i64, .int .i64] x2), .c (.int .i64 x3)], .c (.int .i64 (E.gi (r7 0)))]) ∧ (∀ r11 : Nat → C, r11 = E.res 52 [.agg [.c (.sl [.int .i64, .int .i64] x1), .c (.sl [.int .i64, .int .i64, .int .i64, .int .i64] x2), .c (.int .i64 x3)], .c (.int .i64 (E.gi (r7 0)))] → 
              ((E.pok 51 [(true, [.sl [.int .i64, .int .i64], .sl [.int .i64, .int .i64, .int .i64, .int .i64], .int .i64])] [.agg [.c (.sl [.int .i64, .int .i64] (E.gl (r11 0))), .c (.sl [.int .i64, .int .i64, .int .i64, .int .i64] (E.gl (r11 1))), .c (.int .i64 (E.gi (r11 2)))], .agg [.c (.int .i64 x4), .c (.int .i64 (E.gi (E.cell x2 (E.gi (r7 0)) 1))), .c (.int .i64 x5), .c (.int .i64 x6)]]) ∧ (∀ r12 : Nat → C, r12 = E.res 51 [.agg [.c (.sl [.int .i64, .int .i64] (E.gl (r11 0))), .c (.sl [.int .i64, .int .i64, .int .i64, .int .i64] (E.gl (r11 1))), .c (.int .i64 (E.gi (r11 2)))], .agg [.c (.int .i64 x4), .c (.int .i64 (E.gi (E.cell x2 (E.gi (r7 0)) 1))), .c (.int .i64 x5), .c (.int .i64 x6)]] → 
              (Q [.sl [.int .i64, .int .i64] (E.gl (r12 0)), .sl [.int .i64, .int .i64, .int .i64, .int .i64] (E.gl (r12 1)), .int .i64 (E.gi (r12 2)), .int .i64 0]))))))))))))))))))))
theorem w45 {P : Program} {tbl : FuncId → List A → List C}  {x1 : List (List C)} {x2 : List (List C)} {x3 : Int} {x4 : Int} {x5 : Int} {x6 : Int} {row : List C} (h : vc45 (stdE P tbl) x1 x2 x3 x4 x5 x6 fun c => c = row) : WPg P tbl rf45 [(true, [.sl [.int .i64, .int .i64], .sl [.int .i64, .int .i64, .int .i64, .int .i64], .int .i64]), (false, [.int .i64])] row [.agg [.c (.sl [.int .i64, .int .i64] x1), .c (.sl [.int .i64, .int .i64, .int .i64, .int .i64] x2), .c (.int .i64 x3)], .c (.int .i64 x4), .c (.int .i64 x5), .c (.int .i64 x6)] := by
  refine ⟨?_⟩
  revert h
  generalize hE : stdE P tbl = E
  intro h
  unfold vc45 at h
  cbv
  have c13 := h.1
  refine ⟨c13, ?_⟩
  replace h := h.2 _ rfl
  refine ⟨⟨fun hh => hh⟩, ?_⟩
  refine ⟨⟨fun hh => hh⟩, ?_⟩
  have c14 := h.1
  refine ⟨c14, ?_⟩
  replace h := h.2 _ rfl
  refine ⟨⟨fun hh => hh⟩, ?_⟩
  refine ⟨⟨fun hh => hh⟩, ?_⟩
  refine ⟨fun hb15 => ?_, fun hb15 => ?_⟩
  · replace h := h.t hb15
    have h : _ = row := h
    subst h
    repeat' (first | exact trivial | exact rfl | refine And.intro ?_ ?_)
  · replace h := h.f hb15
    have c16 := h.1
    refine ⟨c16, ?_⟩
    replace h := h.2
    have c17 := h.1
    refine ⟨c17, ?_⟩
    replace h := h.2
    refine ⟨fun hb18 => ?_, fun hb18 => ?_⟩
    · replace h := h.t hb18
      have h : _ = row := h
      subst h
      repeat' (first | exact trivial | exact rfl | refine And.intro ?_ ?_)
    · replace h := h.f hb18
      refine ⟨c16, ?_⟩
      refine ⟨c17, ?_⟩
      have c19 := h.1
      refine ⟨c19, ?_⟩
      replace h := h.2
      have c20 := h.1
      refine ⟨c20, ?_⟩
      replace h := h.2
      refine ⟨fun hb21 => ?_, fun hb21 => ?_⟩
      · replace h := h.t hb21
        have h : _ = row := h
        subst h
        repeat' (first | exact trivial | exact rfl | refine And.intro ?_ ?_)
      · replace h := h.f hb21
        have c22 := h.1
        refine ⟨c22, ?_⟩
        replace h := h.2 _ rfl
        refine ⟨fun hb23 => ?_, fun hb23 => ?_⟩
        · replace h := h.t hb23
          have h : _ = row := h
          subst h
          repeat' (first | exact trivial | exact rfl | refine And.intro ?_ ?_)
        · replace h := h.f hb23
          refine ⟨fun hb24 => ?_, fun hb24 => ?_⟩
          · replace h := h.t hb24
            have h : _ = row := h
            subst h
            repeat' (first | exact trivial | exact rfl | refine And.intro ?_ ?_)
          · replace h := h.f hb24
            have c25 := h.1
            refine ⟨c25, ?_⟩
            replace h := h.2 _ rfl
            refine ⟨c19, ?_⟩
            refine ⟨c20, ?_⟩
            refine ⟨fun hb26 => ?_, fun hb26 => ?_⟩
            · replace h := h.t hb26
              have h : _ = row := h
              subst h
              repeat' (first | exact trivial | exact rfl | refine And.intro ?_ ?_)
            · replace h := h.f hb26
              have c27 := h.1
              refine ⟨c27, ?_⟩
              replace h := h.2 _ rfl
              refine ⟨c16, ?_⟩
              refine ⟨c17, ?_⟩
              have c28 := h.1
              refine ⟨c28, ?_⟩
              replace h := h.2 _ rfl
              have h : _ = row := h
              subst h
              repeat' (first | exact trivial | exact rfl | refine And.intro ?_ ?_)
def vc46 (E : Env) (x1 : List (List C)) (x2 : List (List C)) (x3 : Int) (x4 : Int) (Q : List C → Prop) : Prop :=
  (E.pok 40 [(false, [.int .i64])] [.agg [.c (.sl [.int .i64, .int .i64] x1), .c (.sl [.int .i64, .int .i64, .int .i64, .int .i64] x2), .c (.int .i64 x3)], .c (.int .i64 x4)]) ∧ (∀ r5 : Nat → C, r5 = E.res 40 [.agg [.c (.sl [.int .i64, .int .i64] x1), .c (.sl [.int .i64, .int .i64, .int .i64, .int .i64] x2), .c (.int .i64 x3)], .c (.int .i64 x4)] → 
  (Br (E.lt (E.gi (r5 0)) 0)
  (Q [.sl [.int .i64, .int .i64] x1, .sl [.int .i64, .int .i64, .int .i64, .int .i64] x2, .int .i64 x3, .int .i64 0, .int .i64 7])
  ((E.pok 52 [(true, [.sl [.int .i64, .int .i64], .sl [.int .i64, .int .i64, .int .i64, .int .i64], .int .i64])] [.agg [.c (.sl [.int .i64, .int .i64] x1), .c (.sl [.int .i64, .int .i64, .int .i64, .int .i64] x2), .c (.int .i64 x3)], .c (.int .i64 (E.gi (r5 0)))]) ∧ (∀ r6 : Nat → C, r6 = E.res 52 [.agg [.c (.sl [.int .i64, .int .i64] x1), .c (.sl [.int .i64, .int .i64, .int .i64, .int .i64] x2), .c (.int .i64 x3)], .c (.int .i64 (E.gi (r5 0)))] → 
    (((E.le 0 (E.gi (r5 0))) = true) ∧ ((E.lt (E.gi (r5 0)) (E.len x2)) = true) ∧ 
    (Q [.sl [.int .i64, .int .i64] (E.gl (r6 0)), .sl [.int .i64, .int .i64, .int .i64, .int .i64] (E.gl (r6 1)), .int .i64 (E.gi (r6 2)), .int .i64 (E.gi (E.cell x2 (E.gi (r5 0)) 2)), .int .i64 0]))))))
theorem w46 {P : Program} {tbl : FuncId → List A → List C}  {x1 : List (List C)} {x2 : List (List C)} {x3 : Int} {x4 : Int} {row : List C} (h : vc46 (stdE P tbl) x1 x2 x3 x4 fun c => c = row) : WPg P tbl rf46 [(true, [.sl [.int .i64, .int .i64], .sl [.int .i64, .int .i64, .int .i64, .int .i64], .int .i64]), (false, [.int .i64]), (false, [.int .i64])] row [.agg [.c (.sl [.int .i64, .int .i64] x1), .c (.sl [.int .i64, .int .i64, .int .i64, .int .i64] x2), .c (.int .i64 x3)], .c (.int .i64 x4)] := by
  refine ⟨?_⟩
  revert h
  generalize hE : stdE P tbl = E
  intro h
  unfold vc46 at h
  cbv
  have c7 := h.1
  refine ⟨c7, ?_⟩
  replace h := h.2 _ rfl
  refine ⟨fun hb8 => ?_, fun hb8 => ?_⟩
  · replace h := h.t hb8
    have h : _ = row := h
    subst h
    repeat' (first | exact trivial | exact rfl | refine And.intro ?_ ?_)
  · replace h := h.f hb8
    have c9 := h.1
    refine ⟨c9, ?_⟩
    replace h := h.2 _ rfl
    have c10 := h.1
    refine ⟨c10, ?_⟩
    replace h := h.2
    have c11 := h.1
    refine ⟨c11, ?_⟩
    replace h := h.2
    have h : _ = row := h
    subst h
    repeat' (first | exact trivial | exact rfl | refine And.intro ?_ ?_)
def vc50 (E : Env) (x1 : Int) (Q : List C → Prop) : Prop :=
  Q [.bool (E.bite (E.le 0 x1) (E.le x1 2147483647) false)]
theorem w50 {P : Program} {tbl : FuncId → List A → List C}  {x1 : Int} {row : List C} (h : vc50 (stdE P tbl) x1 fun c => c = row) : WPg P tbl rf50 [(false, [.bool])] row [.c (.int .i64 x1)] := by
  refine ⟨?_⟩
  revert h
  generalize hE : stdE P tbl = E
  intro h
  unfold vc50 at h
  cbv
  refine ⟨⟨fun hh => hh⟩, ?_⟩
  refine ⟨⟨fun hh => hh⟩, ?_⟩
  have h : _ = row := h
  subst h
  repeat' (first | exact trivial | exact rfl | refine And.intro ?_ ?_)
def vc51 (E : Env) (x1 : List (List C)) (x2 : List (List C)) (x3 : Int) (x4 : Int) (x5 : Int) (x6 : Int) (x7 : Int) (Q : List C → Prop) : Prop :=
  ((E.le (E.pl (E.len []) (E.len x2)) 4398046511104) = true) ∧ 
  (((E.le (E.pl (E.len (E.cat [] x2)) (E.len [[.int .i64 x4, .int .i64 x5, .int .i64 x6, .int .i64 x7]])) 4398046511104) = true) ∧ 
  (Q [.sl [.int .i64, .int .i64] x1, .sl [.int .i64, .int .i64, .int .i64, .int .i64] (E.cat (E.cat [] x2) [[.int .i64 x4, .int .i64 x5, .int .i64 x6, .int .i64 x7]]), .int .i64 x7]))
theorem w51 {P : Program} {tbl : FuncId → List A → List C}  {x1 : List (List C)} {x2 : List (List C)} {x3 : Int} {x4 : Int} {x5 : Int} {x6 : Int} {x7 : Int} {row : List C} (h : vc51 (stdE P tbl) x1 x2 x3 x4 x5 x6 x7 fun c => c = row) : WPg P tbl rf51 [(true, [.sl [.int .i64, .int .i64], .sl [.int .i64, .int .i64, .int .i64, .int .i64], .int .i64])] row [.agg [.c (.sl [.int .i64, .int .i64] x1), .c (.sl [.int .i64, .int .i64, .int .i64, .int .i64] x2), .c (.int .i64 x3)], .agg [.c (.int .i64 x4), .c (.int .i64 x5), .c (.int .i64 x6), .c (.int .i64 x7)]] := by
  refine ⟨?_⟩
  revert h
  generalize hE : stdE P tbl = E
  intro h
  unfold vc51 at h
  cbv
  have c8 := h.1
  refine ⟨c8, ?_⟩
  replace h := h.2
  have c9 := h.1
  refine ⟨c9, ?_⟩
  replace h := h.2
  have h : _ = row := h
  subst h
  repeat' (first | exact trivial | exact rfl | refine And.intro ?_ ?_)
def vc52 (E : Env) (x1 : List (List C)) (x2 : List (List C)) (x3 : Int) (x4 : Int) (Q : List C → Prop) : Prop :=
  ((E.le 0 0) = true) ∧ ((E.le 0 x4) = true) ∧ ((E.le x4 (E.len x2)) = true) ∧ 
  (((E.le (E.pl (E.len []) (E.len (E.cut x2 0 x4))) 4398046511104) = true) ∧ 
  (((E.le 0 (E.add .i64 x4 1)) = true) ∧ ((E.le (E.add .i64 x4 1) (E.len x2)) = true) ∧ ((E.le (E.len x2) (E.len x2)) = true) ∧ 
  (((E.le (E.pl (E.len (E.cat [] (E.cut x2 0 x4))) (E.len (E.cut x2 (E.add .i64 x4 1) (E.len x2)))) 4398046511104) = true) ∧ 
  (Q [.sl [.int .i64, .int .i64] x1, .sl [.int .i64, .int .i64, .int .i64, .int .i64] (E.cat (E.cat [] (E.cut x2 0 x4)) (E.cut x2 (E.add .i64 x4 1) (E.len x2))), .int .i64 x3]))))
theorem w52 {P : Program} {tbl : FuncId → List A → List C}  {x1 : List (List C)} {x2 : List (List C)} {x3 : Int} {x4 : Int} {row : List C} (h : vc52 (stdE P tbl) x1 x2 x3 x4 fun c => c = row) : WPg P tbl rf52 [(true, [.sl [.int .i64, .int .i64], .sl [.int .i64, .int .i64, .int .i64, .int .i64], .int .i64])] row [.agg [.c (.sl [.int .i64, .int .i64] x1), .c (.sl [.int .i64, .int .i64, .int .i64, .int .i64] x2), .c (.int .i64 x3)], .c (.int .i64 x4)] := by
  refine ⟨?_⟩
  revert h
  generalize hE : stdE P tbl = E
  intro h
  unfold vc52 at h
  cbv
  have c5 := h.1
  refine ⟨c5, ?_⟩
  replace h := h.2
  have c6 := h.1
  refine ⟨c6, ?_⟩
  replace h := h.2
  have c7 := h.1
  refine ⟨c7, ?_⟩
  replace h := h.2
  have c8 := h.1
  refine ⟨c8, ?_⟩
  replace h := h.2
  have c9 := h.1
  refine ⟨c9, ?_⟩
  replace h := h.2
  have c10 := h.1
  refine ⟨c10, ?_⟩
  replace h := h.2
  have c11 := h.1
  refine ⟨c11, ?_⟩
  replace h := h.2
  have c12 := h.1
  refine ⟨c12, ?_⟩
  replace h := h.2
  have h : _ = row := h
  subst h
  repeat' (first | exact trivial | exact rfl | refine And.intro ?_ ?_)
end Go.Proofs.Ytniijahjfbgfpaa.V
