/- Knives: the walks of the positions' functions. No conditions. -/
import Derived.Test.YtjmgphobpgajbaaPat4
import Derived.Test.YtjmgphobpgajbaaE5
set_option linter.unusedVariables false
set_option linter.unusedSimpArgs false
namespace Go.Proofs.Ytjmgphobpgajbaa.V
open Go Go.Eng
set_option maxRecDepth 1000000
set_option maxHeartbeats 4000000
/-- papermill knife.ends -/
def rf24 : RFn := ⟨(.seq (.ops 1 [⟨(some 2), (.v (.box 0 24 (.t 0))), none, []⟩, ⟨(some 4), (.v (.mv (.k .nm))), none, []⟩, ⟨(some 5), (.v (.mv (.k (.c (.int .i64 0))))), none, []⟩]) (.seq (.ops 0 [⟨(some 12), (.v (.lda 5 (.t 2))), none, []⟩, ⟨(some 13), (.v (.mv (.t 1))), none, []⟩, ⟨(some 14), (.v (.det 39 [⟨false, [(.sl [(.int .i64), (.int .i64)])]⟩, ⟨false, [(.int .i64)]⟩] [(.t 12), (.t 13)])), none, []⟩, ⟨(some 11), (.v (.mv (.t 14))), none, []⟩, ⟨(some 15), (.v (.ext (.t 11) 0)), none, []⟩, ⟨(some 16), (.v (.ext (.t 11) 1)), none, []⟩, ⟨(some 6), (.v (.mv (.t 15))), none, []⟩, ⟨(some 7), (.v (.mv (.t 16))), none, []⟩]) (.seq (.seq (.ops 0 [⟨(some 17), (.v (.mv (.t 7))), none, []⟩, ⟨(some 18), (.v (.bin .neq (.t 17) (.k (.c (.int .i64 0))))), none, []⟩]) (.cond (.t 18) (.seq (.ops 0 [⟨(some 19), (.v (.mv (.t 7))), none, []⟩, ⟨(some 4), (.v (.mv (.k .nm))), none, []⟩, ⟨(some 5), (.v (.mv (.t 19))), none, []⟩]) .ret) .skip)) (.seq (.ops 1 [⟨(some 20), (.v (.mkm 0 .i64 false [.bool])), none, []⟩, ⟨(some 8), (.v (.mv (.t 20))), none, []⟩]) (.seq (.seq (.ops 0 [⟨(some 21), (.v (.mv (.t 6))), none, []⟩, ⟨(some 22), (.v (.lenS (.t 21))), none, []⟩, ⟨(some 23), (.v (.mv (.k (.c (.int .i64 0))))), none, []⟩]) (.block 0 (.loop (.seq (.ops 0 [⟨(some 24), (.v (.bin .lss (.t 23) (.t 22))), none, []⟩]) (.seq (.cond (.t 24) .skip (.exit 0)) (.seq (.block 1 (.seq (.ops 1 [⟨(some 25), (.v (.ia 2 (.t 21) (.t 23))), none, []⟩, ⟨(some 26), (.v (.lda 2 (.t 25))), none, []⟩, ⟨(some 10), (.v (.alloc 0 51 [(.c (.int .i64 0)), (.c (.int .i64 0))])), none, []⟩, ⟨none, (.v (.st 2 (.t 10) (.t 26))), none, []⟩]) (.any 0 [⟨0, ⟨[], ⟨(some 27), (.v (.mv (.t 8))), none, []⟩⟩⟩, ⟨1, ⟨[], ⟨(some 28), (.v (.fa 0 (.t 10))), none, []⟩⟩⟩, ⟨2, ⟨[1], ⟨(some 29), (.v (.ld (.t 28))), none, []⟩⟩⟩, ⟨3, ⟨[], ⟨(some 30), (.v (.mv (.t 8))), none, []⟩⟩⟩, ⟨4, ⟨[], ⟨(some 31), (.v (.fa 0 (.t 10))), none, []⟩⟩⟩, ⟨5, ⟨[4], ⟨(some 32), (.v (.ld (.t 31))), none, []⟩⟩⟩, ⟨6, ⟨[], ⟨(some 33), (.v (.fa 1 (.t 10))), none, []⟩⟩⟩, ⟨7, ⟨[6], ⟨(some 34), (.v (.ld (.t 33))), none, []⟩⟩⟩, ⟨8, ⟨[5, 4, 7, 6], ⟨(some 35), (.v (.bin .add (.t 32) (.t 34))), none, []⟩⟩⟩, ⟨9, ⟨[0, 2, 1], ⟨none, (.v (.mup (.t 27) (.t 29) (.k (.c (.bool true))))), none, []⟩⟩⟩, ⟨10, ⟨[3, 8, 5, 4, 7, 6, 9, 0, 2, 1], ⟨none, (.v (.mup (.t 30) (.t 35) (.k (.c (.bool true))))), none, []⟩⟩⟩]))) (.ops 0 [⟨(some 36), (.v (.bin .add (.t 23) (.k (.c (.int .i64 1))))), none, []⟩, ⟨(some 23), (.v (.mv (.t 36))), none, []⟩]))))))) (.seq (.ops 0 [⟨(some 37), (.v (.mv (.t 8))), none, []⟩, ⟨(some 4), (.v (.mv (.t 37))), none, []⟩, ⟨(some 5), (.v (.mv (.k (.c (.int .i64 0))))), none, []⟩]) .ret)))))), 38, [(.t 4), (.t 5)]⟩
theorem h24 : fnR Try.prog DD 24 = some rf24 := by kernel_rfl
/-- papermill knife.moves -/
def rf28 : RFn := ⟨(.seq (.ops 0 [⟨(some 4), (.v (.mv (.k (.c (.int .i64 0))))), none, []⟩]) (.seq (.ops 0 [⟨(some 5), (.v (.mv (.k (.c (.int .i64 0))))), none, []⟩]) (.seq (.rng ⟨0, [⟨(some 7), (.v (.mv (.t 1))), none, []⟩], 7, 8, 9, 10, 0, 1, 0, 11, [⟨(some 12), (.v (.ext (.t 11) 0)), none, []⟩, ⟨(some 6), (.v (.mv (.t 12))), none, []⟩]⟩ (.seq (.ops 0 [⟨(some 13), (.v (.mv (.t 0))), none, []⟩, ⟨(some 14), (.v (.mv (.t 6))), none, []⟩, ⟨(some 15), (.v (.lkp (.c (.bool false)) (.t 13) (.t 14) false)), none, []⟩, ⟨(some 16), (.v (.un .not (.t 15))), none, []⟩]) (.cond (.t 16) (.ops 0 [⟨(some 17), (.v (.mv (.t 5))), none, []⟩, ⟨(some 18), (.v (.bin .add (.t 17) (.k (.c (.int .i64 1))))), none, []⟩, ⟨(some 5), (.v (.mv (.t 18))), none, []⟩]) .skip))) (.seq (.ops 0 [⟨(some 19), (.v (.mv (.t 5))), none, []⟩, ⟨(some 4), (.v (.mv (.t 19))), none, []⟩]) .ret)))), 20, [(.t 4)]⟩
theorem h28 : fnR Try.prog DD 28 = some rf28 := by kernel_rfl
/-- papermill knife.Knives -/
def rf12 : RFn := ⟨(.seq (.ops 1 [⟨(some 2), (.v (.box 0 24 (.t 0))), none, []⟩, ⟨(some 4), (.v (.mv (.k (.c .nil)))), none, []⟩, ⟨(some 5), (.v (.mv (.k (.c (.int .i64 0))))), none, []⟩]) (.seq (.ops 0 [⟨(some 11), (.v (.lda 5 (.t 2))), none, []⟩, ⟨(some 12), (.v (.mv (.t 1))), none, []⟩, ⟨(some 13), (.v (.det 24 [⟨false, [(.mp .i64 false [.bool])]⟩, ⟨false, [(.int .i64)]⟩] [(.t 11), (.t 12)])), none, []⟩, ⟨(some 10), (.v (.mv (.t 13))), none, []⟩, ⟨(some 14), (.v (.ext (.t 10) 0)), none, []⟩, ⟨(some 15), (.v (.ext (.t 10) 1)), none, []⟩, ⟨(some 6), (.v (.mv (.t 14))), none, []⟩, ⟨(some 7), (.v (.mv (.t 15))), none, []⟩]) (.seq (.seq (.ops 0 [⟨(some 16), (.v (.mv (.t 7))), none, []⟩, ⟨(some 17), (.v (.bin .neq (.t 16) (.k (.c (.int .i64 0))))), none, []⟩]) (.cond (.t 17) (.seq (.ops 0 [⟨(some 18), (.v (.mv (.t 7))), none, []⟩, ⟨(some 4), (.v (.mv (.k (.c .nil)))), none, []⟩, ⟨(some 5), (.v (.mv (.t 18))), none, []⟩]) .ret) .skip)) (.seq (.ops 0 [⟨(some 8), (.v (.mv (.k (.c .nil)))), none, []⟩]) (.seq (.rng ⟨0, [⟨(some 19), (.v (.mv (.t 6))), none, []⟩], 19, 20, 21, 22, 0, 1, 0, 23, [⟨(some 24), (.v (.ext (.t 23) 0)), none, []⟩, ⟨(some 9), (.v (.mv (.t 24))), none, []⟩]⟩ (.ops 2 [⟨(some 25), (.v (.mv (.t 8))), none, []⟩, ⟨(some 26), (.v (.mv (.t 9))), none, []⟩, ⟨(some 27), (.v (.bsl 0 3 [(.int .i64)] [(.t 26)])), none, []⟩, ⟨(some 28), (.v (.app 1 3 [(.int .i64)] 17592186044416 (.t 25) (.t 27))), none, []⟩, ⟨(some 8), (.v (.mv (.t 28))), none, []⟩])) (.seq (.ops 0 [⟨(some 29), (.v (.mv (.t 8))), none, []⟩, ⟨(some 30), (.h (.call 25 [(.t 29)])), none, []⟩]) (.seq (.ops 0 [⟨(some 31), (.v (.mv (.t 8))), none, []⟩, ⟨(some 4), (.v (.mv (.t 31))), none, []⟩, ⟨(some 5), (.v (.mv (.k (.c (.int .i64 0))))), none, []⟩]) .ret))))))), 32, [(.t 4), (.t 5)]⟩
theorem h12 : fnR Try.prog DD 12 = some rf12 := by kernel_rfl
/-- papermill knife.Moves -/
def rf15 : RFn := ⟨(.seq (.ops 1 [⟨(some 3), (.v (.box 0 24 (.t 0))), none, []⟩, ⟨(some 6), (.v (.mv (.k (.c (.int .i64 0))))), none, []⟩, ⟨(some 7), (.v (.mv (.k (.c (.int .i64 0))))), none, []⟩]) (.seq (.ops 0 [⟨(some 12), (.v (.lda 5 (.t 3))), none, []⟩, ⟨(some 13), (.v (.mv (.t 1))), none, []⟩, ⟨(some 14), (.v (.det 24 [⟨false, [(.mp .i64 false [.bool])]⟩, ⟨false, [(.int .i64)]⟩] [(.t 12), (.t 13)])), none, []⟩, ⟨(some 11), (.v (.mv (.t 14))), none, []⟩, ⟨(some 15), (.v (.ext (.t 11) 0)), none, []⟩, ⟨(some 16), (.v (.ext (.t 11) 1)), none, []⟩, ⟨(some 8), (.v (.mv (.t 15))), none, []⟩, ⟨(some 9), (.v (.mv (.t 16))), none, []⟩]) (.seq (.seq (.ops 0 [⟨(some 17), (.v (.mv (.t 9))), none, []⟩, ⟨(some 18), (.v (.bin .neq (.t 17) (.k (.c (.int .i64 0))))), none, []⟩]) (.cond (.t 18) (.seq (.ops 0 [⟨(some 19), (.v (.mv (.t 9))), none, []⟩, ⟨(some 6), (.v (.mv (.k (.c (.int .i64 0))))), none, []⟩, ⟨(some 7), (.v (.mv (.t 19))), none, []⟩]) .ret) .skip)) (.seq (.ops 0 [⟨(some 21), (.v (.lda 5 (.t 3))), none, []⟩, ⟨(some 22), (.v (.mv (.t 2))), none, []⟩, ⟨(some 23), (.v (.det 24 [⟨false, [(.mp .i64 false [.bool])]⟩, ⟨false, [(.int .i64)]⟩] [(.t 21), (.t 22)])), none, []⟩, ⟨(some 20), (.v (.mv (.t 23))), none, []⟩, ⟨(some 24), (.v (.ext (.t 20) 0)), none, []⟩, ⟨(some 25), (.v (.ext (.t 20) 1)), none, []⟩, ⟨(some 10), (.v (.mv (.t 24))), none, []⟩, ⟨(some 9), (.v (.mv (.t 25))), none, []⟩]) (.seq (.seq (.ops 0 [⟨(some 26), (.v (.mv (.t 9))), none, []⟩, ⟨(some 27), (.v (.bin .neq (.t 26) (.k (.c (.int .i64 0))))), none, []⟩]) (.cond (.t 27) (.seq (.ops 0 [⟨(some 28), (.v (.mv (.t 9))), none, []⟩, ⟨(some 6), (.v (.mv (.k (.c (.int .i64 0))))), none, []⟩, ⟨(some 7), (.v (.mv (.t 28))), none, []⟩]) .ret) .skip)) (.seq (.ops 0 [⟨(some 29), (.v (.mv (.t 8))), none, []⟩, ⟨(some 30), (.v (.mv (.t 10))), none, []⟩, ⟨(some 31), (.v (.det 28 [⟨false, [(.int .i64)]⟩] [(.t 29), (.t 30)])), none, []⟩, ⟨(some 6), (.v (.mv (.t 31))), none, []⟩, ⟨(some 7), (.v (.mv (.k (.c (.int .i64 0))))), none, []⟩]) .ret)))))), 32, [(.t 6), (.t 7)]⟩
theorem h15 : fnR Try.prog DD 15 = some rf15 := by kernel_rfl
/-- papermill knife.all -/
def rf30 : RFn := ⟨(.seq (.ops 1 [⟨(some 2), (.v (.box 0 24 (.t 0))), none, []⟩, ⟨(some 4), (.v (.mv (.k (.c .nil)))), none, []⟩, ⟨(some 5), (.v (.mv (.k (.c (.int .i64 0))))), none, []⟩]) (.seq (.seq (.ops 0 [⟨(some 12), (.v (.lda 5 (.t 2))), none, []⟩, ⟨(some 13), (.v (.det 42 [⟨false, [(.int .i64)]⟩] [(.t 12)])), none, []⟩, ⟨(some 6), (.v (.mv (.t 13))), none, []⟩]) (.seq (.ops 0 [⟨(some 14), (.v (.mv (.t 6))), none, []⟩, ⟨(some 15), (.v (.bin .neq (.t 14) (.k (.c (.int .i64 0))))), none, []⟩]) (.cond (.t 15) (.seq (.ops 0 [⟨(some 16), (.v (.mv (.t 6))), none, []⟩, ⟨(some 4), (.v (.mv (.k (.c .nil)))), none, []⟩, ⟨(some 5), (.v (.mv (.t 16))), none, []⟩]) .ret) .skip))) (.seq (.seq (.ops 0 [⟨(some 17), (.v (.mv (.t 1))), none, []⟩, ⟨(some 18), (.v (.lenS (.t 17))), none, []⟩, ⟨(some 19), (.v (.bin .gtr (.t 18) (.k (.c (.int .i64 8))))), none, []⟩]) (.cond (.t 19) (.seq (.ops 0 [⟨(some 4), (.v (.mv (.k (.c .nil)))), none, []⟩, ⟨(some 5), (.v (.mv (.k (.c (.int .i64 8))))), none, []⟩]) .ret) .skip)) (.seq (.ops 0 [⟨(some 7), (.v (.mv (.k (.c .nil)))), none, []⟩]) (.seq (.seq (.ops 0 [⟨(some 20), (.v (.mv (.t 1))), none, []⟩, ⟨(some 21), (.v (.lenS (.t 20))), none, []⟩, ⟨(some 22), (.v (.mv (.k (.c (.int .i64 0))))), none, []⟩]) (.block 0 (.loop (.seq (.ops 0 [⟨(some 23), (.v (.bin .lss (.t 22) (.t 21))), none, []⟩]) (.seq (.cond (.t 23) .skip (.exit 0)) (.seq (.block 1 (.seq (.ops 0 [⟨(some 24), (.v (.ia 1 (.t 20) (.t 22))), none, []⟩, ⟨(some 25), (.v (.ld (.t 24))), none, []⟩, ⟨(some 9), (.v (.mv (.t 25))), none, []⟩]) (.seq (.ops 0 [⟨(some 27), (.v (.lda 5 (.t 2))), none, []⟩, ⟨(some 28), (.v (.mv (.t 9))), none, []⟩, ⟨(some 29), (.v (.det 24 [⟨false, [(.mp .i64 false [.bool])]⟩, ⟨false, [(.int .i64)]⟩] [(.t 27), (.t 28)])), none, []⟩, ⟨(some 26), (.v (.mv (.t 29))), none, []⟩, ⟨(some 30), (.v (.ext (.t 26) 0)), none, []⟩, ⟨(some 31), (.v (.ext (.t 26) 1)), none, []⟩, ⟨(some 10), (.v (.mv (.t 30))), none, []⟩, ⟨(some 11), (.v (.mv (.t 31))), none, []⟩]) (.seq (.seq (.ops 0 [⟨(some 32), (.v (.mv (.t 11))), none, []⟩, ⟨(some 33), (.v (.bin .neq (.t 32) (.k (.c (.int .i64 0))))), none, []⟩]) (.cond (.t 33) (.seq (.ops 0 [⟨(some 34), (.v (.mv (.t 11))), none, []⟩, ⟨(some 4), (.v (.mv (.k (.c .nil)))), none, []⟩, ⟨(some 5), (.v (.mv (.t 34))), none, []⟩]) .ret) .skip)) (.ops 2 [⟨(some 35), (.v (.mv (.t 7))), none, []⟩, ⟨(some 36), (.v (.mv (.t 10))), none, []⟩, ⟨(some 37), (.v (.bsl 0 42 [(.mp .i64 false [.bool])] [(.t 36)])), none, []⟩, ⟨(some 38), (.v (.app 1 42 [(.mp .i64 false [.bool])] 17592186044416 (.t 35) (.t 37))), none, []⟩, ⟨(some 7), (.v (.mv (.t 38))), none, []⟩]))))) (.ops 0 [⟨(some 39), (.v (.bin .add (.t 22) (.k (.c (.int .i64 1))))), none, []⟩, ⟨(some 22), (.v (.mv (.t 39))), none, []⟩]))))))) (.seq (.ops 0 [⟨(some 40), (.v (.mv (.t 7))), none, []⟩, ⟨(some 4), (.v (.mv (.t 40))), none, []⟩, ⟨(some 5), (.v (.mv (.k (.c (.int .i64 0))))), none, []⟩]) .ret)))))), 41, [(.t 4), (.t 5)]⟩
theorem h30 : fnR Try.prog DD 30 = some rf30 := by kernel_rfl
/-- papermill papermillref49.put -/
def rf27 : RFn := ⟨(.seq (.ops 0 [⟨(some 4), (.v (.mv (.k (.c .nil)))), none, []⟩]) (.seq (.ops 0 [⟨(some 5), (.v (.mv (.k (.c (.int .i64 0))))), none, []⟩]) (.seq (.block 0 (.loop (.seq (.seq (.ops 0 [⟨(some 6), (.v (.mv (.t 5))), none, []⟩, ⟨(some 7), (.v (.mv (.t 0))), none, []⟩, ⟨(some 8), (.v (.lenS (.t 7))), none, []⟩, ⟨(some 9), (.v (.bin .lss (.t 6) (.t 8))), none, []⟩, ⟨(some 10), (.v (.mv (.t 9))), none, []⟩, ⟨(some 11), (.v (.mv (.t 0))), (some ⟨10, true⟩), [(.t 0)]⟩, ⟨(some 12), (.v (.mv (.t 5))), (some ⟨10, true⟩), [(.t 5)]⟩, ⟨(some 13), (.v (.ia 1 (.t 11) (.t 12))), (some ⟨10, true⟩), [(.t 11), (.t 12)]⟩, ⟨(some 14), (.v (.ld (.t 13))), (some ⟨10, true⟩), [(.t 13)]⟩, ⟨(some 15), (.v (.mv (.t 1))), (some ⟨10, true⟩), [(.t 1)]⟩, ⟨(some 16), (.v (.bin .lss (.t 14) (.t 15))), (some ⟨10, true⟩), [(.t 14), (.t 15)]⟩, ⟨(some 17), (.v (.pick (.t 10) (.t 16) (.k (.c (.bool false))))), none, []⟩]) (.cond (.t 17) .skip (.exit 0))) (.block 1 (.ops 0 [⟨(some 18), (.v (.mv (.t 5))), none, []⟩, ⟨(some 19), (.v (.bin .add (.t 18) (.k (.c (.int .i64 1))))), none, []⟩, ⟨(some 5), (.v (.mv (.t 19))), none, []⟩]))))) (.seq (.seq (.ops 0 [⟨(some 20), (.v (.mv (.t 5))), none, []⟩, ⟨(some 21), (.v (.mv (.t 0))), none, []⟩, ⟨(some 22), (.v (.lenS (.t 21))), none, []⟩, ⟨(some 23), (.v (.bin .lss (.t 20) (.t 22))), none, []⟩, ⟨(some 24), (.v (.mv (.t 23))), none, []⟩, ⟨(some 25), (.v (.mv (.t 0))), (some ⟨24, true⟩), [(.t 0)]⟩, ⟨(some 26), (.v (.mv (.t 5))), (some ⟨24, true⟩), [(.t 5)]⟩, ⟨(some 27), (.v (.ia 1 (.t 25) (.t 26))), (some ⟨24, true⟩), [(.t 25), (.t 26)]⟩, ⟨(some 28), (.v (.ld (.t 27))), (some ⟨24, true⟩), [(.t 27)]⟩, ⟨(some 29), (.v (.mv (.t 1))), (some ⟨24, true⟩), [(.t 1)]⟩, ⟨(some 30), (.v (.bin .eql (.t 28) (.t 29))), (some ⟨24, true⟩), [(.t 28), (.t 29)]⟩, ⟨(some 31), (.v (.pick (.t 24) (.t 30) (.k (.c (.bool false))))), none, []⟩]) (.cond (.t 31) (.seq (.ops 0 [⟨(some 32), (.v (.mv (.t 0))), none, []⟩, ⟨(some 4), (.v (.mv (.t 32))), none, []⟩]) .ret) .skip)) (.seq (.any 5 [⟨0, ⟨[], ⟨(some 33), (.v (.bsl 0 3 [(.int .i64)] [])), none, []⟩⟩⟩, ⟨1, ⟨[], ⟨(some 34), (.v (.mv (.t 0))), none, []⟩⟩⟩, ⟨2, ⟨[], ⟨(some 35), (.v (.mv (.t 5))), none, []⟩⟩⟩, ⟨3, ⟨[1, 2], ⟨(some 36), (.v (.sls 1 (.t 34) none (some (.t 35)))), none, []⟩⟩⟩, ⟨4, ⟨[0, 3, 1, 2], ⟨(some 37), (.v (.app 1 3 [(.int .i64)] 17592186044416 (.t 33) (.t 36))), none, []⟩⟩⟩, ⟨5, ⟨[], ⟨(some 38), (.v (.mv (.t 1))), none, []⟩⟩⟩, ⟨6, ⟨[5], ⟨(some 39), (.v (.bsl 2 3 [(.int .i64)] [(.t 38)])), none, []⟩⟩⟩, ⟨7, ⟨[6, 5, 4, 0, 3, 1, 2], ⟨(some 40), (.v (.app 3 3 [(.int .i64)] 17592186044416 (.t 37) (.t 39))), none, []⟩⟩⟩, ⟨8, ⟨[], ⟨(some 41), (.v (.mv (.t 0))), none, []⟩⟩⟩, ⟨9, ⟨[], ⟨(some 42), (.v (.mv (.t 5))), none, []⟩⟩⟩, ⟨10, ⟨[8, 9], ⟨(some 43), (.v (.sls 1 (.t 41) (some (.t 42)) none)), none, []⟩⟩⟩, ⟨11, ⟨[10, 8, 9, 7, 6, 5, 4, 0, 3, 1, 2], ⟨(some 44), (.v (.app 4 3 [(.int .i64)] 17592186044416 (.t 40) (.t 43))), none, []⟩⟩⟩, ⟨12, ⟨[11, 10, 8, 9, 7, 6, 5, 4, 0, 3, 1, 2], ⟨(some 4), (.v (.mv (.t 44))), none, []⟩⟩⟩]) .ret))))), 45, [(.t 4)]⟩
theorem h27 : fnR Try.prog DD 27 = some rf27 := by kernel_rfl
/-- papermill papermillref49.Knives -/
def rf13 : RFn := ⟨(.seq (.ops 1 [⟨(some 2), (.v (.box 0 24 (.t 0))), none, []⟩, ⟨(some 4), (.v (.mv (.k (.c .nil)))), none, []⟩, ⟨(some 5), (.v (.mv (.k (.c (.int .i64 0))))), none, []⟩]) (.seq (.ops 0 [⟨(some 11), (.v (.lda 5 (.t 2))), none, []⟩, ⟨(some 12), (.v (.mv (.t 1))), none, []⟩, ⟨(some 13), (.v (.det 26 [⟨false, [(.sl [(.int .i64), (.int .i64)])]⟩, ⟨false, [(.int .i64)]⟩] [(.t 11), (.t 12)])), none, []⟩, ⟨(some 10), (.v (.mv (.t 13))), none, []⟩, ⟨(some 14), (.v (.ext (.t 10) 0)), none, []⟩, ⟨(some 15), (.v (.ext (.t 10) 1)), none, []⟩, ⟨(some 6), (.v (.mv (.t 14))), none, []⟩, ⟨(some 7), (.v (.mv (.t 15))), none, []⟩]) (.seq (.seq (.ops 0 [⟨(some 16), (.v (.mv (.t 7))), none, []⟩, ⟨(some 17), (.v (.bin .neq (.t 16) (.k (.c (.int .i64 0))))), none, []⟩]) (.cond (.t 17) (.seq (.ops 0 [⟨(some 18), (.v (.mv (.t 7))), none, []⟩, ⟨(some 4), (.v (.mv (.k (.c .nil)))), none, []⟩, ⟨(some 5), (.v (.mv (.t 18))), none, []⟩]) .ret) .skip)) (.seq (.ops 0 [⟨(some 8), (.v (.mv (.k (.c .nil)))), none, []⟩]) (.seq (.seq (.ops 0 [⟨(some 9), (.v (.mv (.k (.c (.int .i64 0))))), none, []⟩]) (.block 0 (.loop (.seq (.seq (.ops 0 [⟨(some 19), (.v (.mv (.t 9))), none, []⟩, ⟨(some 20), (.v (.mv (.t 6))), none, []⟩, ⟨(some 21), (.v (.lenS (.t 20))), none, []⟩, ⟨(some 22), (.v (.bin .lss (.t 19) (.t 21))), none, []⟩]) (.cond (.t 22) .skip (.exit 0))) (.seq (.block 1 (.any 0 [⟨0, ⟨[], ⟨(some 25), (.v (.mv (.t 8))), none, []⟩⟩⟩, ⟨1, ⟨[], ⟨(some 26), (.v (.mv (.t 6))), none, []⟩⟩⟩, ⟨2, ⟨[], ⟨(some 27), (.v (.mv (.t 9))), none, []⟩⟩⟩, ⟨3, ⟨[1, 2], ⟨(some 28), (.v (.ia 2 (.t 26) (.t 27))), none, []⟩⟩⟩, ⟨4, ⟨[3, 1, 2], ⟨(some 29), (.v (.fa 0 (.t 28))), none, []⟩⟩⟩, ⟨5, ⟨[4, 3, 1, 2], ⟨(some 30), (.v (.ld (.t 29))), none, []⟩⟩⟩, ⟨6, ⟨[0, 5, 4, 3, 1, 2], ⟨(some 31), (.v (.det 27 [⟨false, [(.sl [(.int .i64)])]⟩] [(.t 25), (.t 30)])), none, []⟩⟩⟩, ⟨7, ⟨[], ⟨(some 32), (.v (.mv (.t 6))), none, []⟩⟩⟩, ⟨8, ⟨[], ⟨(some 33), (.v (.mv (.t 9))), none, []⟩⟩⟩, ⟨9, ⟨[7, 8], ⟨(some 34), (.v (.ia 2 (.t 32) (.t 33))), none, []⟩⟩⟩, ⟨10, ⟨[9, 7, 8], ⟨(some 35), (.v (.fa 0 (.t 34))), none, []⟩⟩⟩, ⟨11, ⟨[10, 9, 7, 8], ⟨(some 36), (.v (.ld (.t 35))), none, []⟩⟩⟩, ⟨12, ⟨[], ⟨(some 37), (.v (.mv (.t 6))), none, []⟩⟩⟩, ⟨13, ⟨[], ⟨(some 38), (.v (.mv (.t 9))), none, []⟩⟩⟩, ⟨14, ⟨[12, 13], ⟨(some 39), (.v (.ia 2 (.t 37) (.t 38))), none, []⟩⟩⟩, ⟨15, ⟨[14, 12, 13], ⟨(some 40), (.v (.fa 1 (.t 39))), none, []⟩⟩⟩, ⟨16, ⟨[15, 14, 12, 13], ⟨(some 41), (.v (.ld (.t 40))), none, []⟩⟩⟩, ⟨17, ⟨[11, 10, 9, 7, 8, 16, 15, 14, 12, 13], ⟨(some 42), (.v (.bin .add (.t 36) (.t 41))), none, []⟩⟩⟩, ⟨18, ⟨[17, 11, 10, 9, 7, 8, 16, 15, 14, 12, 13, 6, 0, 5, 4, 3, 1, 2], ⟨(some 43), (.v (.det 27 [⟨false, [(.sl [(.int .i64)])]⟩] [(.t 31), (.t 42)])), none, []⟩⟩⟩, ⟨19, ⟨[18, 17, 11, 10, 9, 7, 8, 16, 15, 14, 12, 13, 6, 0, 5, 4, 3, 1, 2], ⟨(some 8), (.v (.mv (.t 43))), none, []⟩⟩⟩])) (.ops 0 [⟨(some 23), (.v (.mv (.t 9))), none, []⟩, ⟨(some 24), (.v (.bin .add (.t 23) (.k (.c (.int .i64 1))))), none, []⟩, ⟨(some 9), (.v (.mv (.t 24))), none, []⟩])))))) (.seq (.ops 0 [⟨(some 44), (.v (.mv (.t 8))), none, []⟩, ⟨(some 4), (.v (.mv (.t 44))), none, []⟩, ⟨(some 5), (.v (.mv (.k (.c (.int .i64 0))))), none, []⟩]) .ret)))))), 45, [(.t 4), (.t 5)]⟩
theorem h13 : fnR Try.prog DD 13 = some rf13 := by kernel_rfl
/-- papermill papermillref49.lacks -/
def rf29 : RFn := ⟨(.seq (.ops 0 [⟨(some 4), (.v (.mv (.k (.c (.int .i64 0))))), none, []⟩]) (.seq (.ops 0 [⟨(some 5), (.v (.mv (.k (.c (.int .i64 0))))), none, []⟩]) (.seq (.seq (.ops 0 [⟨(some 6), (.v (.mv (.k (.c (.int .i64 0))))), none, []⟩]) (.block 0 (.loop (.seq (.seq (.ops 0 [⟨(some 7), (.v (.mv (.t 6))), none, []⟩, ⟨(some 8), (.v (.mv (.t 1))), none, []⟩, ⟨(some 9), (.v (.lenS (.t 8))), none, []⟩, ⟨(some 10), (.v (.bin .lss (.t 7) (.t 9))), none, []⟩]) (.cond (.t 10) .skip (.exit 0))) (.seq (.block 1 (.seq (.ops 0 [⟨(some 13), (.v (.mv (.t 0))), none, []⟩, ⟨(some 14), (.v (.mv (.t 1))), none, []⟩, ⟨(some 15), (.v (.mv (.t 6))), none, []⟩, ⟨(some 16), (.v (.ia 1 (.t 14) (.t 15))), none, []⟩, ⟨(some 17), (.v (.ld (.t 16))), none, []⟩, ⟨(some 18), (.v (.det 27 [⟨false, [(.sl [(.int .i64)])]⟩] [(.t 13), (.t 17)])), none, []⟩, ⟨(some 19), (.v (.lenS (.t 18))), none, []⟩, ⟨(some 20), (.v (.mv (.t 0))), none, []⟩, ⟨(some 21), (.v (.lenS (.t 20))), none, []⟩, ⟨(some 22), (.v (.bin .gtr (.t 19) (.t 21))), none, []⟩]) (.cond (.t 22) (.ops 0 [⟨(some 23), (.v (.mv (.t 5))), none, []⟩, ⟨(some 24), (.v (.bin .add (.t 23) (.k (.c (.int .i64 1))))), none, []⟩, ⟨(some 5), (.v (.mv (.t 24))), none, []⟩]) .skip))) (.ops 0 [⟨(some 11), (.v (.mv (.t 6))), none, []⟩, ⟨(some 12), (.v (.bin .add (.t 11) (.k (.c (.int .i64 1))))), none, []⟩, ⟨(some 6), (.v (.mv (.t 12))), none, []⟩])))))) (.seq (.ops 0 [⟨(some 25), (.v (.mv (.t 5))), none, []⟩, ⟨(some 4), (.v (.mv (.t 25))), none, []⟩]) .ret)))), 26, [(.t 4)]⟩
theorem h29 : fnR Try.prog DD 29 = some rf29 := by kernel_rfl
/-- papermill papermillref49.Moves -/
def rf16 : RFn := ⟨(.seq (.ops 1 [⟨(some 3), (.v (.box 0 24 (.t 0))), none, []⟩, ⟨(some 6), (.v (.mv (.k (.c (.int .i64 0))))), none, []⟩, ⟨(some 7), (.v (.mv (.k (.c (.int .i64 0))))), none, []⟩]) (.seq (.ops 0 [⟨(some 13), (.v (.lda 5 (.t 3))), none, []⟩, ⟨(some 14), (.v (.mv (.t 1))), none, []⟩, ⟨(some 15), (.v (.det 13 [⟨false, [(.sl [(.int .i64)])]⟩, ⟨false, [(.int .i64)]⟩] [(.t 13), (.t 14)])), none, []⟩, ⟨(some 12), (.v (.mv (.t 15))), none, []⟩, ⟨(some 16), (.v (.ext (.t 12) 0)), none, []⟩, ⟨(some 17), (.v (.ext (.t 12) 1)), none, []⟩, ⟨(some 8), (.v (.mv (.t 16))), none, []⟩, ⟨(some 9), (.v (.mv (.t 17))), none, []⟩]) (.seq (.seq (.ops 0 [⟨(some 18), (.v (.mv (.t 9))), none, []⟩, ⟨(some 19), (.v (.bin .neq (.t 18) (.k (.c (.int .i64 0))))), none, []⟩]) (.cond (.t 19) (.seq (.ops 0 [⟨(some 20), (.v (.mv (.t 9))), none, []⟩, ⟨(some 6), (.v (.mv (.k (.c (.int .i64 0))))), none, []⟩, ⟨(some 7), (.v (.mv (.t 20))), none, []⟩]) .ret) .skip)) (.seq (.ops 0 [⟨(some 22), (.v (.lda 5 (.t 3))), none, []⟩, ⟨(some 23), (.v (.mv (.t 2))), none, []⟩, ⟨(some 24), (.v (.det 13 [⟨false, [(.sl [(.int .i64)])]⟩, ⟨false, [(.int .i64)]⟩] [(.t 22), (.t 23)])), none, []⟩, ⟨(some 21), (.v (.mv (.t 24))), none, []⟩, ⟨(some 25), (.v (.ext (.t 21) 0)), none, []⟩, ⟨(some 26), (.v (.ext (.t 21) 1)), none, []⟩, ⟨(some 10), (.v (.mv (.t 25))), none, []⟩, ⟨(some 11), (.v (.mv (.t 26))), none, []⟩]) (.seq (.seq (.ops 0 [⟨(some 27), (.v (.mv (.t 11))), none, []⟩, ⟨(some 28), (.v (.bin .neq (.t 27) (.k (.c (.int .i64 0))))), none, []⟩]) (.cond (.t 28) (.seq (.ops 0 [⟨(some 29), (.v (.mv (.t 11))), none, []⟩, ⟨(some 6), (.v (.mv (.k (.c (.int .i64 0))))), none, []⟩, ⟨(some 7), (.v (.mv (.t 29))), none, []⟩]) .ret) .skip)) (.seq (.ops 0 [⟨(some 30), (.v (.mv (.t 8))), none, []⟩, ⟨(some 31), (.v (.mv (.t 10))), none, []⟩, ⟨(some 32), (.v (.det 29 [⟨false, [(.int .i64)]⟩] [(.t 30), (.t 31)])), none, []⟩, ⟨(some 6), (.v (.mv (.t 32))), none, []⟩, ⟨(some 7), (.v (.mv (.k (.c (.int .i64 0))))), none, []⟩]) .ret)))))), 33, [(.t 6), (.t 7)]⟩
theorem h16 : fnR Try.prog DD 16 = some rf16 := by kernel_rfl
/-- papermill papermillref49.positions -/
def rf34 : RFn := ⟨(.seq (.ops 1 [⟨(some 2), (.v (.box 0 24 (.t 0))), none, []⟩, ⟨(some 4), (.v (.mv (.k (.c .nil)))), none, []⟩]) (.seq (.ops 0 [⟨(some 5), (.v (.mv (.k (.c .nil)))), none, []⟩]) (.seq (.seq (.ops 0 [⟨(some 6), (.v (.mv (.k (.c (.int .i64 0))))), none, []⟩]) (.block 0 (.loop (.seq (.seq (.ops 0 [⟨(some 9), (.v (.mv (.t 6))), none, []⟩, ⟨(some 10), (.v (.mv (.t 1))), none, []⟩, ⟨(some 11), (.v (.lenS (.t 10))), none, []⟩, ⟨(some 12), (.v (.bin .lss (.t 9) (.t 11))), none, []⟩]) (.cond (.t 12) .skip (.exit 0))) (.seq (.block 1 (.seq (.any 0 [⟨0, ⟨[], ⟨(some 16), (.v (.lda 5 (.t 2))), none, []⟩⟩⟩, ⟨1, ⟨[], ⟨(some 17), (.v (.mv (.t 1))), none, []⟩⟩⟩, ⟨2, ⟨[], ⟨(some 18), (.v (.mv (.t 6))), none, []⟩⟩⟩, ⟨3, ⟨[1, 2], ⟨(some 19), (.v (.ia 1 (.t 17) (.t 18))), none, []⟩⟩⟩, ⟨4, ⟨[3, 1, 2], ⟨(some 20), (.v (.ld (.t 19))), none, []⟩⟩⟩, ⟨5, ⟨[0, 4, 3, 1, 2], ⟨(some 21), (.v (.det 13 [⟨false, [(.sl [(.int .i64)])]⟩, ⟨false, [(.int .i64)]⟩] [(.t 16), (.t 20)])), none, []⟩⟩⟩, ⟨6, ⟨[5, 0, 4, 3, 1, 2], ⟨(some 15), (.v (.mv (.t 21))), none, []⟩⟩⟩, ⟨7, ⟨[6, 5, 0, 4, 3, 1, 2], ⟨(some 22), (.v (.ext (.t 15) 0)), none, []⟩⟩⟩, ⟨8, ⟨[6, 5, 0, 4, 3, 1, 2], ⟨(some 23), (.v (.ext (.t 15) 1)), none, []⟩⟩⟩, ⟨9, ⟨[7, 6, 5, 0, 4, 3, 1, 2], ⟨(some 7), (.v (.mv (.t 22))), none, []⟩⟩⟩, ⟨10, ⟨[8, 9, 7, 6, 5, 0, 4, 3, 1, 2], ⟨(some 8), (.v (.mv (.t 23))), none, []⟩⟩⟩]) (.ops 2 [⟨(some 24), (.v (.mv (.t 5))), none, []⟩, ⟨(some 25), (.v (.mv (.t 7))), none, []⟩, ⟨(some 26), (.v (.bsl 0 22 [(.sl [(.int .i64)])] [(.t 25)])), none, []⟩, ⟨(some 27), (.v (.app 1 22 [(.sl [(.int .i64)])] 5864062014805 (.t 24) (.t 26))), none, []⟩, ⟨(some 5), (.v (.mv (.t 27))), none, []⟩]))) (.ops 0 [⟨(some 13), (.v (.mv (.t 6))), none, []⟩, ⟨(some 14), (.v (.bin .add (.t 13) (.k (.c (.int .i64 1))))), none, []⟩, ⟨(some 6), (.v (.mv (.t 14))), none, []⟩])))))) (.seq (.ops 0 [⟨(some 28), (.v (.mv (.t 5))), none, []⟩, ⟨(some 4), (.v (.mv (.t 28))), none, []⟩]) .ret)))), 29, [(.t 4)]⟩
theorem h34 : fnR Try.prog DD 34 = some rf34 := by kernel_rfl
/-- papermill papermillref49.check -/
def rf33 : RFn := ⟨(.seq (.ops 1 [⟨(some 2), (.v (.box 0 24 (.t 0))), none, []⟩, ⟨(some 4), (.v (.mv (.k (.c (.int .i64 0))))), none, []⟩]) (.seq (.seq (.ops 0 [⟨(some 8), (.v (.lda 5 (.t 2))), none, []⟩, ⟨(some 9), (.v (.det 43 [⟨false, [(.int .i64)]⟩] [(.t 8)])), none, []⟩, ⟨(some 5), (.v (.mv (.t 9))), none, []⟩]) (.seq (.ops 0 [⟨(some 10), (.v (.mv (.t 5))), none, []⟩, ⟨(some 11), (.v (.bin .neq (.t 10) (.k (.c (.int .i64 0))))), none, []⟩]) (.cond (.t 11) (.seq (.ops 0 [⟨(some 12), (.v (.mv (.t 5))), none, []⟩, ⟨(some 4), (.v (.mv (.t 12))), none, []⟩]) .ret) .skip))) (.seq (.seq (.ops 0 [⟨(some 13), (.v (.mv (.t 1))), none, []⟩, ⟨(some 14), (.v (.lenS (.t 13))), none, []⟩, ⟨(some 15), (.v (.bin .gtr (.t 14) (.k (.c (.int .i64 8))))), none, []⟩]) (.cond (.t 15) (.seq (.ops 0 [⟨(some 4), (.v (.mv (.k (.c (.int .i64 8))))), none, []⟩]) .ret) .skip)) (.seq (.seq (.ops 0 [⟨(some 6), (.v (.mv (.k (.c (.int .i64 0))))), none, []⟩]) (.block 0 (.loop (.seq (.seq (.ops 0 [⟨(some 16), (.v (.mv (.t 6))), none, []⟩, ⟨(some 17), (.v (.mv (.t 1))), none, []⟩, ⟨(some 18), (.v (.lenS (.t 17))), none, []⟩, ⟨(some 19), (.v (.bin .lss (.t 16) (.t 18))), none, []⟩]) (.cond (.t 19) .skip (.exit 0))) (.seq (.block 1 (.seq (.any 0 [⟨0, ⟨[], ⟨(some 22), (.v (.lda 5 (.t 2))), none, []⟩⟩⟩, ⟨1, ⟨[], ⟨(some 23), (.v (.mv (.t 1))), none, []⟩⟩⟩, ⟨2, ⟨[], ⟨(some 24), (.v (.mv (.t 6))), none, []⟩⟩⟩, ⟨3, ⟨[1, 2], ⟨(some 25), (.v (.ia 1 (.t 23) (.t 24))), none, []⟩⟩⟩, ⟨4, ⟨[3, 1, 2], ⟨(some 26), (.v (.ld (.t 25))), none, []⟩⟩⟩, ⟨5, ⟨[0, 4, 3, 1, 2], ⟨(some 27), (.v (.det 37 [⟨false, [(.int .i64)]⟩] [(.t 22), (.t 26)])), none, []⟩⟩⟩, ⟨6, ⟨[5, 0, 4, 3, 1, 2], ⟨(some 7), (.v (.mv (.t 27))), none, []⟩⟩⟩]) (.seq (.ops 0 [⟨(some 28), (.v (.mv (.t 7))), none, []⟩, ⟨(some 29), (.v (.bin .neq (.t 28) (.k (.c (.int .i64 0))))), none, []⟩]) (.cond (.t 29) (.seq (.ops 0 [⟨(some 30), (.v (.mv (.t 7))), none, []⟩, ⟨(some 4), (.v (.mv (.t 30))), none, []⟩]) .ret) .skip)))) (.ops 0 [⟨(some 20), (.v (.mv (.t 6))), none, []⟩, ⟨(some 21), (.v (.bin .add (.t 20) (.k (.c (.int .i64 1))))), none, []⟩, ⟨(some 6), (.v (.mv (.t 21))), none, []⟩])))))) (.seq (.ops 0 [⟨(some 4), (.v (.mv (.k (.c (.int .i64 0))))), none, []⟩]) .ret))))), 31, [(.t 4)]⟩
theorem h33 : fnR Try.prog DD 33 = some rf33 := by kernel_rfl
/-- papermill papermillref08.Ints -/
def rf14 : RFn := ⟨(.seq (.ops 0 [⟨(some 4), (.v (.mv (.k (.c (.bool false))))), none, []⟩]) (.seq (.seq (.ops 0 [⟨(some 6), (.v (.mv (.t 0))), none, []⟩, ⟨(some 7), (.v (.lenS (.t 6))), none, []⟩, ⟨(some 8), (.v (.mv (.t 1))), none, []⟩, ⟨(some 9), (.v (.lenS (.t 8))), none, []⟩, ⟨(some 10), (.v (.bin .neq (.t 7) (.t 9))), none, []⟩]) (.cond (.t 10) (.seq (.ops 0 [⟨(some 4), (.v (.mv (.k (.c (.bool false))))), none, []⟩]) .ret) .skip)) (.seq (.seq (.ops 0 [⟨(some 5), (.v (.mv (.k (.c (.int .i64 0))))), none, []⟩]) (.block 0 (.loop (.seq (.seq (.ops 0 [⟨(some 11), (.v (.mv (.t 5))), none, []⟩, ⟨(some 12), (.v (.mv (.t 0))), none, []⟩, ⟨(some 13), (.v (.lenS (.t 12))), none, []⟩, ⟨(some 14), (.v (.bin .lss (.t 11) (.t 13))), none, []⟩]) (.cond (.t 14) .skip (.exit 0))) (.seq (.block 1 (.seq (.any 0 [⟨0, ⟨[], ⟨(some 17), (.v (.mv (.t 0))), none, []⟩⟩⟩, ⟨1, ⟨[], ⟨(some 18), (.v (.mv (.t 5))), none, []⟩⟩⟩, ⟨2, ⟨[0, 1], ⟨(some 19), (.v (.ia 1 (.t 17) (.t 18))), none, []⟩⟩⟩, ⟨3, ⟨[2, 0, 1], ⟨(some 20), (.v (.ld (.t 19))), none, []⟩⟩⟩, ⟨4, ⟨[], ⟨(some 21), (.v (.mv (.t 1))), none, []⟩⟩⟩, ⟨5, ⟨[], ⟨(some 22), (.v (.mv (.t 5))), none, []⟩⟩⟩, ⟨6, ⟨[4, 5], ⟨(some 23), (.v (.ia 1 (.t 21) (.t 22))), none, []⟩⟩⟩, ⟨7, ⟨[6, 4, 5], ⟨(some 24), (.v (.ld (.t 23))), none, []⟩⟩⟩, ⟨8, ⟨[3, 2, 0, 1, 7, 6, 4, 5], ⟨(some 25), (.v (.bin .neq (.t 20) (.t 24))), none, []⟩⟩⟩]) (.cond (.t 25) (.seq (.ops 0 [⟨(some 4), (.v (.mv (.k (.c (.bool false))))), none, []⟩]) .ret) .skip))) (.ops 0 [⟨(some 15), (.v (.mv (.t 5))), none, []⟩, ⟨(some 16), (.v (.bin .add (.t 15) (.k (.c (.int .i64 1))))), none, []⟩, ⟨(some 5), (.v (.mv (.t 16))), none, []⟩])))))) (.seq (.ops 0 [⟨(some 4), (.v (.mv (.k (.c (.bool true))))), none, []⟩]) .ret)))), 26, [(.t 4)]⟩
theorem h14 : fnR Try.prog DD 14 = some rf14 := by kernel_rfl
def vc24 (E : Env) (x1 : Int) (x2 : Int) (x3 : Int) (x4 : Int) (x5 : List (List C)) (x6 : List (List C)) (Q : List C → Prop) : Prop :=
  (E.pok 39 [(false, [.sl [.int .i64, .int .i64]]), (false, [.int .i64])] [.agg [.c (.int .i64 x1), .c (.int .i64 x2), .c (.int .i64 x3), .c (.int .i64 x4), .c (.sl [.int .i64] x5)], .c (.sl [.int .i64] x6)]) ∧ (∀ r7 : Nat → C, r7 = E.res 39 [.agg [.c (.int .i64 x1), .c (.int .i64 x2), .c (.int .i64 x3), .c (.int .i64 x4), .c (.sl [.int .i64] x5)], .c (.sl [.int .i64] x6)] → 
  (Br (E.not (E.eq (E.gi (r7 1)) 0))
  (Q [.mp .i64 false [.bool] [], .int .i64 (E.gi (r7 1))])
  (LoopP2 (fun (m8 : List (Int × List C)) (i9 : Int) (K10 : (List (Int × List C)) → (Int) → Prop) =>
    Br (E.lt i9 (E.len (E.gl (r7 0))))
      (((E.le 0 i9) = true) ∧ 
        (K10 ((E.mset (E.mset m8 (E.gi (E.cell (E.gl (r7 0)) i9 0)) [.bool true]) (E.add .i64 (E.gi (E.cell (E.gl (r7 0)) i9 0)) (E.gi (E.cell (E.gl (r7 0)) i9 1))) [.bool true])) ((E.add .i64 i9 1))))
      (Q [.mp .i64 false [.bool] m8, .int .i64 0]))
    ([]) (0))))
theorem w24 {P : Program} {tbl : FuncId → List A → List C}  {x1 : Int} {x2 : Int} {x3 : Int} {x4 : Int} {x5 : List (List C)} {x6 : List (List C)} {row : List C} (h : vc24 (stdE P tbl) x1 x2 x3 x4 x5 x6 fun c => c = row) : WPg P tbl rf24 [(false, [.mp .i64 false [.bool]]), (false, [.int .i64])] row [.agg [.c (.int .i64 x1), .c (.int .i64 x2), .c (.int .i64 x3), .c (.int .i64 x4), .c (.sl [.int .i64] x5)], .c (.sl [.int .i64] x6)] := by
  refine ⟨?_⟩
  revert h
  generalize hE : stdE P tbl = E
  intro h
  unfold vc24 at h
  cbv
  have c11 := h.1
  refine ⟨c11, ?_⟩
  replace h := h.2 _ rfl
  refine ⟨fun hb12 => ?_, fun hb12 => ?_⟩
  · replace h := h.t hb12
    have h : _ = row := h
    subst h
    repeat' (first | exact trivial | exact rfl | refine And.intro ?_ ?_)
  · replace h := h.f hb12
    obtain ⟨I, μ, h0, hI⟩ := h
    refine LoopW.inv (fun R R' s h k => RCode.wp_mono _ R R' s h k) (fun p : List (Int × List C) × Int => (fun (m8 : List (Int × List C)) (i9 : Int) => (⟨[.u, .u, .u, .u, .u, .u, .u, .u, .map 0, .u, .u, .u, .u, .u, .u, .u, .u, .u, .u, .u, .u, .c (.sl [.int .i64, .int .i64] (E.gl ((E.res 39 [.agg [.c (.int .i64 x1), .c (.int .i64 x2), .c (.int .i64 x3), .c (.int .i64 x4), .c (.sl [.int .i64] x5)], .c (.sl [.int .i64] x6)]) 0))), .c (.int .i64 (E.len (E.gl ((E.res 39 [.agg [.c (.int .i64 x1), .c (.int .i64 x2), .c (.int .i64 x3), .c (.int .i64 x4), .c (.sl [.int .i64] x5)], .c (.sl [.int .i64] x6)]) 0)))), .c (.int .i64 i9), .u, .u, .u, .u, .u, .u, .u, .u, .u, .u, .u, .u, .u, .u], [.mp .i64 false [.bool] m8]⟩ : St)) p.1 p.2) (fun p => I p.1 p.2) (fun p => μ p.1 p.2) (_, _) h0 ?_ ?_
    · refine GSt.ren [1] rfl rfl rfl (fun i hi => absurd hi (Nat.not_lt_zero i)) (Nat.zero_le _) ?_ ?_
      all_goals (repeat' (first | exact trivial | exact Or.inl rfl | exact Or.inr rfl | refine And.intro ?_ ?_))
    · rintro ⟨m8, i9⟩ h
      replace h := hI m8 i9 h
      cbv
      refine ⟨fun hb13 => ?_, fun hb13 => ?_⟩
      · replace h := h.t hb13
        have c14 := h.1
        refine ⟨c14, ?_⟩
        replace h := h.2
        refine ⟨hb13, ?_⟩
        refine ⟨(_, _), h.1, GSt.ren [0] rfl rfl rfl (fun i hi => absurd hi (Nat.not_lt_zero i)) (Nat.zero_le _) ?_ ?_, h.2⟩
        all_goals (repeat' (first | exact trivial | exact Or.inl rfl | exact Or.inr rfl | refine And.intro ?_ ?_))
      · replace h := h.f hb13
        have h : _ = row := h
        subst h
        repeat' (first | exact trivial | exact rfl | refine And.intro ?_ ?_)
def vc28 (E : Env) (x1 : List (Int × List C)) (x2 : List (Int × List C)) (Q : List C → Prop) : Prop :=
  RngP1 (x2) (fun (i3 : Int) (q4 : List C) (i5 : Int) (K6 : (Int) → Prop) =>
  Br (E.not (E.gb (E.mlk x1 i3 0 (.bool false))))
    (K6 ((E.add .i64 i5 1)))
    (K6 (i5)))
  (fun (i5 : Int) =>
  Q [.int .i64 i5])
  (0)
theorem w28 {P : Program} {tbl : FuncId → List A → List C}  {x1 : List (Int × List C)} {x2 : List (Int × List C)} {row : List C} (h : vc28 (stdE P tbl) x1 x2 fun c => c = row) : WPg P tbl rf28 [(false, [.int .i64])] row [.c (.mp .i64 false [.bool] x1), .c (.mp .i64 false [.bool] x2)] := by
  refine ⟨?_⟩
  revert h
  generalize hE : stdE P tbl = E
  intro h
  unfold vc28 at h
  cbv
  intro v1 v2
  obtain ⟨I, h0, hf, hI⟩ := h
  refine RngW.inv rngRnd_mono2 (fun p : Int => (fun (i5 : Int) => (⟨[.c (.mp .i64 false [.bool] x1), .u, .u, .u, .u, .c (.int .i64 i5), .u, .u, .pin v1 (.u), .u, .u, .u, .u, .u, .u, .u, .u, .u, .u, .u], []⟩ : St)) p) (fun left p => I left p) _ h0 ?_ (fun p => ⟨rfl, rfl, rfl⟩) ?_ ?_
  · refine GSt.ren [] rfl rfl rfl (fun i hi => absurd hi (Nat.not_lt_zero i)) (Nat.zero_le _) ?_ ?_
    all_goals (repeat' (first | exact trivial | exact Or.inl rfl | exact Or.inr rfl | refine And.intro ?_ ?_))
  · rintro i5 h
    replace h := hf i5 h
    cbv
    have h : _ = row := h
    subst h
    repeat' (first | exact trivial | exact rfl | refine And.intro ?_ ?_)
  · rintro left i5 h i hi
    replace h := hI left i5 h i hi
    generalize left.eraseIdx i = left2 at h ⊢
    generalize left[i] = en at h ⊢
    obtain ⟨i3, q4⟩ := en
    cbv
    refine ⟨fun hb7 => ?_, fun hb7 => ?_⟩
    · replace h := h.t hb7
      refine ⟨_, h, GSt.ren [] rfl rfl rfl (fun i hi => absurd hi (Nat.not_lt_zero i)) (Nat.zero_le _) ?_ ?_⟩
      all_goals (repeat' (first | exact trivial | exact Or.inl rfl | exact Or.inr rfl | refine And.intro ?_ ?_))
    · replace h := h.f hb7
      refine ⟨_, h, GSt.ren [] rfl rfl rfl (fun i hi => absurd hi (Nat.not_lt_zero i)) (Nat.zero_le _) ?_ ?_⟩
      all_goals (repeat' (first | exact trivial | exact Or.inl rfl | exact Or.inr rfl | refine And.intro ?_ ?_))
def vc12 (E : Env) (x1 : Int) (x2 : Int) (x3 : Int) (x4 : Int) (x5 : List (List C)) (x6 : List (List C)) (Q : List C → Prop) : Prop :=
  (E.pok 24 [(false, [.mp .i64 false [.bool]]), (false, [.int .i64])] [.agg [.c (.int .i64 x1), .c (.int .i64 x2), .c (.int .i64 x3), .c (.int .i64 x4), .c (.sl [.int .i64] x5)], .c (.sl [.int .i64] x6)]) ∧ (∀ r7 : Nat → C, r7 = E.res 24 [.agg [.c (.int .i64 x1), .c (.int .i64 x2), .c (.int .i64 x3), .c (.int .i64 x4), .c (.sl [.int .i64] x5)], .c (.sl [.int .i64] x6)] → 
  (Br (E.not (E.eq (E.gi (r7 1)) 0))
  (Q [.sl [.int .i64] [], .int .i64 (E.gi (r7 1))])
  (RngP1 ((E.gm (r7 0))) (fun (i10 : Int) (q11 : List C) (l12 : List (List C)) (K13 : (List (List C)) → Prop) =>
    ((E.le (E.pl (E.len l12) (E.len [[.int .i64 i10]])) 17592186044416) = true) ∧ 
      (K13 ((E.cat l12 [[.int .i64 i10]]))))
    (fun (l12 : List (List C)) =>
    spSort (l12) (fun (l14 : List (List C)) => 
      Q [.sl [.int .i64] l14, .int .i64 0]))
    ([]))))
theorem w12 {P : Program} {tbl : FuncId → List A → List C} (ce25 : OnArr spSort [.int .i64] P 25) {x1 : Int} {x2 : Int} {x3 : Int} {x4 : Int} {x5 : List (List C)} {x6 : List (List C)} {row : List C} (h : vc12 (stdE P tbl) x1 x2 x3 x4 x5 x6 fun c => c = row) : WPg P tbl rf12 [(false, [.sl [.int .i64]]), (false, [.int .i64])] row [.agg [.c (.int .i64 x1), .c (.int .i64 x2), .c (.int .i64 x3), .c (.int .i64 x4), .c (.sl [.int .i64] x5)], .c (.sl [.int .i64] x6)] := by
  refine ⟨?_⟩
  revert h
  generalize hE : stdE P tbl = E
  intro h
  unfold vc12 at h
  cbv
  have c15 := h.1
  refine ⟨c15, ?_⟩
  replace h := h.2 _ rfl
  refine ⟨fun hb16 => ?_, fun hb16 => ?_⟩
  · replace h := h.t hb16
    have h : _ = row := h
    subst h
    repeat' (first | exact trivial | exact rfl | refine And.intro ?_ ?_)
  · replace h := h.f hb16
    intro v8 v9
    obtain ⟨I, h0, hf, hI⟩ := h
    refine RngW.inv rngRnd_mono2 (fun p : List (List C) => (fun (l12 : List (List C)) => (⟨[.u, .u, .u, .u, .u, .u, .u, .u, .gr 0, .u, .u, .u, .u, .u, .u, .u, .u, .u, .u, .u, .pin v8 (.u), .u, .u, .u, .u, .u, .u, .u, .u, .u, .u, .u], [.arr 3 [.int .i64] l12]⟩ : St)) p) (fun left p => I left p) _ h0 ?_ (fun p => ⟨rfl, rfl, rfl⟩) ?_ ?_
    · refine GSt.trans (GSt.nil 8 3 [.int .i64] rfl) (GSt.ren [1] rfl rfl rfl (fun i hi => absurd hi (Nat.not_lt_zero i)) (Nat.zero_le _) ?_ ?_)
      all_goals (repeat' (first | exact trivial | exact Or.inl rfl | exact Or.inr rfl | refine And.intro ?_ ?_))
    · rintro l12 h
      replace h := hf l12 h
      cbv
      refine HCall.mk ce25.1 ((ACalls.frame (ce25.2 (T := 3) _ _ h) (H := _) (tgt := [0]) rfl (by decide) ?_).mono fun r H' hq => ?_)
      · intro i o ho
        match i, ho with
        | 0, ho => cases ho; rfl
      obtain ⟨r1, H1', ⟨l14, h, rfl, rfl⟩, _, rfl, rfl⟩ := hq
      cbv
      try refine KeepP.mk (by repeat' (first | exact trivial | exact rfl | refine And.intro ?_ ?_)) ?_
      have h : _ = row := h
      subst h
      repeat' (first | exact trivial | exact rfl | refine And.intro ?_ ?_)
    · rintro left l12 h i hi
      replace h := hI left l12 h i hi
      generalize left.eraseIdx i = left2 at h ⊢
      generalize left[i] = en at h ⊢
      obtain ⟨i10, q11⟩ := en
      cbv
      have c17 := h.1
      refine ⟨c17, ?_⟩
      replace h := h.2
      refine ⟨_, h, GSt.ren [2] rfl rfl rfl (fun i hi => absurd hi (Nat.not_lt_zero i)) (Nat.zero_le _) ?_ ?_⟩
      all_goals (repeat' (first | exact trivial | exact Or.inl rfl | exact Or.inr rfl | refine And.intro ?_ ?_))
def vc15 (E : Env) (x1 : Int) (x2 : Int) (x3 : Int) (x4 : Int) (x5 : List (List C)) (x6 : List (List C)) (x7 : List (List C)) (Q : List C → Prop) : Prop :=
  (E.pok 24 [(false, [.mp .i64 false [.bool]]), (false, [.int .i64])] [.agg [.c (.int .i64 x1), .c (.int .i64 x2), .c (.int .i64 x3), .c (.int .i64 x4), .c (.sl [.int .i64] x5)], .c (.sl [.int .i64] x6)]) ∧ (∀ r8 : Nat → C, r8 = E.res 24 [.agg [.c (.int .i64 x1), .c (.int .i64 x2), .c (.int .i64 x3), .c (.int .i64 x4), .c (.sl [.int .i64] x5)], .c (.sl [.int .i64] x6)] → 
  (Br (E.not (E.eq (E.gi (r8 1)) 0))
  (Q [.int .i64 0, .int .i64 (E.gi (r8 1))])
  ((E.pok 24 [(false, [.mp .i64 false [.bool]]), (false, [.int .i64])] [.agg [.c (.int .i64 x1), .c (.int .i64 x2), .c (.int .i64 x3), .c (.int .i64 x4), .c (.sl [.int .i64] x5)], .c (.sl [.int .i64] x7)]) ∧ (∀ r9 : Nat → C, r9 = E.res 24 [.agg [.c (.int .i64 x1), .c (.int .i64 x2), .c (.int .i64 x3), .c (.int .i64 x4), .c (.sl [.int .i64] x5)], .c (.sl [.int .i64] x7)] → 
    (Br (E.not (E.eq (E.gi (r9 1)) 0))
    (Q [.int .i64 0, .int .i64 (E.gi (r9 1))])
    ((E.pok 28 [(false, [.int .i64])] [.c (.mp .i64 false [.bool] (E.gm (r8 0))), .c (.mp .i64 false [.bool] (E.gm (r9 0)))]) ∧ (∀ r10 : Nat → C, r10 = E.res 28 [.c (.mp .i64 false [.bool] (E.gm (r8 0))), .c (.mp .i64 false [.bool] (E.gm (r9 0)))] → 
      (Q [.int .i64 (E.gi (r10 0)), .int .i64 0]))))))))
theorem w15 {P : Program} {tbl : FuncId → List A → List C}  {x1 : Int} {x2 : Int} {x3 : Int} {x4 : Int} {x5 : List (List C)} {x6 : List (List C)} {x7 : List (List C)} {row : List C} (h : vc15 (stdE P tbl) x1 x2 x3 x4 x5 x6 x7 fun c => c = row) : WPg P tbl rf15 [(false, [.int .i64]), (false, [.int .i64])] row [.agg [.c (.int .i64 x1), .c (.int .i64 x2), .c (.int .i64 x3), .c (.int .i64 x4), .c (.sl [.int .i64] x5)], .c (.sl [.int .i64] x6), .c (.sl [.int .i64] x7)] := by
  refine ⟨?_⟩
  revert h
  generalize hE : stdE P tbl = E
  intro h
  unfold vc15 at h
  cbv
  have c11 := h.1
  refine ⟨c11, ?_⟩
  replace h := h.2 _ rfl
  refine ⟨fun hb12 => ?_, fun hb12 => ?_⟩
  · replace h := h.t hb12
    have h : _ = row := h
    subst h
    repeat' (first | exact trivial | exact rfl | refine And.intro ?_ ?_)
  · replace h := h.f hb12
    have c13 := h.1
    refine ⟨c13, ?_⟩
    replace h := h.2 _ rfl
    refine ⟨fun hb14 => ?_, fun hb14 => ?_⟩
    · replace h := h.t hb14
      have h : _ = row := h
      subst h
      repeat' (first | exact trivial | exact rfl | refine And.intro ?_ ?_)
    · replace h := h.f hb14
      have c15 := h.1
      refine ⟨c15, ?_⟩
      replace h := h.2 _ rfl
      have h : _ = row := h
      subst h
      repeat' (first | exact trivial | exact rfl | refine And.intro ?_ ?_)
def vc30 (E : Env) (x1 : Int) (x2 : Int) (x3 : Int) (x4 : Int) (x5 : List (List C)) (x6 : List (List C)) (Q : List C → Prop) : Prop :=
  (E.pok 42 [(false, [.int .i64])] [.agg [.c (.int .i64 x1), .c (.int .i64 x2), .c (.int .i64 x3), .c (.int .i64 x4), .c (.sl [.int .i64] x5)]]) ∧ (∀ r7 : Nat → C, r7 = E.res 42 [.agg [.c (.int .i64 x1), .c (.int .i64 x2), .c (.int .i64 x3), .c (.int .i64 x4), .c (.sl [.int .i64] x5)]] → 
  (Br (E.not (E.eq (E.gi (r7 0)) 0))
  (Q [.sl [.mp .i64 false [.bool]] [], .int .i64 (E.gi (r7 0))])
  (Br (E.lt 8 (E.len x6))
    (Q [.sl [.mp .i64 false [.bool]] [], .int .i64 8])
    (LoopP2 (fun (l8 : List (List C)) (i9 : Int) (K10 : (List (List C)) → (Int) → Prop) =>
      Br (E.lt i9 (E.len x6))
        (((E.le 0 i9) = true) ∧ 
          ((E.pok 24 [(false, [.mp .i64 false [.bool]]), (false, [.int .i64])] [.agg [.c (.int .i64 x1), .c (.int .i64 x2), .c (.int .i64 x3), .c (.int .i64 x4), .c (.sl [.int .i64] x5)], .c (.sl [.int .i64] (E.gl (E.cell x6 i9 0)))]) ∧ (∀ r11 : Nat → C, r11 = E.res 24 [.agg [.c (.int .i64 x1), .c (.int .i64 x2), .c (.int .i64 x3), .c (.int .i64 x4), .c (.sl [.int .i64] x5)], .c (.sl [.int .i64] (E.gl (E.cell x6 i9 0)))] → 
          (Br (E.not (E.eq (E.gi (r11 1)) 0))
          (Q [.sl [.mp .i64 false [.bool]] [], .int .i64 (E.gi (r11 1))])
          (((E.le (E.pl (E.len l8) (E.len [[.mp .i64 false [.bool] (E.gm (r11 0))]])) 17592186044416) = true) ∧ 
            (K10 ((E.cat l8 [[.mp .i64 false [.bool] (E.gm (r11 0))]])) ((E.add .i64 i9 1))))))))
        (Q [.sl [.mp .i64 false [.bool]] l8, .int .i64 0]))
      ([]) (0)))))
theorem w30 {P : Program} {tbl : FuncId → List A → List C}  {x1 : Int} {x2 : Int} {x3 : Int} {x4 : Int} {x5 : List (List C)} {x6 : List (List C)} {row : List C} (h : vc30 (stdE P tbl) x1 x2 x3 x4 x5 x6 fun c => c = row) : WPg P tbl rf30 [(false, [.sl [.mp .i64 false [.bool]]]), (false, [.int .i64])] row [.agg [.c (.int .i64 x1), .c (.int .i64 x2), .c (.int .i64 x3), .c (.int .i64 x4), .c (.sl [.int .i64] x5)], .c (.sl [.sl [.int .i64]] x6)] := by
  refine ⟨?_⟩
  revert h
  generalize hE : stdE P tbl = E
  intro h
  unfold vc30 at h
  cbv
  have c12 := h.1
  refine ⟨c12, ?_⟩
  replace h := h.2 _ rfl
  refine ⟨fun hb13 => ?_, fun hb13 => ?_⟩
  · replace h := h.t hb13
    have h : _ = row := h
    subst h
    repeat' (first | exact trivial | exact rfl | refine And.intro ?_ ?_)
  · replace h := h.f hb13
    refine ⟨fun hb14 => ?_, fun hb14 => ?_⟩
    · replace h := h.t hb14
      have h : _ = row := h
      subst h
      repeat' (first | exact trivial | exact rfl | refine And.intro ?_ ?_)
    · replace h := h.f hb14
      obtain ⟨I, μ, h0, hI⟩ := h
      refine LoopW.inv (fun R R' s h k => RCode.wp_mono _ R R' s h k) (fun p : List (List C) × Int => (fun (l8 : List (List C)) (i9 : Int) => (⟨[.u, .u, .ptr 0 0, .u, .u, .u, .u, .gr 1, .u, .u, .u, .u, .u, .u, .u, .u, .u, .u, .u, .u, .c (.sl [.sl [.int .i64]] x6), .c (.int .i64 (E.len x6)), .c (.int .i64 i9), .u, .u, .u, .u, .u, .u, .u, .u, .u, .u, .u, .u, .u, .u, .u, .u, .u, .u], [.box 24 [.c (.int .i64 x1), .c (.int .i64 x2), .c (.int .i64 x3), .c (.int .i64 x4), .c (.sl [.int .i64] x5)], .arr 42 [.mp .i64 false [.bool]] l8]⟩ : St)) p.1 p.2) (fun p => I p.1 p.2) (fun p => μ p.1 p.2) (_, _) h0 ?_ ?_
      · refine GSt.trans (GSt.nil 7 42 [.mp .i64 false [.bool]] rfl) (GSt.ren [0, 1] rfl rfl rfl (fun i hi => absurd hi (Nat.not_lt_zero i)) (Nat.zero_le _) ?_ ?_)
        all_goals (repeat' (first | exact trivial | exact Or.inl rfl | exact Or.inr rfl | refine And.intro ?_ ?_))
      · rintro ⟨l8, i9⟩ h
        replace h := hI l8 i9 h
        cbv
        refine ⟨fun hb15 => ?_, fun hb15 => ?_⟩
        · replace h := h.t hb15
          have c16 := h.1
          refine ⟨c16, ?_⟩
          replace h := h.2
          refine ⟨hb15, ?_⟩
          have c17 := h.1
          refine ⟨c17, ?_⟩
          replace h := h.2 _ rfl
          refine ⟨fun hb18 => ?_, fun hb18 => ?_⟩
          · replace h := h.t hb18
            have h : _ = row := h
            subst h
            repeat' (first | exact trivial | exact rfl | refine And.intro ?_ ?_)
          · replace h := h.f hb18
            have c19 := h.1
            refine ⟨c19, ?_⟩
            replace h := h.2
            refine ⟨(_, _), h.1, GSt.ren [0, 3] rfl rfl rfl (fun i hi => absurd hi (Nat.not_lt_zero i)) (Nat.zero_le _) ?_ ?_, h.2⟩
            all_goals (repeat' (first | exact trivial | exact Or.inl rfl | exact Or.inr rfl | refine And.intro ?_ ?_))
        · replace h := h.f hb15
          have h : _ = row := h
          subst h
          repeat' (first | exact trivial | exact rfl | refine And.intro ?_ ?_)
def vc27 (E : Env) (x1 : List (List C)) (x2 : Int) (Q : List C → Prop) : Prop :=
  LoopP1 (fun (i3 : Int) (K4 : (Int) → Prop) =>
  (Imp (E.lt i3 (E.len x1)) ((E.le 0 i3) = true)) ∧ 
    (Br (E.bite (E.lt i3 (E.len x1)) (E.lt (E.gi (E.cell x1 i3 0)) x2) false)
    (K4 ((E.add .i64 i3 1)))
    (Br (E.bite (E.lt i3 (E.len x1)) (E.eq (E.gi (E.cell x1 i3 0)) x2) false)
      (Q [.sl [.int .i64] x1])
      (((E.le 0 0) = true) ∧ ((E.le 0 i3) = true) ∧ ((E.le i3 (E.len x1)) = true) ∧ 
        (((E.le (E.pl (E.len []) (E.len (E.cut x1 0 i3))) 17592186044416) = true) ∧ 
        (((E.le (E.pl (E.len (E.cat [] (E.cut x1 0 i3))) (E.len [[.int .i64 x2]])) 17592186044416) = true) ∧ 
        (((E.le (E.len x1) (E.len x1)) = true) ∧ 
        (((E.le (E.pl (E.len (E.cat (E.cat [] (E.cut x1 0 i3)) [[.int .i64 x2]])) (E.len (E.cut x1 i3 (E.len x1)))) 17592186044416) = true) ∧ 
        (Q [.sl [.int .i64] (E.cat (E.cat (E.cat [] (E.cut x1 0 i3)) [[.int .i64 x2]]) (E.cut x1 i3 (E.len x1)))])))))))))
  (0)
theorem w27 {P : Program} {tbl : FuncId → List A → List C}  {x1 : List (List C)} {x2 : Int} {row : List C} (h : vc27 (stdE P tbl) x1 x2 fun c => c = row) : WPg P tbl rf27 [(false, [.sl [.int .i64]])] row [.c (.sl [.int .i64] x1), .c (.int .i64 x2)] := by
  refine ⟨?_⟩
  revert h
  generalize hE : stdE P tbl = E
  intro h
  unfold vc27 at h
  cbv
  obtain ⟨I, μ, h0, hI⟩ := h
  refine LoopW.inv (fun R R' s h k => RCode.wp_mono _ R R' s h k) (fun p : Int => (fun (i3 : Int) => (⟨[.c (.sl [.int .i64] x1), .c (.int .i64 x2), .u, .u, .u, .c (.int .i64 i3), .u, .u, .u, .u, .u, .u, .u, .u, .u, .u, .u, .u, .u, .u, .u, .u, .u, .u, .u, .u, .u, .u, .u, .u, .u, .u, .u, .u, .u, .u, .u, .u, .u, .u, .u, .u, .u, .u, .u], []⟩ : St)) p) (fun p => I p) (fun p => μ p) _ h0 ?_ ?_
  · refine GSt.ren [] rfl rfl rfl (fun i hi => absurd hi (Nat.not_lt_zero i)) (Nat.zero_le _) ?_ ?_
    all_goals (repeat' (first | exact trivial | exact Or.inl rfl | exact Or.inr rfl | refine And.intro ?_ ?_))
  · rintro i3 h
    replace h := hI i3 h
    cbv
    refine ⟨⟨fun hh => (by first | exact hh | trivial)⟩, ?_⟩
    refine ⟨⟨fun hh => (by first | exact hh | trivial)⟩, ?_⟩
    have c5 := h.1
    refine ⟨c5, ?_⟩
    replace h := h.2
    refine ⟨⟨fun hh => (by first | exact hh | trivial)⟩, ?_⟩
    refine ⟨⟨fun hh => (by first | exact hh | trivial)⟩, ?_⟩
    refine ⟨⟨fun hh => (by first | exact hh | trivial)⟩, ?_⟩
    refine ⟨⟨fun hh => (by first | exact hh | trivial)⟩, ?_⟩
    refine ⟨⟨fun hh => (by first | exact hh | trivial)⟩, ?_⟩
    refine ⟨fun hb6 => ?_, fun hb6 => ?_⟩
    · replace h := h.t hb6
      refine ⟨_, h.1, GSt.ren [] rfl rfl rfl (fun i hi => absurd hi (Nat.not_lt_zero i)) (Nat.zero_le _) ?_ ?_, h.2⟩
      all_goals (repeat' (first | exact trivial | exact Or.inl rfl | exact Or.inr rfl | refine And.intro ?_ ?_))
    · replace h := h.f hb6
      refine ⟨⟨fun hh => (by first | exact hh | trivial)⟩, ?_⟩
      refine ⟨⟨fun hh => (by first | exact hh | trivial)⟩, ?_⟩
      refine ⟨c5, ?_⟩
      refine ⟨⟨fun hh => (by first | exact hh | trivial)⟩, ?_⟩
      refine ⟨⟨fun hh => (by first | exact hh | trivial)⟩, ?_⟩
      refine ⟨⟨fun hh => (by first | exact hh | trivial)⟩, ?_⟩
      refine ⟨⟨fun hh => (by first | exact hh | trivial)⟩, ?_⟩
      refine ⟨⟨fun hh => (by first | exact hh | trivial)⟩, ?_⟩
      refine ⟨fun hb7 => ?_, fun hb7 => ?_⟩
      · replace h := h.t hb7
        have h : _ = row := h
        subst h
        repeat' (first | exact trivial | exact rfl | refine And.intro ?_ ?_)
      · replace h := h.f hb7
        have c8 := h.1
        refine ⟨c8, ?_⟩
        replace h := h.2
        have c9 := h.1
        refine ⟨c9, ?_⟩
        replace h := h.2
        have c10 := h.1
        refine ⟨c10, ?_⟩
        replace h := h.2
        have c11 := h.1
        refine ⟨c11, ?_⟩
        replace h := h.2
        have c12 := h.1
        refine ⟨c12, ?_⟩
        replace h := h.2
        refine ⟨c9, ?_⟩
        refine ⟨c10, ?_⟩
        have c13 := h.1
        refine ⟨c13, ?_⟩
        replace h := h.2
        have c14 := h.1
        refine ⟨c14, ?_⟩
        replace h := h.2
        have h : _ = row := h
        subst h
        repeat' (first | exact trivial | exact rfl | refine And.intro ?_ ?_)
def vc13 (E : Env) (x1 : Int) (x2 : Int) (x3 : Int) (x4 : Int) (x5 : List (List C)) (x6 : List (List C)) (Q : List C → Prop) : Prop :=
  (E.pok 26 [(false, [.sl [.int .i64, .int .i64]]), (false, [.int .i64])] [.agg [.c (.int .i64 x1), .c (.int .i64 x2), .c (.int .i64 x3), .c (.int .i64 x4), .c (.sl [.int .i64] x5)], .c (.sl [.int .i64] x6)]) ∧ (∀ r7 : Nat → C, r7 = E.res 26 [.agg [.c (.int .i64 x1), .c (.int .i64 x2), .c (.int .i64 x3), .c (.int .i64 x4), .c (.sl [.int .i64] x5)], .c (.sl [.int .i64] x6)] → 
  (Br (E.not (E.eq (E.gi (r7 1)) 0))
  (Q [.sl [.int .i64] [], .int .i64 (E.gi (r7 1))])
  (LoopP2 (fun (l8 : List (List C)) (i9 : Int) (K10 : (List (List C)) → (Int) → Prop) =>
    Br (E.lt i9 (E.len (E.gl (r7 0))))
      (((E.le 0 i9) = true) ∧ 
        ((E.pok 27 [(false, [.sl [.int .i64]])] [.c (.sl [.int .i64] l8), .c (.int .i64 (E.gi (E.cell (E.gl (r7 0)) i9 0)))]) ∧ (∀ r11 : Nat → C, r11 = E.res 27 [.c (.sl [.int .i64] l8), .c (.int .i64 (E.gi (E.cell (E.gl (r7 0)) i9 0)))] → 
        ((E.pok 27 [(false, [.sl [.int .i64]])] [.c (.sl [.int .i64] (E.gl (r11 0))), .c (.int .i64 (E.add .i64 (E.gi (E.cell (E.gl (r7 0)) i9 0)) (E.gi (E.cell (E.gl (r7 0)) i9 1))))]) ∧ (∀ r12 : Nat → C, r12 = E.res 27 [.c (.sl [.int .i64] (E.gl (r11 0))), .c (.int .i64 (E.add .i64 (E.gi (E.cell (E.gl (r7 0)) i9 0)) (E.gi (E.cell (E.gl (r7 0)) i9 1))))] → 
        (K10 ((E.gl (r12 0))) ((E.add .i64 i9 1))))))))
      (Q [.sl [.int .i64] l8, .int .i64 0]))
    ([]) (0))))
theorem w13 {P : Program} {tbl : FuncId → List A → List C}  {x1 : Int} {x2 : Int} {x3 : Int} {x4 : Int} {x5 : List (List C)} {x6 : List (List C)} {row : List C} (h : vc13 (stdE P tbl) x1 x2 x3 x4 x5 x6 fun c => c = row) : WPg P tbl rf13 [(false, [.sl [.int .i64]]), (false, [.int .i64])] row [.agg [.c (.int .i64 x1), .c (.int .i64 x2), .c (.int .i64 x3), .c (.int .i64 x4), .c (.sl [.int .i64] x5)], .c (.sl [.int .i64] x6)] := by
  refine ⟨?_⟩
  revert h
  generalize hE : stdE P tbl = E
  intro h
  unfold vc13 at h
  cbv
  have c13 := h.1
  refine ⟨c13, ?_⟩
  replace h := h.2 _ rfl
  refine ⟨fun hb14 => ?_, fun hb14 => ?_⟩
  · replace h := h.t hb14
    have h : _ = row := h
    subst h
    repeat' (first | exact trivial | exact rfl | refine And.intro ?_ ?_)
  · replace h := h.f hb14
    obtain ⟨I, μ, h0, hI⟩ := h
    refine LoopW.inv (fun R R' s h k => RCode.wp_mono _ R R' s h k) (fun p : List (List C) × Int => (fun (l8 : List (List C)) (i9 : Int) => (⟨[.u, .u, .u, .u, .u, .u, .c (.sl [.int .i64, .int .i64] (E.gl ((E.res 26 [.agg [.c (.int .i64 x1), .c (.int .i64 x2), .c (.int .i64 x3), .c (.int .i64 x4), .c (.sl [.int .i64] x5)], .c (.sl [.int .i64] x6)]) 0))), .u, .c (.sl [.int .i64] l8), .c (.int .i64 i9), .u, .u, .u, .u, .u, .u, .u, .u, .u, .u, .u, .u, .u, .u, .u, .u, .u, .u, .u, .u, .u, .u, .u, .u, .u, .u, .u, .u, .u, .u, .u, .u, .u, .u, .u], []⟩ : St)) p.1 p.2) (fun p => I p.1 p.2) (fun p => μ p.1 p.2) (_, _) h0 ?_ ?_
    · refine GSt.trans (GSt.nilSl 8 [.int .i64] rfl) (GSt.ren [] rfl rfl rfl (fun i hi => absurd hi (Nat.not_lt_zero i)) (Nat.zero_le _) ?_ ?_)
      all_goals (repeat' (first | exact trivial | exact Or.inl rfl | exact Or.inr rfl | refine And.intro ?_ ?_))
    · rintro ⟨l8, i9⟩ h
      replace h := hI l8 i9 h
      cbv
      refine ⟨fun hb15 => ?_, fun hb15 => ?_⟩
      · replace h := h.t hb15
        have c16 := h.1
        refine ⟨c16, ?_⟩
        replace h := h.2
        refine ⟨hb15, ?_⟩
        have c17 := h.1
        refine ⟨c17, ?_⟩
        replace h := h.2 _ rfl
        refine ⟨c16, ?_⟩
        refine ⟨hb15, ?_⟩
        refine ⟨c16, ?_⟩
        refine ⟨hb15, ?_⟩
        have c18 := h.1
        refine ⟨c18, ?_⟩
        replace h := h.2 _ rfl
        refine ⟨(_, _), h.1, GSt.ren [] rfl rfl rfl (fun i hi => absurd hi (Nat.not_lt_zero i)) (Nat.zero_le _) ?_ ?_, h.2⟩
        all_goals (repeat' (first | exact trivial | exact Or.inl rfl | exact Or.inr rfl | refine And.intro ?_ ?_))
      · replace h := h.f hb15
        have h : _ = row := h
        subst h
        repeat' (first | exact trivial | exact rfl | refine And.intro ?_ ?_)
def vc29 (E : Env) (x1 : List (List C)) (x2 : List (List C)) (Q : List C → Prop) : Prop :=
  LoopP2 (fun (i3 : Int) (i4 : Int) (K5 : (Int) → (Int) → Prop) =>
  Br (E.lt i4 (E.len x2))
    (((E.le 0 i4) = true) ∧ 
      ((E.pok 27 [(false, [.sl [.int .i64]])] [.c (.sl [.int .i64] x1), .c (.int .i64 (E.gi (E.cell x2 i4 0)))]) ∧ (∀ r6 : Nat → C, r6 = E.res 27 [.c (.sl [.int .i64] x1), .c (.int .i64 (E.gi (E.cell x2 i4 0)))] → 
      (Br (E.lt (E.len x1) (E.len (E.gl (r6 0))))
      (K5 ((E.add .i64 i3 1)) ((E.add .i64 i4 1)))
      (K5 (i3) ((E.add .i64 i4 1)))))))
    (Q [.int .i64 i3]))
  (0) (0)
theorem w29 {P : Program} {tbl : FuncId → List A → List C}  {x1 : List (List C)} {x2 : List (List C)} {row : List C} (h : vc29 (stdE P tbl) x1 x2 fun c => c = row) : WPg P tbl rf29 [(false, [.int .i64])] row [.c (.sl [.int .i64] x1), .c (.sl [.int .i64] x2)] := by
  refine ⟨?_⟩
  revert h
  generalize hE : stdE P tbl = E
  intro h
  unfold vc29 at h
  cbv
  obtain ⟨I, μ, h0, hI⟩ := h
  refine LoopW.inv (fun R R' s h k => RCode.wp_mono _ R R' s h k) (fun p : Int × Int => (fun (i3 : Int) (i4 : Int) => (⟨[.c (.sl [.int .i64] x1), .c (.sl [.int .i64] x2), .u, .u, .u, .c (.int .i64 i3), .c (.int .i64 i4), .u, .u, .u, .u, .u, .u, .u, .u, .u, .u, .u, .u, .u, .u, .u, .u, .u, .u, .u], []⟩ : St)) p.1 p.2) (fun p => I p.1 p.2) (fun p => μ p.1 p.2) (_, _) h0 ?_ ?_
  · refine GSt.ren [] rfl rfl rfl (fun i hi => absurd hi (Nat.not_lt_zero i)) (Nat.zero_le _) ?_ ?_
    all_goals (repeat' (first | exact trivial | exact Or.inl rfl | exact Or.inr rfl | refine And.intro ?_ ?_))
  · rintro ⟨i3, i4⟩ h
    replace h := hI i3 i4 h
    cbv
    refine ⟨fun hb7 => ?_, fun hb7 => ?_⟩
    · replace h := h.t hb7
      have c8 := h.1
      refine ⟨c8, ?_⟩
      replace h := h.2
      refine ⟨hb7, ?_⟩
      have c9 := h.1
      refine ⟨c9, ?_⟩
      replace h := h.2 _ rfl
      refine ⟨fun hb10 => ?_, fun hb10 => ?_⟩
      · replace h := h.t hb10
        refine ⟨(_, _), h.1, GSt.ren [] rfl rfl rfl (fun i hi => absurd hi (Nat.not_lt_zero i)) (Nat.zero_le _) ?_ ?_, h.2⟩
        all_goals (repeat' (first | exact trivial | exact Or.inl rfl | exact Or.inr rfl | refine And.intro ?_ ?_))
      · replace h := h.f hb10
        refine ⟨(_, _), h.1, GSt.ren [] rfl rfl rfl (fun i hi => absurd hi (Nat.not_lt_zero i)) (Nat.zero_le _) ?_ ?_, h.2⟩
        all_goals (repeat' (first | exact trivial | exact Or.inl rfl | exact Or.inr rfl | refine And.intro ?_ ?_))
    · replace h := h.f hb7
      have h : _ = row := h
      subst h
      repeat' (first | exact trivial | exact rfl | refine And.intro ?_ ?_)
def vc16 (E : Env) (x1 : Int) (x2 : Int) (x3 : Int) (x4 : Int) (x5 : List (List C)) (x6 : List (List C)) (x7 : List (List C)) (Q : List C → Prop) : Prop :=
  (E.pok 13 [(false, [.sl [.int .i64]]), (false, [.int .i64])] [.agg [.c (.int .i64 x1), .c (.int .i64 x2), .c (.int .i64 x3), .c (.int .i64 x4), .c (.sl [.int .i64] x5)], .c (.sl [.int .i64] x6)]) ∧ (∀ r8 : Nat → C, r8 = E.res 13 [.agg [.c (.int .i64 x1), .c (.int .i64 x2), .c (.int .i64 x3), .c (.int .i64 x4), .c (.sl [.int .i64] x5)], .c (.sl [.int .i64] x6)] → 
  (Br (E.not (E.eq (E.gi (r8 1)) 0))
  (Q [.int .i64 0, .int .i64 (E.gi (r8 1))])
  ((E.pok 13 [(false, [.sl [.int .i64]]), (false, [.int .i64])] [.agg [.c (.int .i64 x1), .c (.int .i64 x2), .c (.int .i64 x3), .c (.int .i64 x4), .c (.sl [.int .i64] x5)], .c (.sl [.int .i64] x7)]) ∧ (∀ r9 : Nat → C, r9 = E.res 13 [.agg [.c (.int .i64 x1), .c (.int .i64 x2), .c (.int .i64 x3), .c (.int .i64 x4), .c (.sl [.int .i64] x5)], .c (.sl [.int .i64] x7)] → 
    (Br (E.not (E.eq (E.gi (r9 1)) 0))
    (Q [.int .i64 0, .int .i64 (E.gi (r9 1))])
    ((E.pok 29 [(false, [.int .i64])] [.c (.sl [.int .i64] (E.gl (r8 0))), .c (.sl [.int .i64] (E.gl (r9 0)))]) ∧ (∀ r10 : Nat → C, r10 = E.res 29 [.c (.sl [.int .i64] (E.gl (r8 0))), .c (.sl [.int .i64] (E.gl (r9 0)))] → 
      (Q [.int .i64 (E.gi (r10 0)), .int .i64 0]))))))))
theorem w16 {P : Program} {tbl : FuncId → List A → List C}  {x1 : Int} {x2 : Int} {x3 : Int} {x4 : Int} {x5 : List (List C)} {x6 : List (List C)} {x7 : List (List C)} {row : List C} (h : vc16 (stdE P tbl) x1 x2 x3 x4 x5 x6 x7 fun c => c = row) : WPg P tbl rf16 [(false, [.int .i64]), (false, [.int .i64])] row [.agg [.c (.int .i64 x1), .c (.int .i64 x2), .c (.int .i64 x3), .c (.int .i64 x4), .c (.sl [.int .i64] x5)], .c (.sl [.int .i64] x6), .c (.sl [.int .i64] x7)] := by
  refine ⟨?_⟩
  revert h
  generalize hE : stdE P tbl = E
  intro h
  unfold vc16 at h
  cbv
  have c11 := h.1
  refine ⟨c11, ?_⟩
  replace h := h.2 _ rfl
  refine ⟨fun hb12 => ?_, fun hb12 => ?_⟩
  · replace h := h.t hb12
    have h : _ = row := h
    subst h
    repeat' (first | exact trivial | exact rfl | refine And.intro ?_ ?_)
  · replace h := h.f hb12
    have c13 := h.1
    refine ⟨c13, ?_⟩
    replace h := h.2 _ rfl
    refine ⟨fun hb14 => ?_, fun hb14 => ?_⟩
    · replace h := h.t hb14
      have h : _ = row := h
      subst h
      repeat' (first | exact trivial | exact rfl | refine And.intro ?_ ?_)
    · replace h := h.f hb14
      have c15 := h.1
      refine ⟨c15, ?_⟩
      replace h := h.2 _ rfl
      have h : _ = row := h
      subst h
      repeat' (first | exact trivial | exact rfl | refine And.intro ?_ ?_)
def vc34 (E : Env) (x1 : Int) (x2 : Int) (x3 : Int) (x4 : Int) (x5 : List (List C)) (x6 : List (List C)) (Q : List C → Prop) : Prop :=
  LoopP2 (fun (l7 : List (List C)) (i8 : Int) (K9 : (List (List C)) → (Int) → Prop) =>
  Br (E.lt i8 (E.len x6))
    (((E.le 0 i8) = true) ∧ 
      ((E.pok 13 [(false, [.sl [.int .i64]]), (false, [.int .i64])] [.agg [.c (.int .i64 x1), .c (.int .i64 x2), .c (.int .i64 x3), .c (.int .i64 x4), .c (.sl [.int .i64] x5)], .c (.sl [.int .i64] (E.gl (E.cell x6 i8 0)))]) ∧ (∀ r10 : Nat → C, r10 = E.res 13 [.agg [.c (.int .i64 x1), .c (.int .i64 x2), .c (.int .i64 x3), .c (.int .i64 x4), .c (.sl [.int .i64] x5)], .c (.sl [.int .i64] (E.gl (E.cell x6 i8 0)))] → 
      (((E.le (E.pl (E.len l7) (E.len [[.sl [.int .i64] (E.gl (r10 0))]])) 5864062014805) = true) ∧ 
      (K9 ((E.cat l7 [[.sl [.int .i64] (E.gl (r10 0))]])) ((E.add .i64 i8 1)))))))
    (Q [.sl [.sl [.int .i64]] l7]))
  ([]) (0)
theorem w34 {P : Program} {tbl : FuncId → List A → List C}  {x1 : Int} {x2 : Int} {x3 : Int} {x4 : Int} {x5 : List (List C)} {x6 : List (List C)} {row : List C} (h : vc34 (stdE P tbl) x1 x2 x3 x4 x5 x6 fun c => c = row) : WPg P tbl rf34 [(false, [.sl [.sl [.int .i64]]])] row [.agg [.c (.int .i64 x1), .c (.int .i64 x2), .c (.int .i64 x3), .c (.int .i64 x4), .c (.sl [.int .i64] x5)], .c (.sl [.sl [.int .i64]] x6)] := by
  refine ⟨?_⟩
  revert h
  generalize hE : stdE P tbl = E
  intro h
  unfold vc34 at h
  cbv
  obtain ⟨I, μ, h0, hI⟩ := h
  refine LoopW.inv (fun R R' s h k => RCode.wp_mono _ R R' s h k) (fun p : List (List C) × Int => (fun (l7 : List (List C)) (i8 : Int) => (⟨[.u, .c (.sl [.sl [.int .i64]] x6), .ptr 0 0, .u, .u, .gr 1, .c (.int .i64 i8), .u, .u, .u, .u, .u, .u, .u, .u, .u, .u, .u, .u, .u, .u, .u, .u, .u, .u, .u, .u, .u, .u], [.box 24 [.c (.int .i64 x1), .c (.int .i64 x2), .c (.int .i64 x3), .c (.int .i64 x4), .c (.sl [.int .i64] x5)], .arr 22 [.sl [.int .i64]] l7]⟩ : St)) p.1 p.2) (fun p => I p.1 p.2) (fun p => μ p.1 p.2) (_, _) h0 ?_ ?_
  · refine GSt.trans (GSt.nil 5 22 [.sl [.int .i64]] rfl) (GSt.ren [0, 1] rfl rfl rfl (fun i hi => absurd hi (Nat.not_lt_zero i)) (Nat.zero_le _) ?_ ?_)
    all_goals (repeat' (first | exact trivial | exact Or.inl rfl | exact Or.inr rfl | refine And.intro ?_ ?_))
  · rintro ⟨l7, i8⟩ h
    replace h := hI l7 i8 h
    cbv
    refine ⟨fun hb11 => ?_, fun hb11 => ?_⟩
    · replace h := h.t hb11
      have c12 := h.1
      refine ⟨c12, ?_⟩
      replace h := h.2
      refine ⟨hb11, ?_⟩
      have c13 := h.1
      refine ⟨c13, ?_⟩
      replace h := h.2 _ rfl
      have c14 := h.1
      refine ⟨c14, ?_⟩
      replace h := h.2
      refine ⟨(_, _), h.1, GSt.ren [0, 3] rfl rfl rfl (fun i hi => absurd hi (Nat.not_lt_zero i)) (Nat.zero_le _) ?_ ?_, h.2⟩
      all_goals (repeat' (first | exact trivial | exact Or.inl rfl | exact Or.inr rfl | refine And.intro ?_ ?_))
    · replace h := h.f hb11
      have h : _ = row := h
      subst h
      repeat' (first | exact trivial | exact rfl | refine And.intro ?_ ?_)
def vc33 (E : Env) (x1 : Int) (x2 : Int) (x3 : Int) (x4 : Int) (x5 : List (List C)) (x6 : List (List C)) (Q : List C → Prop) : Prop :=
  (E.pok 43 [(false, [.int .i64])] [.agg [.c (.int .i64 x1), .c (.int .i64 x2), .c (.int .i64 x3), .c (.int .i64 x4), .c (.sl [.int .i64] x5)]]) ∧ (∀ r7 : Nat → C, r7 = E.res 43 [.agg [.c (.int .i64 x1), .c (.int .i64 x2), .c (.int .i64 x3), .c (.int .i64 x4), .c (.sl [.int .i64] x5)]] → 
  (Br (E.not (E.eq (E.gi (r7 0)) 0))
  (Q [.int .i64 (E.gi (r7 0))])
  (Br (E.lt 8 (E.len x6))
    (Q [.int .i64 8])
    (LoopP1 (fun (i8 : Int) (K9 : (Int) → Prop) =>
      Br (E.lt i8 (E.len x6))
        (((E.le 0 i8) = true) ∧ 
          ((E.pok 37 [(false, [.int .i64])] [.agg [.c (.int .i64 x1), .c (.int .i64 x2), .c (.int .i64 x3), .c (.int .i64 x4), .c (.sl [.int .i64] x5)], .c (.sl [.int .i64] (E.gl (E.cell x6 i8 0)))]) ∧ (∀ r10 : Nat → C, r10 = E.res 37 [.agg [.c (.int .i64 x1), .c (.int .i64 x2), .c (.int .i64 x3), .c (.int .i64 x4), .c (.sl [.int .i64] x5)], .c (.sl [.int .i64] (E.gl (E.cell x6 i8 0)))] → 
          (Br (E.not (E.eq (E.gi (r10 0)) 0))
          (Q [.int .i64 (E.gi (r10 0))])
          (K9 ((E.add .i64 i8 1)))))))
        (Q [.int .i64 0]))
      (0)))))
theorem w33 {P : Program} {tbl : FuncId → List A → List C}  {x1 : Int} {x2 : Int} {x3 : Int} {x4 : Int} {x5 : List (List C)} {x6 : List (List C)} {row : List C} (h : vc33 (stdE P tbl) x1 x2 x3 x4 x5 x6 fun c => c = row) : WPg P tbl rf33 [(false, [.int .i64])] row [.agg [.c (.int .i64 x1), .c (.int .i64 x2), .c (.int .i64 x3), .c (.int .i64 x4), .c (.sl [.int .i64] x5)], .c (.sl [.sl [.int .i64]] x6)] := by
  refine ⟨?_⟩
  revert h
  generalize hE : stdE P tbl = E
  intro h
  unfold vc33 at h
  cbv
  have c11 := h.1
  refine ⟨c11, ?_⟩
  replace h := h.2 _ rfl
  refine ⟨fun hb12 => ?_, fun hb12 => ?_⟩
  · replace h := h.t hb12
    have h : _ = row := h
    subst h
    repeat' (first | exact trivial | exact rfl | refine And.intro ?_ ?_)
  · replace h := h.f hb12
    refine ⟨fun hb13 => ?_, fun hb13 => ?_⟩
    · replace h := h.t hb13
      have h : _ = row := h
      subst h
      repeat' (first | exact trivial | exact rfl | refine And.intro ?_ ?_)
    · replace h := h.f hb13
      obtain ⟨I, μ, h0, hI⟩ := h
      refine LoopW.inv (fun R R' s h k => RCode.wp_mono _ R R' s h k) (fun p : Int => (fun (i8 : Int) => (⟨[.u, .c (.sl [.sl [.int .i64]] x6), .ptr 0 0, .u, .u, .u, .c (.int .i64 i8), .u, .u, .u, .u, .u, .u, .u, .u, .u, .u, .u, .u, .u, .u, .u, .u, .u, .u, .u, .u, .u, .u, .u, .u], [.box 24 [.c (.int .i64 x1), .c (.int .i64 x2), .c (.int .i64 x3), .c (.int .i64 x4), .c (.sl [.int .i64] x5)]]⟩ : St)) p) (fun p => I p) (fun p => μ p) _ h0 ?_ ?_
      · refine GSt.ren [0] rfl rfl rfl (fun i hi => absurd hi (Nat.not_lt_zero i)) (Nat.zero_le _) ?_ ?_
        all_goals (repeat' (first | exact trivial | exact Or.inl rfl | exact Or.inr rfl | refine And.intro ?_ ?_))
      · rintro i8 h
        replace h := hI i8 h
        cbv
        refine ⟨fun hb14 => ?_, fun hb14 => ?_⟩
        · replace h := h.t hb14
          have c15 := h.1
          refine ⟨c15, ?_⟩
          replace h := h.2
          refine ⟨hb14, ?_⟩
          have c16 := h.1
          refine ⟨c16, ?_⟩
          replace h := h.2 _ rfl
          refine ⟨fun hb17 => ?_, fun hb17 => ?_⟩
          · replace h := h.t hb17
            have h : _ = row := h
            subst h
            repeat' (first | exact trivial | exact rfl | refine And.intro ?_ ?_)
          · replace h := h.f hb17
            refine ⟨_, h.1, GSt.ren [0] rfl rfl rfl (fun i hi => absurd hi (Nat.not_lt_zero i)) (Nat.zero_le _) ?_ ?_, h.2⟩
            all_goals (repeat' (first | exact trivial | exact Or.inl rfl | exact Or.inr rfl | refine And.intro ?_ ?_))
        · replace h := h.f hb14
          have h : _ = row := h
          subst h
          repeat' (first | exact trivial | exact rfl | refine And.intro ?_ ?_)
def vc14 (E : Env) (x1 : List (List C)) (x2 : List (List C)) (Q : List C → Prop) : Prop :=
  Br (E.not (E.eq (E.len x1) (E.len x2)))
  (Q [.bool false])
  (LoopP1 (fun (i3 : Int) (K4 : (Int) → Prop) =>
    Br (E.lt i3 (E.len x1))
      (((E.le 0 i3) = true) ∧ 
        (((E.lt i3 (E.len x2)) = true) ∧ 
        (Br (E.not (E.eq (E.gi (E.cell x1 i3 0)) (E.gi (E.cell x2 i3 0))))
        (Q [.bool false])
        (K4 ((E.add .i64 i3 1))))))
      (Q [.bool true]))
    (0))
theorem w14 {P : Program} {tbl : FuncId → List A → List C}  {x1 : List (List C)} {x2 : List (List C)} {row : List C} (h : vc14 (stdE P tbl) x1 x2 fun c => c = row) : WPg P tbl rf14 [(false, [.bool])] row [.c (.sl [.int .i64] x1), .c (.sl [.int .i64] x2)] := by
  refine ⟨?_⟩
  revert h
  generalize hE : stdE P tbl = E
  intro h
  unfold vc14 at h
  cbv
  refine ⟨fun hb5 => ?_, fun hb5 => ?_⟩
  · replace h := h.t hb5
    have h : _ = row := h
    subst h
    repeat' (first | exact trivial | exact rfl | refine And.intro ?_ ?_)
  · replace h := h.f hb5
    obtain ⟨I, μ, h0, hI⟩ := h
    refine LoopW.inv (fun R R' s h k => RCode.wp_mono _ R R' s h k) (fun p : Int => (fun (i3 : Int) => (⟨[.c (.sl [.int .i64] x1), .c (.sl [.int .i64] x2), .u, .u, .u, .c (.int .i64 i3), .u, .u, .u, .u, .u, .u, .u, .u, .u, .u, .u, .u, .u, .u, .u, .u, .u, .u, .u, .u], []⟩ : St)) p) (fun p => I p) (fun p => μ p) _ h0 ?_ ?_
    · refine GSt.ren [] rfl rfl rfl (fun i hi => absurd hi (Nat.not_lt_zero i)) (Nat.zero_le _) ?_ ?_
      all_goals (repeat' (first | exact trivial | exact Or.inl rfl | exact Or.inr rfl | refine And.intro ?_ ?_))
    · rintro i3 h
      replace h := hI i3 h
      cbv
      refine ⟨fun hb6 => ?_, fun hb6 => ?_⟩
      · replace h := h.t hb6
        have c7 := h.1
        refine ⟨c7, ?_⟩
        replace h := h.2
        refine ⟨hb6, ?_⟩
        refine ⟨c7, ?_⟩
        have c8 := h.1
        refine ⟨c8, ?_⟩
        replace h := h.2
        refine ⟨fun hb9 => ?_, fun hb9 => ?_⟩
        · replace h := h.t hb9
          have h : _ = row := h
          subst h
          repeat' (first | exact trivial | exact rfl | refine And.intro ?_ ?_)
        · replace h := h.f hb9
          refine ⟨_, h.1, GSt.ren [] rfl rfl rfl (fun i hi => absurd hi (Nat.not_lt_zero i)) (Nat.zero_le _) ?_ ?_, h.2⟩
          all_goals (repeat' (first | exact trivial | exact Or.inl rfl | exact Or.inr rfl | refine And.intro ?_ ?_))
      · replace h := h.f hb6
        have h : _ = row := h
        subst h
        repeat' (first | exact trivial | exact rfl | refine And.intro ?_ ?_)
end Go.Proofs.Ytjmgphobpgajbaa.V
