/- Ledgers: the walks of the functions that look at a ledger. No conditions. -/
import Derived.Test.YtlmllogbaacoeaaCtr2
set_option linter.unusedVariables false
set_option linter.unusedSimpArgs false
namespace Go.Proofs.Ytlmllogbaacoeaa.V
open Go Go.Eng
set_option maxRecDepth 1000000
set_option maxHeartbeats 4000000
/-- (*papermill ledger.Ledger).Copy -/
def rf32 : RFn := ⟨(.seq (.ops 0 [⟨(some 2), (.v (.mv (.k .np))), none, []⟩]) (.seq (.seq (.ops 0 [⟨(some 6), (.v (.mv (.t 0))), none, []⟩, ⟨(some 7), (.v (.eqn 1 false (.t 6))), none, []⟩]) (.cond (.t 7) (.seq (.ops 0 [⟨(some 2), (.v (.mv (.k .np))), none, []⟩]) .ret) .skip)) (.seq (.ops 0 [⟨(some 8), (.h (.call 15 [])), none, []⟩, ⟨(some 3), (.v (.mv (.t 8))), none, []⟩]) (.seq (.seq (.ops 0 [⟨(some 9), (.v (.mv (.t 0))), none, []⟩, ⟨(some 10), (.v (.nc (.t 9))), none, []⟩, ⟨(some 11), (.v (.fa 0 (.t 10))), none, []⟩, ⟨(some 12), (.v (.ld (.t 11))), none, []⟩, ⟨(some 13), (.v (.lenS (.t 12))), none, []⟩, ⟨(some 14), (.v (.mv (.k (.c (.int .i64 0))))), none, []⟩]) (.block 0 (.loop (.seq (.ops 0 [⟨(some 15), (.v (.bin .lss (.t 14) (.t 13))), none, []⟩]) (.seq (.cond (.t 15) .skip (.exit 0)) (.seq (.block 1 (.seq (.ops 1 [⟨(some 16), (.v (.ia 3 (.t 12) (.t 14))), none, []⟩, ⟨(some 17), (.v (.lda 3 (.t 16))), none, []⟩, ⟨(some 5), (.v (.alloc 0 24 [(.c (.int .i64 0)), (.c (.int .i64 0)), (.c .nil)])), none, []⟩, ⟨none, (.v (.st 3 (.t 5) (.t 17))), none, []⟩]) (.seq (.any 2 [⟨0, ⟨[], ⟨(some 18), (.v (.mv (.t 3))), none, []⟩⟩⟩, ⟨1, ⟨[], ⟨(some 19), (.v (.mv (.t 3))), none, []⟩⟩⟩, ⟨2, ⟨[1], ⟨(some 20), (.v (.nc (.t 19))), none, []⟩⟩⟩, ⟨3, ⟨[2, 1], ⟨(some 21), (.v (.fa 0 (.t 20))), none, []⟩⟩⟩, ⟨4, ⟨[3, 2, 1], ⟨(some 22), (.v (.ld (.t 21))), none, []⟩⟩⟩, ⟨5, ⟨[], ⟨(some 23), (.v (.lda 3 (.t 5))), none, []⟩⟩⟩, ⟨6, ⟨[5], ⟨(some 24), (.v (.det 37 [⟨true, [(.int .i64), (.int .i64), (.sl [(.int .i64), (.int .i64)])]⟩] [(.t 23)])), none, []⟩⟩⟩, ⟨7, ⟨[6, 5], ⟨(some 25), (.v (.bsl 0 24 [(.int .i64), (.int .i64), (.sl [(.int .i64), (.int .i64)])] [(.t 24)])), none, []⟩⟩⟩, ⟨8, ⟨[4, 3, 2, 1, 7, 6, 5], ⟨(some 26), (.v (.app 1 24 [(.int .i64), (.int .i64), (.sl [(.int .i64), (.int .i64)])] 3518437208883 (.t 22) (.t 25))), none, []⟩⟩⟩, ⟨9, ⟨[0, 8, 4, 3, 2, 1, 7, 6, 5], ⟨(some 27), (.v (.nc (.t 18))), none, []⟩⟩⟩, ⟨10, ⟨[9, 0, 8, 4, 3, 2, 1, 7, 6, 5], ⟨(some 28), (.v (.fa 0 (.t 27))), none, []⟩⟩⟩, ⟨11, ⟨[10, 9, 0, 8, 4, 3, 2, 1, 7, 6, 5], ⟨none, (.v (.st 1 (.t 28) (.t 26))), none, []⟩⟩⟩]) (.ops 0 [⟨(some 29), (.v (.mv (.t 3))), none, []⟩, ⟨(some 30), (.v (.lda 3 (.t 5))), none, []⟩, ⟨(some 31), (.h (.call 35 [(.t 29), (.t 30), (.k (.c (.int .i64 1)))])), none, []⟩])))) (.ops 0 [⟨(some 32), (.v (.bin .add (.t 14) (.k (.c (.int .i64 1))))), none, []⟩, ⟨(some 14), (.v (.mv (.t 32))), none, []⟩]))))))) (.seq (.ops 0 [⟨(some 33), (.v (.mv (.t 3))), none, []⟩, ⟨(some 2), (.v (.mv (.t 33))), none, []⟩]) .ret))))), 34, [(.t 2)]⟩
theorem h32 : fnR Try.prog DD 32 = some rf32 := by kernel_rfl
/-- papermill papermillref58.New -/
def rf16 : RFn := ⟨(.seq (.ops 0 [⟨(some 0), (.v (.mv (.k .np))), none, []⟩]) (.seq (.ops 1 [⟨(some 1), (.v (.build [(.c .nil)] [])), none, []⟩, ⟨(some 2), (.v (.box 0 56 (.t 1))), none, []⟩, ⟨(some 0), (.v (.mv (.t 2))), none, []⟩]) .ret)), 3, [(.t 0)]⟩
theorem h16 : fnR Try.prog DD 16 = some rf16 := by kernel_rfl
/-- (*papermill papermillref58.Ledger).Balance -/
def rf27 : RFn := ⟨(.seq (.ops 0 [⟨(some 4), (.v (.mv (.k (.c (.int .i64 0))))), none, []⟩]) (.seq (.seq (.ops 0 [⟨(some 5), (.v (.mv (.t 0))), none, []⟩, ⟨(some 6), (.v (.eqn 1 false (.t 5))), none, []⟩]) (.cond (.t 6) (.seq (.ops 0 [⟨(some 4), (.v (.mv (.k (.c (.int .i64 0))))), none, []⟩]) .ret) .skip)) (.seq (.ops 0 [⟨(some 7), (.v (.mv (.t 0))), none, []⟩, ⟨(some 8), (.v (.nc (.t 7))), none, []⟩, ⟨(some 9), (.v (.fa 0 (.t 8))), none, []⟩, ⟨(some 10), (.v (.ld (.t 9))), none, []⟩, ⟨(some 11), (.v (.mv (.t 1))), none, []⟩, ⟨(some 12), (.v (.det 42 [⟨false, [(.int .i64)]⟩] [(.t 10), (.t 11)])), none, []⟩, ⟨(some 4), (.v (.mv (.t 12))), none, []⟩]) .ret))), 13, [(.t 4)]⟩
theorem h27 : fnR Try.prog DD 27 = some rf27 := by kernel_rfl
/-- (*papermill papermillref58.Ledger).At -/
def rf29 : RFn := ⟨(.seq (.ops 0 [⟨(some 6), (.v (.mv (.k (.c (.int .i64 0))))), none, []⟩]) (.seq (.seq (.ops 0 [⟨(some 7), (.v (.mv (.t 0))), none, []⟩, ⟨(some 8), (.v (.eqn 1 false (.t 7))), none, []⟩]) (.cond (.t 8) (.seq (.ops 0 [⟨(some 6), (.v (.mv (.k (.c (.int .i64 0))))), none, []⟩]) .ret) .skip)) (.seq (.ops 0 [⟨(some 9), (.v (.mv (.t 0))), none, []⟩, ⟨(some 10), (.v (.nc (.t 9))), none, []⟩, ⟨(some 11), (.v (.fa 0 (.t 10))), none, []⟩, ⟨(some 12), (.v (.ld (.t 11))), none, []⟩, ⟨(some 13), (.v (.mv (.t 1))), none, []⟩, ⟨(some 14), (.v (.mv (.t 2))), none, []⟩, ⟨(some 15), (.v (.det 43 [⟨false, [(.int .i64)]⟩] [(.t 12), (.t 13), (.t 14)])), none, []⟩, ⟨(some 6), (.v (.mv (.t 15))), none, []⟩]) .ret))), 16, [(.t 6)]⟩
theorem h29 : fnR Try.prog DD 29 = some rf29 := by kernel_rfl
/-- (*papermill papermillref58.Ledger).Postings -/
def rf22 : RFn := ⟨(.seq (.ops 0 [⟨(some 2), (.v (.mv (.k (.c .nil)))), none, []⟩]) (.seq (.seq (.ops 0 [⟨(some 6), (.v (.mv (.t 0))), none, []⟩, ⟨(some 7), (.v (.eqn 1 false (.t 6))), none, []⟩]) (.cond (.t 7) (.seq (.ops 0 [⟨(some 2), (.v (.mv (.k (.c .nil)))), none, []⟩]) .ret) .skip)) (.seq (.ops 0 [⟨(some 3), (.v (.mv (.k (.c .nil)))), none, []⟩]) (.seq (.seq (.ops 0 [⟨(some 4), (.v (.mv (.k (.c (.int .i64 0))))), none, []⟩]) (.block 0 (.loop (.seq (.seq (.ops 0 [⟨(some 8), (.v (.mv (.t 4))), none, []⟩, ⟨(some 9), (.v (.mv (.t 0))), none, []⟩, ⟨(some 10), (.v (.nc (.t 9))), none, []⟩, ⟨(some 11), (.v (.fa 0 (.t 10))), none, []⟩, ⟨(some 12), (.v (.ld (.t 11))), none, []⟩, ⟨(some 13), (.v (.lenS (.t 12))), none, []⟩, ⟨(some 14), (.v (.bin .lss (.t 8) (.t 13))), none, []⟩]) (.cond (.t 14) .skip (.exit 0))) (.seq (.block 1 (.seq (.ops 1 [⟨(some 17), (.v (.mv (.t 0))), none, []⟩, ⟨(some 18), (.v (.nc (.t 17))), none, []⟩, ⟨(some 19), (.v (.fa 0 (.t 18))), none, []⟩, ⟨(some 20), (.v (.ld (.t 19))), none, []⟩, ⟨(some 21), (.v (.mv (.t 4))), none, []⟩, ⟨(some 22), (.v (.ia 3 (.t 20) (.t 21))), none, []⟩, ⟨(some 23), (.v (.lda 3 (.t 22))), none, []⟩, ⟨(some 5), (.v (.alloc 0 24 [(.c (.int .i64 0)), (.c (.int .i64 0)), (.c .nil)])), none, []⟩, ⟨none, (.v (.st 3 (.t 5) (.t 23))), none, []⟩]) (.seq (.ops 2 [⟨(some 24), (.v (.bsl 0 45 [(.int .i64), (.int .i64)] [])), none, []⟩, ⟨(some 25), (.v (.fa 2 (.t 5))), none, []⟩, ⟨(some 26), (.v (.ld (.t 25))), none, []⟩, ⟨(some 27), (.v (.app 1 45 [(.int .i64), (.int .i64)] 8796093022208 (.t 24) (.t 26))), none, []⟩, ⟨(some 28), (.v (.fa 2 (.t 5))), none, []⟩, ⟨none, (.v (.st 1 (.t 28) (.t 27))), none, []⟩]) (.ops 2 [⟨(some 29), (.v (.mv (.t 3))), none, []⟩, ⟨(some 30), (.v (.lda 3 (.t 5))), none, []⟩, ⟨(some 31), (.v (.bsl 0 24 [(.int .i64), (.int .i64), (.sl [(.int .i64), (.int .i64)])] [(.t 30)])), none, []⟩, ⟨(some 32), (.v (.app 1 24 [(.int .i64), (.int .i64), (.sl [(.int .i64), (.int .i64)])] 3518437208883 (.t 29) (.t 31))), none, []⟩, ⟨(some 3), (.v (.mv (.t 32))), none, []⟩])))) (.ops 0 [⟨(some 15), (.v (.mv (.t 4))), none, []⟩, ⟨(some 16), (.v (.bin .add (.t 15) (.k (.c (.int .i64 1))))), none, []⟩, ⟨(some 4), (.v (.mv (.t 16))), none, []⟩])))))) (.seq (.ops 0 [⟨(some 33), (.v (.mv (.t 3))), none, []⟩, ⟨(some 2), (.v (.mv (.t 33))), none, []⟩]) .ret))))), 34, [(.t 2)]⟩
theorem h22 : fnR Try.prog DD 22 = some rf22 := by kernel_rfl
/-- (*papermill papermillref58.Ledger).Accounts -/
def rf25 : RFn := ⟨(.seq (.ops 0 [⟨(some 2), (.v (.mv (.k (.c .nil)))), none, []⟩]) (.seq (.seq (.ops 0 [⟨(some 3), (.v (.mv (.t 0))), none, []⟩, ⟨(some 4), (.v (.eqn 1 false (.t 3))), none, []⟩]) (.cond (.t 4) (.seq (.ops 0 [⟨(some 2), (.v (.mv (.k (.c .nil)))), none, []⟩]) .ret) .skip)) (.seq (.ops 0 [⟨(some 5), (.v (.mv (.t 0))), none, []⟩, ⟨(some 6), (.v (.nc (.t 5))), none, []⟩, ⟨(some 7), (.v (.fa 0 (.t 6))), none, []⟩, ⟨(some 8), (.v (.ld (.t 7))), none, []⟩, ⟨(some 9), (.v (.det 41 [⟨false, [(.sl [(.int .i64)])]⟩] [(.t 8)])), none, []⟩, ⟨(some 2), (.v (.mv (.t 9))), none, []⟩]) .ret))), 10, [(.t 2)]⟩
theorem h25 : fnR Try.prog DD 25 = some rf25 := by kernel_rfl
/-- papermill papermillref58.accounts -/
def rf41 : RFn := ⟨(.seq (.ops 0 [⟨(some 2), (.v (.mv (.k (.c .nil)))), none, []⟩]) (.seq (.ops 0 [⟨(some 3), (.v (.mv (.k (.c .nil)))), none, []⟩]) (.seq (.seq (.ops 0 [⟨(some 4), (.v (.mv (.k (.c (.int .i64 0))))), none, []⟩]) (.block 0 (.loop (.seq (.seq (.ops 0 [⟨(some 9), (.v (.mv (.t 4))), none, []⟩, ⟨(some 10), (.v (.mv (.t 0))), none, []⟩, ⟨(some 11), (.v (.lenS (.t 10))), none, []⟩, ⟨(some 12), (.v (.bin .lss (.t 9) (.t 11))), none, []⟩]) (.cond (.t 12) .skip (.exit 0))) (.seq (.block 1 (.seq (.ops 0 [⟨(some 5), (.v (.mv (.k (.c (.int .i64 0))))), none, []⟩]) (.block 2 (.loop (.seq (.seq (.ops 0 [⟨(some 15), (.v (.mv (.t 5))), none, []⟩, ⟨(some 16), (.v (.mv (.t 0))), none, []⟩, ⟨(some 17), (.v (.mv (.t 4))), none, []⟩, ⟨(some 18), (.v (.ia 3 (.t 16) (.t 17))), none, []⟩, ⟨(some 19), (.v (.fa 2 (.t 18))), none, []⟩, ⟨(some 20), (.v (.ld (.t 19))), none, []⟩, ⟨(some 21), (.v (.lenS (.t 20))), none, []⟩, ⟨(some 22), (.v (.bin .lss (.t 15) (.t 21))), none, []⟩]) (.cond (.t 22) .skip (.exit 2))) (.seq (.block 3 (.seq (.ops 0 [⟨(some 25), (.v (.mv (.t 0))), none, []⟩, ⟨(some 26), (.v (.mv (.t 4))), none, []⟩, ⟨(some 27), (.v (.ia 3 (.t 25) (.t 26))), none, []⟩, ⟨(some 28), (.v (.fa 2 (.t 27))), none, []⟩, ⟨(some 29), (.v (.ld (.t 28))), none, []⟩, ⟨(some 30), (.v (.mv (.t 5))), none, []⟩, ⟨(some 31), (.v (.ia 2 (.t 29) (.t 30))), none, []⟩, ⟨(some 32), (.v (.fa 0 (.t 31))), none, []⟩, ⟨(some 33), (.v (.ld (.t 32))), none, []⟩, ⟨(some 6), (.v (.mv (.t 33))), none, []⟩]) (.seq (.ops 0 [⟨(some 7), (.v (.mv (.k (.c (.int .i64 0))))), none, []⟩]) (.seq (.block 4 (.loop (.seq (.seq (.ops 0 [⟨(some 34), (.v (.mv (.t 7))), none, []⟩, ⟨(some 35), (.v (.mv (.t 3))), none, []⟩, ⟨(some 36), (.v (.lenS (.t 35))), none, []⟩, ⟨(some 37), (.v (.bin .lss (.t 34) (.t 36))), none, []⟩, ⟨(some 38), (.v (.mv (.t 37))), none, []⟩, ⟨(some 39), (.v (.mv (.t 3))), (some ⟨38, true⟩), [(.t 3)]⟩, ⟨(some 40), (.v (.mv (.t 7))), (some ⟨38, true⟩), [(.t 7)]⟩, ⟨(some 41), (.v (.ia 1 (.t 39) (.t 40))), (some ⟨38, true⟩), [(.t 39), (.t 40)]⟩, ⟨(some 42), (.v (.ld (.t 41))), (some ⟨38, true⟩), [(.t 41)]⟩, ⟨(some 43), (.v (.mv (.t 6))), (some ⟨38, true⟩), [(.t 6)]⟩, ⟨(some 44), (.v (.bin .lss (.t 42) (.t 43))), (some ⟨38, true⟩), [(.t 42), (.t 43)]⟩, ⟨(some 45), (.v (.pick (.t 38) (.t 44) (.k (.c (.bool false))))), none, []⟩]) (.cond (.t 45) .skip (.exit 4))) (.block 5 (.ops 0 [⟨(some 46), (.v (.mv (.t 7))), none, []⟩, ⟨(some 47), (.v (.bin .add (.t 46) (.k (.c (.int .i64 1))))), none, []⟩, ⟨(some 7), (.v (.mv (.t 47))), none, []⟩]))))) (.seq (.seq (.ops 0 [⟨(some 48), (.v (.mv (.t 7))), none, []⟩, ⟨(some 49), (.v (.mv (.t 3))), none, []⟩, ⟨(some 50), (.v (.lenS (.t 49))), none, []⟩, ⟨(some 51), (.v (.bin .lss (.t 48) (.t 50))), none, []⟩, ⟨(some 52), (.v (.mv (.t 51))), none, []⟩, ⟨(some 53), (.v (.mv (.t 3))), (some ⟨52, true⟩), [(.t 3)]⟩, ⟨(some 54), (.v (.mv (.t 7))), (some ⟨52, true⟩), [(.t 7)]⟩, ⟨(some 55), (.v (.ia 1 (.t 53) (.t 54))), (some ⟨52, true⟩), [(.t 53), (.t 54)]⟩, ⟨(some 56), (.v (.ld (.t 55))), (some ⟨52, true⟩), [(.t 55)]⟩, ⟨(some 57), (.v (.mv (.t 6))), (some ⟨52, true⟩), [(.t 6)]⟩, ⟨(some 58), (.v (.bin .eql (.t 56) (.t 57))), (some ⟨52, true⟩), [(.t 56), (.t 57)]⟩, ⟨(some 59), (.v (.pick (.t 52) (.t 58) (.k (.c (.bool false))))), none, []⟩]) (.cond (.t 59) (.exit 3) .skip)) (.seq (.ops 2 [⟨(some 60), (.v (.bsl 0 3 [(.int .i64)] [])), none, []⟩, ⟨(some 61), (.v (.mv (.t 3))), none, []⟩, ⟨(some 62), (.v (.mv (.t 7))), none, []⟩, ⟨(some 63), (.v (.sls 1 (.t 61) none (some (.t 62)))), none, []⟩, ⟨(some 64), (.v (.app 1 3 [(.int .i64)] 17592186044416 (.t 60) (.t 63))), none, []⟩, ⟨(some 8), (.v (.mv (.t 64))), none, []⟩]) (.seq (.ops 2 [⟨(some 65), (.v (.mv (.t 8))), none, []⟩, ⟨(some 66), (.v (.mv (.t 6))), none, []⟩, ⟨(some 67), (.v (.bsl 0 3 [(.int .i64)] [(.t 66)])), none, []⟩, ⟨(some 68), (.v (.app 1 3 [(.int .i64)] 17592186044416 (.t 65) (.t 67))), none, []⟩, ⟨(some 8), (.v (.mv (.t 68))), none, []⟩]) (.ops 1 [⟨(some 69), (.v (.mv (.t 8))), none, []⟩, ⟨(some 70), (.v (.mv (.t 3))), none, []⟩, ⟨(some 71), (.v (.mv (.t 7))), none, []⟩, ⟨(some 72), (.v (.sls 1 (.t 70) (some (.t 71)) none)), none, []⟩, ⟨(some 73), (.v (.app 0 3 [(.int .i64)] 17592186044416 (.t 69) (.t 72))), none, []⟩, ⟨(some 3), (.v (.mv (.t 73))), none, []⟩])))))))) (.ops 0 [⟨(some 23), (.v (.mv (.t 5))), none, []⟩, ⟨(some 24), (.v (.bin .add (.t 23) (.k (.c (.int .i64 1))))), none, []⟩, ⟨(some 5), (.v (.mv (.t 24))), none, []⟩]))))))) (.ops 0 [⟨(some 13), (.v (.mv (.t 4))), none, []⟩, ⟨(some 14), (.v (.bin .add (.t 13) (.k (.c (.int .i64 1))))), none, []⟩, ⟨(some 4), (.v (.mv (.t 14))), none, []⟩])))))) (.seq (.ops 0 [⟨(some 74), (.v (.mv (.t 3))), none, []⟩, ⟨(some 2), (.v (.mv (.t 74))), none, []⟩]) .ret)))), 75, [(.t 2)]⟩
theorem h41 : fnR Try.prog DD 41 = some rf41 := by kernel_rfl
/-- papermill papermillref58.Same -/
def rf20 : RFn := ⟨(.seq (.ops 0 [⟨(some 4), (.v (.mv (.k (.c (.bool false))))), none, []⟩]) (.seq (.seq (.ops 0 [⟨(some 6), (.v (.mv (.t 0))), none, []⟩, ⟨(some 7), (.v (.lenS (.t 6))), none, []⟩, ⟨(some 8), (.v (.mv (.t 1))), none, []⟩, ⟨(some 9), (.v (.lenS (.t 8))), none, []⟩, ⟨(some 10), (.v (.bin .neq (.t 7) (.t 9))), none, []⟩]) (.cond (.t 10) (.seq (.ops 0 [⟨(some 4), (.v (.mv (.k (.c (.bool false))))), none, []⟩]) .ret) .skip)) (.seq (.seq (.ops 0 [⟨(some 5), (.v (.mv (.k (.c (.int .i64 0))))), none, []⟩]) (.block 0 (.loop (.seq (.seq (.ops 0 [⟨(some 11), (.v (.mv (.t 5))), none, []⟩, ⟨(some 12), (.v (.mv (.t 0))), none, []⟩, ⟨(some 13), (.v (.lenS (.t 12))), none, []⟩, ⟨(some 14), (.v (.bin .lss (.t 11) (.t 13))), none, []⟩]) (.cond (.t 14) .skip (.exit 0))) (.seq (.block 1 (.seq (.any 0 [⟨0, ⟨[], ⟨(some 17), (.v (.mv (.t 0))), none, []⟩⟩⟩, ⟨1, ⟨[], ⟨(some 18), (.v (.mv (.t 5))), none, []⟩⟩⟩, ⟨2, ⟨[0, 1], ⟨(some 19), (.v (.ia 3 (.t 17) (.t 18))), none, []⟩⟩⟩, ⟨3, ⟨[2, 0, 1], ⟨(some 20), (.v (.lda 3 (.t 19))), none, []⟩⟩⟩, ⟨4, ⟨[], ⟨(some 21), (.v (.mv (.t 1))), none, []⟩⟩⟩, ⟨5, ⟨[], ⟨(some 22), (.v (.mv (.t 5))), none, []⟩⟩⟩, ⟨6, ⟨[4, 5], ⟨(some 23), (.v (.ia 3 (.t 21) (.t 22))), none, []⟩⟩⟩, ⟨7, ⟨[6, 4, 5], ⟨(some 24), (.v (.lda 3 (.t 23))), none, []⟩⟩⟩, ⟨8, ⟨[3, 2, 0, 1, 7, 6, 4, 5], ⟨(some 25), (.v (.det 30 [⟨false, [.bool]⟩] [(.t 20), (.t 24)])), none, []⟩⟩⟩, ⟨9, ⟨[8, 3, 2, 0, 1, 7, 6, 4, 5], ⟨(some 26), (.v (.un .not (.t 25))), none, []⟩⟩⟩]) (.cond (.t 26) (.seq (.ops 0 [⟨(some 4), (.v (.mv (.k (.c (.bool false))))), none, []⟩]) .ret) .skip))) (.ops 0 [⟨(some 15), (.v (.mv (.t 5))), none, []⟩, ⟨(some 16), (.v (.bin .add (.t 15) (.k (.c (.int .i64 1))))), none, []⟩, ⟨(some 5), (.v (.mv (.t 16))), none, []⟩])))))) (.seq (.ops 0 [⟨(some 4), (.v (.mv (.k (.c (.bool true))))), none, []⟩]) .ret)))), 27, [(.t 4)]⟩
theorem h20 : fnR Try.prog DD 20 = some rf20 := by kernel_rfl
/-- papermill papermillref58.SameOne -/
def rf30 : RFn := ⟨(.seq (.ops 2 [⟨(some 2), (.v (.box 0 24 (.t 0))), none, []⟩, ⟨(some 3), (.v (.box 1 24 (.t 1))), none, []⟩, ⟨(some 4), (.v (.mv (.k (.c (.bool false))))), none, []⟩]) (.seq (.seq (.ops 0 [⟨(some 6), (.v (.fa 0 (.t 2))), none, []⟩, ⟨(some 7), (.v (.ld (.t 6))), none, []⟩, ⟨(some 8), (.v (.fa 0 (.t 3))), none, []⟩, ⟨(some 9), (.v (.ld (.t 8))), none, []⟩, ⟨(some 10), (.v (.bin .neq (.t 7) (.t 9))), none, []⟩, ⟨(some 11), (.v (.mv (.t 10))), none, []⟩, ⟨(some 12), (.v (.fa 1 (.t 2))), (some ⟨11, false⟩), [(.t 2)]⟩, ⟨(some 13), (.v (.ld (.t 12))), (some ⟨11, false⟩), [(.t 12)]⟩, ⟨(some 14), (.v (.fa 1 (.t 3))), (some ⟨11, false⟩), [(.t 3)]⟩, ⟨(some 15), (.v (.ld (.t 14))), (some ⟨11, false⟩), [(.t 14)]⟩, ⟨(some 16), (.v (.bin .neq (.t 13) (.t 15))), (some ⟨11, false⟩), [(.t 13), (.t 15)]⟩, ⟨(some 17), (.v (.pick (.t 11) (.k (.c (.bool true))) (.t 16))), none, []⟩, ⟨(some 18), (.v (.mv (.t 17))), none, []⟩, ⟨(some 19), (.v (.fa 2 (.t 2))), (some ⟨18, false⟩), [(.t 2)]⟩, ⟨(some 20), (.v (.ld (.t 19))), (some ⟨18, false⟩), [(.t 19)]⟩, ⟨(some 21), (.v (.lenS (.t 20))), (some ⟨18, false⟩), [(.t 20)]⟩, ⟨(some 22), (.v (.fa 2 (.t 3))), (some ⟨18, false⟩), [(.t 3)]⟩, ⟨(some 23), (.v (.ld (.t 22))), (some ⟨18, false⟩), [(.t 22)]⟩, ⟨(some 24), (.v (.lenS (.t 23))), (some ⟨18, false⟩), [(.t 23)]⟩, ⟨(some 25), (.v (.bin .neq (.t 21) (.t 24))), (some ⟨18, false⟩), [(.t 21), (.t 24)]⟩, ⟨(some 26), (.v (.pick (.t 18) (.k (.c (.bool true))) (.t 25))), none, []⟩]) (.cond (.t 26) (.seq (.ops 0 [⟨(some 4), (.v (.mv (.k (.c (.bool false))))), none, []⟩]) .ret) .skip)) (.seq (.seq (.ops 0 [⟨(some 5), (.v (.mv (.k (.c (.int .i64 0))))), none, []⟩]) (.block 0 (.loop (.seq (.seq (.ops 0 [⟨(some 27), (.v (.mv (.t 5))), none, []⟩, ⟨(some 28), (.v (.fa 2 (.t 2))), none, []⟩, ⟨(some 29), (.v (.ld (.t 28))), none, []⟩, ⟨(some 30), (.v (.lenS (.t 29))), none, []⟩, ⟨(some 31), (.v (.bin .lss (.t 27) (.t 30))), none, []⟩]) (.cond (.t 31) .skip (.exit 0))) (.seq (.block 1 (.seq (.any 0 [⟨0, ⟨[], ⟨(some 34), (.v (.fa 2 (.t 2))), none, []⟩⟩⟩, ⟨1, ⟨[0], ⟨(some 35), (.v (.ld (.t 34))), none, []⟩⟩⟩, ⟨2, ⟨[], ⟨(some 36), (.v (.mv (.t 5))), none, []⟩⟩⟩, ⟨3, ⟨[1, 0, 2], ⟨(some 37), (.v (.ia 2 (.t 35) (.t 36))), none, []⟩⟩⟩, ⟨4, ⟨[3, 1, 0, 2], ⟨(some 38), (.v (.lda 2 (.t 37))), none, []⟩⟩⟩, ⟨5, ⟨[], ⟨(some 39), (.v (.fa 2 (.t 3))), none, []⟩⟩⟩, ⟨6, ⟨[5], ⟨(some 40), (.v (.ld (.t 39))), none, []⟩⟩⟩, ⟨7, ⟨[], ⟨(some 41), (.v (.mv (.t 5))), none, []⟩⟩⟩, ⟨8, ⟨[6, 5, 7], ⟨(some 42), (.v (.ia 2 (.t 40) (.t 41))), none, []⟩⟩⟩, ⟨9, ⟨[8, 6, 5, 7], ⟨(some 43), (.v (.lda 2 (.t 42))), none, []⟩⟩⟩, ⟨10, ⟨[4, 3, 1, 0, 2, 9, 8, 6, 5, 7], ⟨(some 44), (.v (.eqs [(.int .i64), (.int .i64)] true (.t 38) (.t 43))), none, []⟩⟩⟩]) (.cond (.t 44) (.seq (.ops 0 [⟨(some 4), (.v (.mv (.k (.c (.bool false))))), none, []⟩]) .ret) .skip))) (.ops 0 [⟨(some 32), (.v (.mv (.t 5))), none, []⟩, ⟨(some 33), (.v (.bin .add (.t 32) (.k (.c (.int .i64 1))))), none, []⟩, ⟨(some 5), (.v (.mv (.t 33))), none, []⟩])))))) (.seq (.ops 0 [⟨(some 4), (.v (.mv (.k (.c (.bool true))))), none, []⟩]) .ret)))), 45, [(.t 4)]⟩
theorem h30 : fnR Try.prog DD 30 = some rf30 := by kernel_rfl
/-- papermill papermilllaw58.wide -/
def rf17 : RFn := ⟨(.seq (.ops 0 [⟨(some 2), (.v (.mv (.k (.c (.bool false))))), none, []⟩]) (.seq (.seq (.ops 0 [⟨(some 3), (.v (.mv (.k (.c (.int .i64 0))))), none, []⟩]) (.block 0 (.loop (.seq (.seq (.ops 0 [⟨(some 4), (.v (.mv (.t 3))), none, []⟩, ⟨(some 5), (.v (.mv (.t 0))), none, []⟩, ⟨(some 6), (.v (.lenS (.t 5))), none, []⟩, ⟨(some 7), (.v (.bin .lss (.t 4) (.t 6))), none, []⟩]) (.cond (.t 7) .skip (.exit 0))) (.seq (.block 1 (.seq (.ops 0 [⟨(some 10), (.v (.mv (.t 0))), none, []⟩, ⟨(some 11), (.v (.mv (.t 3))), none, []⟩, ⟨(some 12), (.v (.ia 3 (.t 10) (.t 11))), none, []⟩, ⟨(some 13), (.v (.fa 2 (.t 12))), none, []⟩, ⟨(some 14), (.v (.ld (.t 13))), none, []⟩, ⟨(some 15), (.v (.lenS (.t 14))), none, []⟩, ⟨(some 16), (.v (.bin .gtr (.t 15) (.k (.c (.int .i64 40))))), none, []⟩]) (.cond (.t 16) (.seq (.ops 0 [⟨(some 2), (.v (.mv (.k (.c (.bool true))))), none, []⟩]) .ret) .skip))) (.ops 0 [⟨(some 8), (.v (.mv (.t 3))), none, []⟩, ⟨(some 9), (.v (.bin .add (.t 8) (.k (.c (.int .i64 1))))), none, []⟩, ⟨(some 3), (.v (.mv (.t 9))), none, []⟩])))))) (.seq (.ops 0 [⟨(some 2), (.v (.mv (.k (.c (.bool false))))), none, []⟩]) .ret))), 17, [(.t 2)]⟩
theorem h17 : fnR Try.prog DD 17 = some rf17 := by kernel_rfl
def vc26 (E : Env) (x1 : List (List C)) (x2 : List (Int × C)) (x3 : Int) (Q0 : (Int) → Prop) : Prop :=
  (false = false) ∧ 
  (Q0 ((E.gi (E.mlk x2 x3 (.int .i64 0)))))
theorem w26 {P : Program} {tbl : FuncId → List A → List C} {x1 : List (List C)} {x2 : List (Int × C)} {x3 : Int}  {Q0 : (Int) → Prop} (h : vc26 (stdE P tbl) x1 x2 x3 Q0) : WEg P tbl rf26 (fun r H' => (∃ i1 : Int, Q0 i1 ∧ r = .c (.int .i64 i1) ∧ H' = [.box 54 [.gr 1, .map 2], .arr 24 [.int .i64, .int .i64, .sl [.int .i64, .int .i64]] x1, .mp .i64 (.int .i64) x2])) [.ptr 0 0, .c (.int .i64 x3)] [.box 54 [.gr 1, .map 2], .arr 24 [.int .i64, .int .i64, .sl [.int .i64, .int .i64]] x1, .mp .i64 (.int .i64) x2] := by
  refine ⟨?_⟩
  revert h
  generalize hE : stdE P tbl = E
  intro h
  unfold vc26 at h
  cbv
  have hb2 := h.1
  refine ⟨fun hb => absurd (hb2.symm.trans hb) Bool.false_ne_true, fun _ => ?_⟩
  replace h := h.2
  refine ⟨_, _, GFin.of (GSt.ren [0, 1, 2] rfl rfl rfl (by decide) (Nat.le_add_left _ _) ?_ ?_), ⟨_, h, rfl, rfl⟩⟩
  all_goals (repeat' (first | exact trivial | exact Or.inl rfl | exact Or.inr rfl | refine And.intro ?_ ?_))
def vc26N (E : Env) (x3 : Int) (Q0 : Prop) : Prop :=
  (true = true) ∧ 
  (Q0 )
theorem w26N {P : Program} {tbl : FuncId → List A → List C} {x3 : Int}  {Q0 : Prop} (h : vc26N (stdE P tbl) x3 Q0) : WEg P tbl rf26 (fun r H' => (Q0  ∧ r = .c (.int .i64 0) ∧ H' = [])) [.np, .c (.int .i64 x3)] [] := by
  refine ⟨?_⟩
  revert h
  generalize hE : stdE P tbl = E
  intro h
  unfold vc26N at h
  cbv
  have hb1 := h.1
  refine ⟨fun _ => ?_, fun hb => absurd (hb.symm.trans hb1) Bool.false_ne_true⟩
  replace h := h.2
  refine ⟨_, _, GFin.of (GSt.ren [] rfl rfl rfl (fun i hi => absurd hi (Nat.not_lt_zero i)) (Nat.zero_le _) ?_ ?_), ⟨h, rfl, rfl⟩⟩
  all_goals (repeat' (first | exact trivial | exact Or.inl rfl | exact Or.inr rfl | refine And.intro ?_ ?_))
def vc28 (E : Env) (x1 : List (List C)) (x2 : List (Int × C)) (x3 : Int) (x4 : Int) (Q0 : (Int) → Prop) : Prop :=
  (false = false) ∧ 
  (LoopP2 (fun (i2 : Int) (i3 : Int) (K4 : (Int) → (Int) → Prop) =>
  Br (E.lt i3 (E.len x1))
    (((E.le 0 i3) = true) ∧ 
      (LoopP2 (fun (i5 : Int) (i6 : Int) (K7 : (Int) → (Int) → Prop) =>
      Br (E.lt i6 (E.len (E.gl (E.cell x1 i3 2))))
        (((E.le 0 i6) = true) ∧ 
          (Br (E.bite (E.le (E.gi (E.cell x1 i3 1)) x4) (E.eq (E.gi (E.cell (E.gl (E.cell x1 i3 2)) i6 0)) x3) false)
          (K7 ((E.add .i64 i5 (E.gi (E.cell (E.gl (E.cell x1 i3 2)) i6 1)))) ((E.add .i64 i6 1)))
          (K7 (i5) ((E.add .i64 i6 1)))))
        (K4 (i5) ((E.add .i64 i3 1))))
      (i2) (0)))
    (Q0 (i2)))
  (0) (0))
theorem w28 {P : Program} {tbl : FuncId → List A → List C} {x1 : List (List C)} {x2 : List (Int × C)} {x3 : Int} {x4 : Int}  {Q0 : (Int) → Prop} (h : vc28 (stdE P tbl) x1 x2 x3 x4 Q0) : WEg P tbl rf28 (fun r H' => (∃ i1 : Int, Q0 i1 ∧ r = .c (.int .i64 i1) ∧ H' = [.box 54 [.gr 1, .map 2], .arr 24 [.int .i64, .int .i64, .sl [.int .i64, .int .i64]] x1, .mp .i64 (.int .i64) x2])) [.ptr 0 0, .c (.int .i64 x3), .c (.int .i64 x4)] [.box 54 [.gr 1, .map 2], .arr 24 [.int .i64, .int .i64, .sl [.int .i64, .int .i64]] x1, .mp .i64 (.int .i64) x2] := by
  refine ⟨?_⟩
  revert h
  generalize hE : stdE P tbl = E
  intro h
  unfold vc28 at h
  cbv
  have hb8 := h.1
  refine ⟨fun hb => absurd (hb8.symm.trans hb) Bool.false_ne_true, fun _ => ?_⟩
  replace h := h.2
  obtain ⟨I, μ, h0, hI⟩ := h
  refine LoopW.inv (fun R R' s h k => RCode.wp_mono _ R R' s h k) (fun p : Int × Int => (fun (i2 : Int) (i3 : Int) => (⟨[.u, .c (.int .i64 x3), .c (.int .i64 x4), .u, .u, .u, .u, .c (.int .i64 i2), .u, .u, .u, .u, .u, .u, .u, .u, .u, .gr 1, .c (.int .i64 (E.len x1)), .c (.int .i64 i3), .u, .u, .u, .u, .u, .u, .u, .u, .u, .u, .u, .u, .u, .u, .u, .u, .u, .u, .u, .u, .u, .u, .u, .u, .u, .u, .u], [.box 54 [.gr 1, .map 2], .arr 24 [.int .i64, .int .i64, .sl [.int .i64, .int .i64]] x1, .mp .i64 (.int .i64) x2]⟩ : St)) p.1 p.2) (fun p => I p.1 p.2) (fun p => μ p.1 p.2) (_, _) h0 ?_ ?_
  · refine GSt.ren [0, 1, 2] rfl rfl rfl (by decide) (Nat.le_add_left _ _) ?_ ?_
    all_goals (repeat' (first | exact trivial | exact Or.inl rfl | exact Or.inr rfl | refine And.intro ?_ ?_))
  · rintro ⟨i2, i3⟩ h
    replace h := hI i2 i3 h
    cbv
    refine ⟨fun hb9 => ?_, fun hb9 => ?_⟩
    · replace h := h.t hb9
      have c10 := h.1
      refine ⟨c10, ?_⟩
      replace h := h.2
      refine ⟨hb9, ?_⟩
      obtain ⟨I, μ, h0, hI⟩ := h
      refine LoopW.inv (fun R R' s h k => RCode.wp_mono _ R R' s h k) (fun p : Int × Int => (fun (i5 : Int) (i6 : Int) => (⟨[.u, .c (.int .i64 x3), .c (.int .i64 x4), .u, .u, .u, .u, .c (.int .i64 i5), .u, .ptr 3 0, .u, .u, .u, .u, .u, .u, .u, .gr 1, .c (.int .i64 (E.len x1)), .c (.int .i64 i3), .u, .u, .u, .u, .c (.sl [.int .i64, .int .i64] (E.gl (E.cell x1 i3 2))), .c (.int .i64 (E.len (E.gl (E.cell x1 i3 2)))), .c (.int .i64 i6), .u, .u, .u, .u, .u, .u, .u, .u, .u, .u, .u, .u, .u, .u, .u, .u, .u, .u, .u, .u], [.box 54 [.gr 1, .map 2], .arr 24 [.int .i64, .int .i64, .sl [.int .i64, .int .i64]] x1, .mp .i64 (.int .i64) x2, .box 24 [.c (.int .i64 (E.gi (E.cell x1 i3 0))), .c (.int .i64 (E.gi (E.cell x1 i3 1))), .c (.sl [.int .i64, .int .i64] (E.gl (E.cell x1 i3 2)))]]⟩ : St)) p.1 p.2) (fun p => I p.1 p.2) (fun p => μ p.1 p.2) (_, _) h0 ?_ ?_
      · refine GSt.ren [0, 1, 2, 3] rfl rfl rfl (by decide) (Nat.le_add_left _ _) ?_ ?_
        all_goals (repeat' (first | exact trivial | exact Or.inl rfl | exact Or.inr rfl | refine And.intro ?_ ?_))
      · rintro ⟨i5, i6⟩ h
        replace h := hI i5 i6 h
        cbv
        refine ⟨fun hb11 => ?_, fun hb11 => ?_⟩
        · replace h := h.t hb11
          have c12 := h.1
          refine ⟨c12, ?_⟩
          replace h := h.2
          refine ⟨hb11, ?_⟩
          refine ⟨⟨fun hh => hh⟩, ?_⟩
          refine ⟨⟨fun hh => hh⟩, ?_⟩
          refine ⟨⟨fun hh => hh⟩, ?_⟩
          refine ⟨⟨fun hh => hh⟩, ?_⟩
          refine ⟨fun hb13 => ?_, fun hb13 => ?_⟩
          · replace h := h.t hb13
            refine ⟨(_, _), h.1, GSt.ren [0, 1, 2, 3] rfl rfl rfl (by decide) (Nat.le_add_left _ _) ?_ ?_, h.2⟩
            all_goals (repeat' (first | exact trivial | exact Or.inl rfl | exact Or.inr rfl | refine And.intro ?_ ?_))
          · replace h := h.f hb13
            refine ⟨(_, _), h.1, GSt.ren [0, 1, 2, 3] rfl rfl rfl (by decide) (Nat.le_add_left _ _) ?_ ?_, h.2⟩
            all_goals (repeat' (first | exact trivial | exact Or.inl rfl | exact Or.inr rfl | refine And.intro ?_ ?_))
        · replace h := h.f hb11
          refine ⟨(_, _), h.1, GSt.ren [0, 1, 2] rfl rfl rfl (by decide) (Nat.le_add_left _ _) ?_ ?_, h.2⟩
          all_goals (repeat' (first | exact trivial | exact Or.inl rfl | exact Or.inr rfl | refine And.intro ?_ ?_))
    · replace h := h.f hb9
      refine ⟨_, _, GFin.of (GSt.ren [0, 1, 2] rfl rfl rfl (by decide) (Nat.le_add_left _ _) ?_ ?_), ⟨_, h, rfl, rfl⟩⟩
      all_goals (repeat' (first | exact trivial | exact Or.inl rfl | exact Or.inr rfl | refine And.intro ?_ ?_))
def vc28N (E : Env) (x3 : Int) (x4 : Int) (Q0 : Prop) : Prop :=
  (true = true) ∧ 
  (Q0 )
theorem w28N {P : Program} {tbl : FuncId → List A → List C} {x3 : Int} {x4 : Int}  {Q0 : Prop} (h : vc28N (stdE P tbl) x3 x4 Q0) : WEg P tbl rf28 (fun r H' => (Q0  ∧ r = .c (.int .i64 0) ∧ H' = [])) [.np, .c (.int .i64 x3), .c (.int .i64 x4)] [] := by
  refine ⟨?_⟩
  revert h
  generalize hE : stdE P tbl = E
  intro h
  unfold vc28N at h
  cbv
  have hb1 := h.1
  refine ⟨fun _ => ?_, fun hb => absurd (hb.symm.trans hb1) Bool.false_ne_true⟩
  replace h := h.2
  refine ⟨_, _, GFin.of (GSt.ren [] rfl rfl rfl (fun i hi => absurd hi (Nat.not_lt_zero i)) (Nat.zero_le _) ?_ ?_), ⟨h, rfl, rfl⟩⟩
  all_goals (repeat' (first | exact trivial | exact Or.inl rfl | exact Or.inr rfl | refine And.intro ?_ ?_))
def vc21 (E : Env) (x1 : List (List C)) (x2 : List (Int × C)) (Q0 : (List (List C)) → Prop) : Prop :=
  (false = false) ∧ 
  (LoopP2 (fun (l2 : List (List C)) (i3 : Int) (K4 : (List (List C)) → (Int) → Prop) =>
  Br (E.lt i3 (E.len x1))
    (((E.le 0 i3) = true) ∧ 
      ((E.pok 37 [(true, [.int .i64, .int .i64, .sl [.int .i64, .int .i64]])] [.agg [.c (.int .i64 (E.gi (E.cell x1 i3 0))), .c (.int .i64 (E.gi (E.cell x1 i3 1))), .c (.sl [.int .i64, .int .i64] (E.gl (E.cell x1 i3 2)))]]) ∧ (∀ r5 : Nat → C, r5 = E.res 37 [.agg [.c (.int .i64 (E.gi (E.cell x1 i3 0))), .c (.int .i64 (E.gi (E.cell x1 i3 1))), .c (.sl [.int .i64, .int .i64] (E.gl (E.cell x1 i3 2)))]] → 
      (((E.le (E.pl (E.len l2) (E.len [[.int .i64 (E.gi (r5 0)), .int .i64 (E.gi (r5 1)), .sl [.int .i64, .int .i64] (E.gl (r5 2))]])) 3518437208883) = true) ∧ 
      (K4 ((E.cat l2 [[.int .i64 (E.gi (r5 0)), .int .i64 (E.gi (r5 1)), .sl [.int .i64, .int .i64] (E.gl (r5 2))]])) ((E.add .i64 i3 1)))))))
    (Q0 (l2)))
  ([]) (0))
theorem w21 {P : Program} {tbl : FuncId → List A → List C} {x1 : List (List C)} {x2 : List (Int × C)}  {Q0 : (List (List C)) → Prop} (h : vc21 (stdE P tbl) x1 x2 Q0) : WEg P tbl rf21 (fun r H' => (∃ l1 : List (List C), Q0 l1 ∧ r = .gr 3 ∧ H' = [.box 54 [.gr 1, .map 2], .arr 24 [.int .i64, .int .i64, .sl [.int .i64, .int .i64]] x1, .mp .i64 (.int .i64) x2, .arr 24 [.int .i64, .int .i64, .sl [.int .i64, .int .i64]] l1])) [.ptr 0 0] [.box 54 [.gr 1, .map 2], .arr 24 [.int .i64, .int .i64, .sl [.int .i64, .int .i64]] x1, .mp .i64 (.int .i64) x2] := by
  refine ⟨?_⟩
  revert h
  generalize hE : stdE P tbl = E
  intro h
  unfold vc21 at h
  cbv
  have hb6 := h.1
  refine ⟨fun hb => absurd (hb6.symm.trans hb) Bool.false_ne_true, fun _ => ?_⟩
  replace h := h.2
  obtain ⟨I, μ, h0, hI⟩ := h
  refine LoopW.inv (fun R R' s h k => RCode.wp_mono _ R R' s h k) (fun p : List (List C) × Int => (fun (l2 : List (List C)) (i3 : Int) => (⟨[.u, .u, .u, .gr 3, .u, .u, .u, .u, .u, .u, .u, .gr 1, .c (.int .i64 (E.len x1)), .c (.int .i64 i3), .u, .u, .u, .u, .u, .u, .u, .u, .u, .u], [.box 54 [.gr 1, .map 2], .arr 24 [.int .i64, .int .i64, .sl [.int .i64, .int .i64]] x1, .mp .i64 (.int .i64) x2, .arr 24 [.int .i64, .int .i64, .sl [.int .i64, .int .i64]] l2]⟩ : St)) p.1 p.2) (fun p => I p.1 p.2) (fun p => μ p.1 p.2) (_, _) h0 ?_ ?_
  · refine GSt.trans (GSt.nil 3 24 [.int .i64, .int .i64, .sl [.int .i64, .int .i64]] rfl) (GSt.ren [0, 1, 2, 3] rfl rfl rfl (by decide) (Nat.le_add_left _ _) ?_ ?_)
    all_goals (repeat' (first | exact trivial | exact Or.inl rfl | exact Or.inr rfl | refine And.intro ?_ ?_))
  · rintro ⟨l2, i3⟩ h
    replace h := hI l2 i3 h
    cbv
    refine ⟨fun hb7 => ?_, fun hb7 => ?_⟩
    · replace h := h.t hb7
      have c8 := h.1
      refine ⟨c8, ?_⟩
      replace h := h.2
      refine ⟨hb7, ?_⟩
      have c9 := h.1
      refine ⟨c9, ?_⟩
      replace h := h.2 _ rfl
      have c10 := h.1
      refine ⟨c10, ?_⟩
      replace h := h.2
      refine ⟨(_, _), h.1, GSt.ren [0, 1, 2, 6] rfl rfl rfl (by decide) (Nat.le_add_left _ _) ?_ ?_, h.2⟩
      all_goals (repeat' (first | exact trivial | exact Or.inl rfl | exact Or.inr rfl | refine And.intro ?_ ?_))
    · replace h := h.f hb7
      refine ⟨_, _, GFin.of (GSt.ren [0, 1, 2, 3] rfl rfl rfl (by decide) (Nat.le_add_left _ _) ?_ ?_), ⟨_, h, rfl, rfl⟩⟩
      all_goals (repeat' (first | exact trivial | exact Or.inl rfl | exact Or.inr rfl | refine And.intro ?_ ?_))
def vc21N (E : Env)  (Q0 : Prop) : Prop :=
  (true = true) ∧ 
  (Q0 )
theorem w21N {P : Program} {tbl : FuncId → List A → List C}   {Q0 : Prop} (h : vc21N (stdE P tbl)  Q0) : WEg P tbl rf21 (fun r H' => (Q0  ∧ r = .c (.nil) ∧ H' = [])) [.np] [] := by
  refine ⟨?_⟩
  revert h
  generalize hE : stdE P tbl = E
  intro h
  unfold vc21N at h
  cbv
  have hb1 := h.1
  refine ⟨fun _ => ?_, fun hb => absurd (hb.symm.trans hb1) Bool.false_ne_true⟩
  replace h := h.2
  refine ⟨_, _, GFin.of (GSt.ren [] rfl rfl rfl (fun i hi => absurd hi (Nat.not_lt_zero i)) (Nat.zero_le _) ?_ ?_), ⟨h, rfl, rfl⟩⟩
  all_goals (repeat' (first | exact trivial | exact Or.inl rfl | exact Or.inr rfl | refine And.intro ?_ ?_))
def vc32N (E : Env)  (Q0 : Prop) : Prop :=
  (true = true) ∧ 
  (Q0 )
theorem w32N {P : Program} {tbl : FuncId → List A → List C}   {Q0 : Prop} (h : vc32N (stdE P tbl)  Q0) : WEg P tbl rf32 (fun r H' => (Q0  ∧ r = .np ∧ H' = [])) [.np] [] := by
  refine ⟨?_⟩
  revert h
  generalize hE : stdE P tbl = E
  intro h
  unfold vc32N at h
  cbv
  have hb1 := h.1
  refine ⟨fun _ => ?_, fun hb => absurd (hb.symm.trans hb1) Bool.false_ne_true⟩
  replace h := h.2
  refine ⟨_, _, GFin.of (GSt.ren [] rfl rfl rfl (fun i hi => absurd hi (Nat.not_lt_zero i)) (Nat.zero_le _) ?_ ?_), ⟨h, rfl, rfl⟩⟩
  all_goals (repeat' (first | exact trivial | exact Or.inl rfl | exact Or.inr rfl | refine And.intro ?_ ?_))
def vc24N (E : Env)  (Q0 : Prop) : Prop :=
  (true = true) ∧ 
  (Q0 )
theorem w24N {P : Program} {tbl : FuncId → List A → List C}   {Q0 : Prop} (h : vc24N (stdE P tbl)  Q0) : WEg P tbl rf24 (fun r H' => (Q0  ∧ r = .c (.nil) ∧ H' = [])) [.np] [] := by
  refine ⟨?_⟩
  revert h
  generalize hE : stdE P tbl = E
  intro h
  unfold vc24N at h
  cbv
  have hb1 := h.1
  refine ⟨fun _ => ?_, fun hb => absurd (hb.symm.trans hb1) Bool.false_ne_true⟩
  replace h := h.2
  refine ⟨_, _, GFin.of (GSt.ren [] rfl rfl rfl (fun i hi => absurd hi (Nat.not_lt_zero i)) (Nat.zero_le _) ?_ ?_), ⟨h, rfl, rfl⟩⟩
  all_goals (repeat' (first | exact trivial | exact Or.inl rfl | exact Or.inr rfl | refine And.intro ?_ ?_))
def vc27 (E : Env) (x1 : List (List C)) (x3 : Int) (Q0 : (Int) → Prop) : Prop :=
  (false = false) ∧ 
  ((E.pok 42 [(false, [.int .i64])] [.c (.sl [.int .i64, .int .i64, .sl [.int .i64, .int .i64]] x1), .c (.int .i64 x3)]) ∧ (∀ r2 : Nat → C, r2 = E.res 42 [.c (.sl [.int .i64, .int .i64, .sl [.int .i64, .int .i64]] x1), .c (.int .i64 x3)] → 
  (Q0 ((E.gi (r2 0))))))
theorem w27 {P : Program} {tbl : FuncId → List A → List C} {x1 : List (List C)} {x3 : Int}  {Q0 : (Int) → Prop} (h : vc27 (stdE P tbl) x1 x3 Q0) : WEg P tbl rf27 (fun r H' => (∃ i1 : Int, Q0 i1 ∧ r = .c (.int .i64 i1) ∧ H' = [.box 56 [.c (.sl [.int .i64, .int .i64, .sl [.int .i64, .int .i64]] x1)]])) [.ptr 0 0, .c (.int .i64 x3)] [.box 56 [.c (.sl [.int .i64, .int .i64, .sl [.int .i64, .int .i64]] x1)]] := by
  refine ⟨?_⟩
  revert h
  generalize hE : stdE P tbl = E
  intro h
  unfold vc27 at h
  cbv
  have hb3 := h.1
  refine ⟨fun hb => absurd (hb3.symm.trans hb) Bool.false_ne_true, fun _ => ?_⟩
  replace h := h.2
  have c4 := h.1
  refine ⟨c4, ?_⟩
  replace h := h.2 _ rfl
  refine ⟨_, _, GFin.of (GSt.ren [0] rfl rfl rfl (by decide) (Nat.le_add_left _ _) ?_ ?_), ⟨_, h, rfl, rfl⟩⟩
  all_goals (repeat' (first | exact trivial | exact Or.inl rfl | exact Or.inr rfl | refine And.intro ?_ ?_))
def vc29 (E : Env) (x1 : List (List C)) (x3 : Int) (x4 : Int) (Q0 : (Int) → Prop) : Prop :=
  (false = false) ∧ 
  ((E.pok 43 [(false, [.int .i64])] [.c (.sl [.int .i64, .int .i64, .sl [.int .i64, .int .i64]] x1), .c (.int .i64 x3), .c (.int .i64 x4)]) ∧ (∀ r2 : Nat → C, r2 = E.res 43 [.c (.sl [.int .i64, .int .i64, .sl [.int .i64, .int .i64]] x1), .c (.int .i64 x3), .c (.int .i64 x4)] → 
  (Q0 ((E.gi (r2 0))))))
theorem w29 {P : Program} {tbl : FuncId → List A → List C} {x1 : List (List C)} {x3 : Int} {x4 : Int}  {Q0 : (Int) → Prop} (h : vc29 (stdE P tbl) x1 x3 x4 Q0) : WEg P tbl rf29 (fun r H' => (∃ i1 : Int, Q0 i1 ∧ r = .c (.int .i64 i1) ∧ H' = [.box 56 [.c (.sl [.int .i64, .int .i64, .sl [.int .i64, .int .i64]] x1)]])) [.ptr 0 0, .c (.int .i64 x3), .c (.int .i64 x4)] [.box 56 [.c (.sl [.int .i64, .int .i64, .sl [.int .i64, .int .i64]] x1)]] := by
  refine ⟨?_⟩
  revert h
  generalize hE : stdE P tbl = E
  intro h
  unfold vc29 at h
  cbv
  have hb3 := h.1
  refine ⟨fun hb => absurd (hb3.symm.trans hb) Bool.false_ne_true, fun _ => ?_⟩
  replace h := h.2
  have c4 := h.1
  refine ⟨c4, ?_⟩
  replace h := h.2 _ rfl
  refine ⟨_, _, GFin.of (GSt.ren [0] rfl rfl rfl (by decide) (Nat.le_add_left _ _) ?_ ?_), ⟨_, h, rfl, rfl⟩⟩
  all_goals (repeat' (first | exact trivial | exact Or.inl rfl | exact Or.inr rfl | refine And.intro ?_ ?_))
def vc22 (E : Env) (x1 : List (List C)) (Q0 : (List (List C)) → Prop) : Prop :=
  (false = false) ∧ 
  (LoopP2 (fun (l2 : List (List C)) (i3 : Int) (K4 : (List (List C)) → (Int) → Prop) =>
  Br (E.lt i3 (E.len x1))
    (((E.le 0 i3) = true) ∧ 
      (((E.le (E.pl (E.len []) (E.len (E.gl (E.cell x1 i3 2)))) 8796093022208) = true) ∧ 
      (((E.le (E.pl (E.len l2) (E.len [[.int .i64 (E.gi (E.cell x1 i3 0)), .int .i64 (E.gi (E.cell x1 i3 1)), .sl [.int .i64, .int .i64] (E.cat [] (E.gl (E.cell x1 i3 2)))]])) 3518437208883) = true) ∧ 
      (K4 ((E.cat l2 [[.int .i64 (E.gi (E.cell x1 i3 0)), .int .i64 (E.gi (E.cell x1 i3 1)), .sl [.int .i64, .int .i64] (E.cat [] (E.gl (E.cell x1 i3 2)))]])) ((E.add .i64 i3 1))))))
    (Q0 (l2)))
  ([]) (0))
theorem w22 {P : Program} {tbl : FuncId → List A → List C} {x1 : List (List C)}  {Q0 : (List (List C)) → Prop} (h : vc22 (stdE P tbl) x1 Q0) : WEg P tbl rf22 (fun r H' => (∃ l1 : List (List C), Q0 l1 ∧ r = .gr 1 ∧ H' = [.box 56 [.c (.sl [.int .i64, .int .i64, .sl [.int .i64, .int .i64]] x1)], .arr 24 [.int .i64, .int .i64, .sl [.int .i64, .int .i64]] l1])) [.ptr 0 0] [.box 56 [.c (.sl [.int .i64, .int .i64, .sl [.int .i64, .int .i64]] x1)]] := by
  refine ⟨?_⟩
  revert h
  generalize hE : stdE P tbl = E
  intro h
  unfold vc22 at h
  cbv
  have hb5 := h.1
  refine ⟨fun hb => absurd (hb5.symm.trans hb) Bool.false_ne_true, fun _ => ?_⟩
  replace h := h.2
  obtain ⟨I, μ, h0, hI⟩ := h
  refine LoopW.inv (fun R R' s h k => RCode.wp_mono _ R R' s h k) (fun p : List (List C) × Int => (fun (l2 : List (List C)) (i3 : Int) => (⟨[.ptr 0 0, .u, .u, .gr 1, .c (.int .i64 i3), .u, .u, .u, .u, .u, .u, .u, .u, .u, .u, .u, .u, .u, .u, .u, .u, .u, .u, .u, .u, .u, .u, .u, .u, .u, .u, .u, .u, .u], [.box 56 [.c (.sl [.int .i64, .int .i64, .sl [.int .i64, .int .i64]] x1)], .arr 24 [.int .i64, .int .i64, .sl [.int .i64, .int .i64]] l2]⟩ : St)) p.1 p.2) (fun p => I p.1 p.2) (fun p => μ p.1 p.2) (_, _) h0 ?_ ?_
  · refine GSt.trans (GSt.nil 3 24 [.int .i64, .int .i64, .sl [.int .i64, .int .i64]] rfl) (GSt.ren [0, 1] rfl rfl rfl (by decide) (Nat.le_add_left _ _) ?_ ?_)
    all_goals (repeat' (first | exact trivial | exact Or.inl rfl | exact Or.inr rfl | refine And.intro ?_ ?_))
  · rintro ⟨l2, i3⟩ h
    replace h := hI l2 i3 h
    cbv
    refine ⟨fun hb6 => ?_, fun hb6 => ?_⟩
    · replace h := h.t hb6
      have c7 := h.1
      refine ⟨c7, ?_⟩
      replace h := h.2
      refine ⟨hb6, ?_⟩
      have c8 := h.1
      refine ⟨c8, ?_⟩
      replace h := h.2
      have c9 := h.1
      refine ⟨c9, ?_⟩
      replace h := h.2
      refine ⟨(_, _), h.1, GSt.ren [0, 6] rfl rfl rfl (by decide) (Nat.le_add_left _ _) ?_ ?_, h.2⟩
      all_goals (repeat' (first | exact trivial | exact Or.inl rfl | exact Or.inr rfl | refine And.intro ?_ ?_))
    · replace h := h.f hb6
      refine ⟨_, _, GFin.of (GSt.ren [0, 1] rfl rfl rfl (by decide) (Nat.le_add_left _ _) ?_ ?_), ⟨_, h, rfl, rfl⟩⟩
      all_goals (repeat' (first | exact trivial | exact Or.inl rfl | exact Or.inr rfl | refine And.intro ?_ ?_))
def vc25 (E : Env) (x1 : List (List C)) (Q0 : (List (List C)) → Prop) : Prop :=
  (false = false) ∧ 
  ((E.pok 41 [(false, [.sl [.int .i64]])] [.c (.sl [.int .i64, .int .i64, .sl [.int .i64, .int .i64]] x1)]) ∧ (∀ r2 : Nat → C, r2 = E.res 41 [.c (.sl [.int .i64, .int .i64, .sl [.int .i64, .int .i64]] x1)] → 
  (Q0 ((E.gl (r2 0))))))
theorem w25 {P : Program} {tbl : FuncId → List A → List C} {x1 : List (List C)}  {Q0 : (List (List C)) → Prop} (h : vc25 (stdE P tbl) x1 Q0) : WEg P tbl rf25 (fun r H' => (∃ l1 : List (List C), Q0 l1 ∧ r = .c (.sl [.int .i64] l1) ∧ H' = [.box 56 [.c (.sl [.int .i64, .int .i64, .sl [.int .i64, .int .i64]] x1)]])) [.ptr 0 0] [.box 56 [.c (.sl [.int .i64, .int .i64, .sl [.int .i64, .int .i64]] x1)]] := by
  refine ⟨?_⟩
  revert h
  generalize hE : stdE P tbl = E
  intro h
  unfold vc25 at h
  cbv
  have hb3 := h.1
  refine ⟨fun hb => absurd (hb3.symm.trans hb) Bool.false_ne_true, fun _ => ?_⟩
  replace h := h.2
  have c4 := h.1
  refine ⟨c4, ?_⟩
  replace h := h.2 _ rfl
  refine ⟨_, _, GFin.of (GSt.ren [0] rfl rfl rfl (by decide) (Nat.le_add_left _ _) ?_ ?_), ⟨_, h, rfl, rfl⟩⟩
  all_goals (repeat' (first | exact trivial | exact Or.inl rfl | exact Or.inr rfl | refine And.intro ?_ ?_))
def vc16 (E : Env)  (Q0 : Prop) : Prop :=
  Q0 
theorem w16 {P : Program} {tbl : FuncId → List A → List C}   {Q0 : Prop} (h : vc16 (stdE P tbl)  Q0) : WEg P tbl rf16 (fun r H' => (Q0  ∧ r = .ptr 0 0 ∧ H' = [.box 56 [.c (.sl [.int .i64, .int .i64, .sl [.int .i64, .int .i64]] [])]])) [] [] := by
  refine ⟨?_⟩
  revert h
  generalize hE : stdE P tbl = E
  intro h
  unfold vc16 at h
  cbv
  refine ⟨_, _, GFin.of (GSt.trans (GSt.nilBox 0 0 24 [.int .i64, .int .i64, .sl [.int .i64, .int .i64]] rfl rfl) (GSt.trans (s' := (⟨[.ptr 0 0], [.box 56 [.c (.sl [.int .i64, .int .i64, .sl [.int .i64, .int .i64]] [])], .frz [.int .i64, .int .i64, .sl [.int .i64, .int .i64]] []]⟩ : St)) (GSt.datBox 0 0 1 (Tb := 56) (T := 24) (cs := [.gr 1]) (lay := [.int .i64, .int .i64, .sl [.int .i64, .int .i64]]) (xs := []) rfl rfl rfl) (GSt.ren [0] rfl rfl rfl (fun i hi => absurd hi (Nat.not_lt_zero i)) (Nat.zero_le _) ?_ ?_))), ⟨h, rfl, rfl⟩⟩
  all_goals (repeat' (first | exact trivial | exact Or.inl rfl | exact Or.inr rfl | refine And.intro ?_ ?_))
def vc41 (E : Env) (x1 : List (List C)) (Q : List C → Prop) : Prop :=
  LoopP2 (fun (l2 : List (List C)) (i3 : Int) (K4 : (List (List C)) → (Int) → Prop) =>
  Br (E.lt i3 (E.len x1))
    (LoopP2 (fun (l5 : List (List C)) (i6 : Int) (K7 : (List (List C)) → (Int) → Prop) =>
      ((E.le 0 i3) = true) ∧ 
        (Br (E.lt i6 (E.len (E.gl (E.cell x1 i3 2))))
        (((E.le 0 i6) = true) ∧ 
          (LoopP1 (fun (i8 : Int) (K9 : (Int) → Prop) =>
          (Imp (E.lt i8 (E.len l5)) ((E.le 0 i8) = true)) ∧ 
            (Br (E.bite (E.lt i8 (E.len l5)) (E.lt (E.gi (E.cell l5 i8 0)) (E.gi (E.cell (E.gl (E.cell x1 i3 2)) i6 0))) false)
            (K9 ((E.add .i64 i8 1)))
            (Br (E.bite (E.lt i8 (E.len l5)) (E.eq (E.gi (E.cell l5 i8 0)) (E.gi (E.cell (E.gl (E.cell x1 i3 2)) i6 0))) false)
              (K7 (l5) ((E.add .i64 i6 1)))
              (((E.le 0 0) = true) ∧ ((E.le 0 i8) = true) ∧ ((E.le i8 (E.len l5)) = true) ∧ 
                (((E.le (E.pl (E.len []) (E.len (E.cut l5 0 (E.pl 0 (E.mi i8 0))))) 17592186044416) = true) ∧ 
                (((E.le (E.pl (E.len (E.cat [] (E.cut l5 0 (E.pl 0 (E.mi i8 0))))) (E.len [[.int .i64 (E.gi (E.cell (E.gl (E.cell x1 i3 2)) i6 0))]])) 17592186044416) = true) ∧ 
                (((E.le (E.len l5) (E.len l5)) = true) ∧ 
                (((E.le (E.pl (E.len (E.cat (E.cat [] (E.cut l5 0 (E.pl 0 (E.mi i8 0)))) [[.int .i64 (E.gi (E.cell (E.gl (E.cell x1 i3 2)) i6 0))]])) (E.len (E.cut l5 i8 (E.pl i8 (E.mi (E.len l5) i8))))) 17592186044416) = true) ∧ 
                (K7 ((E.cat (E.cat (E.cat [] (E.cut l5 0 (E.pl 0 (E.mi i8 0)))) [[.int .i64 (E.gi (E.cell (E.gl (E.cell x1 i3 2)) i6 0))]]) (E.cut l5 i8 (E.pl i8 (E.mi (E.len l5) i8))))) ((E.add .i64 i6 1)))))))))))
          (0)))
        (K4 (l5) ((E.add .i64 i3 1)))))
      (l2) (0))
    (Q [.sl [.int .i64] l2]))
  ([]) (0)
theorem w41 {P : Program} {tbl : FuncId → List A → List C}  {x1 : List (List C)} {row : List C} (h : vc41 (stdE P tbl) x1 fun c => c = row) : WPg P tbl rf41 [(false, [.sl [.int .i64]])] row [.c (.sl [.int .i64, .int .i64, .sl [.int .i64, .int .i64]] x1)] := by
  refine ⟨?_⟩
  revert h
  generalize hE : stdE P tbl = E
  intro h
  unfold vc41 at h
  cbv
  obtain ⟨I, μ, h0, hI⟩ := h
  refine LoopW.inv (fun R R' s h k => RCode.wp_mono _ R R' s h k) (fun p : List (List C) × Int => (fun (l2 : List (List C)) (i3 : Int) => (⟨[.c (.sl [.int .i64, .int .i64, .sl [.int .i64, .int .i64]] x1), .u, .u, .gr 0, .c (.int .i64 i3), .u, .u, .u, .u, .u, .u, .u, .u, .u, .u, .u, .u, .u, .u, .u, .u, .u, .u, .u, .u, .u, .u, .u, .u, .u, .u, .u, .u, .u, .u, .u, .u, .u, .u, .u, .u, .u, .u, .u, .u, .u, .u, .u, .u, .u, .u, .u, .u, .u, .u, .u, .u, .u, .u, .u, .u, .u, .u, .u, .u, .u, .u, .u, .u, .u, .u, .u, .u, .u, .u], [.arr 3 [.int .i64] l2]⟩ : St)) p.1 p.2) (fun p => I p.1 p.2) (fun p => μ p.1 p.2) (_, _) h0 ?_ ?_
  · refine GSt.trans (GSt.nil 3 3 [.int .i64] rfl) (GSt.ren [0] rfl rfl rfl (fun i hi => absurd hi (Nat.not_lt_zero i)) (Nat.zero_le _) ?_ ?_)
    all_goals (repeat' (first | exact trivial | exact Or.inl rfl | exact Or.inr rfl | refine And.intro ?_ ?_))
  · rintro ⟨l2, i3⟩ h
    replace h := hI l2 i3 h
    cbv
    refine ⟨fun hb10 => ?_, fun hb10 => ?_⟩
    · replace h := h.t hb10
      obtain ⟨I, μ, h0, hI⟩ := h
      refine LoopW.inv (fun R R' s h k => RCode.wp_mono _ R R' s h k) (fun p : List (List C) × Int => (fun (l5 : List (List C)) (i6 : Int) => (⟨[.c (.sl [.int .i64, .int .i64, .sl [.int .i64, .int .i64]] x1), .u, .u, .gr 0, .c (.int .i64 i3), .c (.int .i64 i6), .u, .u, .u, .u, .u, .u, .u, .u, .u, .u, .u, .u, .u, .u, .u, .u, .u, .u, .u, .u, .u, .u, .u, .u, .u, .u, .u, .u, .u, .u, .u, .u, .u, .u, .u, .u, .u, .u, .u, .u, .u, .u, .u, .u, .u, .u, .u, .u, .u, .u, .u, .u, .u, .u, .u, .u, .u, .u, .u, .u, .u, .u, .u, .u, .u, .u, .u, .u, .u], [.arr 3 [.int .i64] l5]⟩ : St)) p.1 p.2) (fun p => I p.1 p.2) (fun p => μ p.1 p.2) (_, _) h0 ?_ ?_
      · refine GSt.ren [0] rfl rfl rfl (fun i hi => absurd hi (Nat.not_lt_zero i)) (Nat.zero_le _) ?_ ?_
        all_goals (repeat' (first | exact trivial | exact Or.inl rfl | exact Or.inr rfl | refine And.intro ?_ ?_))
      · rintro ⟨l5, i6⟩ h
        replace h := hI l5 i6 h
        cbv
        have c11 := h.1
        refine ⟨c11, ?_⟩
        replace h := h.2
        refine ⟨hb10, ?_⟩
        refine ⟨fun hb12 => ?_, fun hb12 => ?_⟩
        · replace h := h.t hb12
          refine ⟨c11, ?_⟩
          refine ⟨hb10, ?_⟩
          have c13 := h.1
          refine ⟨c13, ?_⟩
          replace h := h.2
          refine ⟨hb12, ?_⟩
          obtain ⟨I, μ, h0, hI⟩ := h
          refine LoopW.inv (fun R R' s h k => RCode.wp_mono _ R R' s h k) (fun p : Int => (fun (i8 : Int) => (⟨[.c (.sl [.int .i64, .int .i64, .sl [.int .i64, .int .i64]] x1), .u, .u, .gr 0, .c (.int .i64 i3), .c (.int .i64 i6), .c (.int .i64 (E.gi (E.cell (E.gl (E.cell x1 i3 2)) i6 0))), .c (.int .i64 i8), .u, .u, .u, .u, .u, .u, .u, .u, .u, .u, .u, .u, .u, .u, .u, .u, .u, .u, .u, .u, .u, .u, .u, .u, .u, .u, .u, .u, .u, .u, .u, .u, .u, .u, .u, .u, .u, .u, .u, .u, .u, .u, .u, .u, .u, .u, .u, .u, .u, .u, .u, .u, .u, .u, .u, .u, .u, .u, .u, .u, .u, .u, .u, .u, .u, .u, .u], [.arr 3 [.int .i64] l5]⟩ : St)) p) (fun p => I p) (fun p => μ p) _ h0 ?_ ?_
          · refine GSt.ren [0] rfl rfl rfl (fun i hi => absurd hi (Nat.not_lt_zero i)) (Nat.zero_le _) ?_ ?_
            all_goals (repeat' (first | exact trivial | exact Or.inl rfl | exact Or.inr rfl | refine And.intro ?_ ?_))
          · rintro i8 h
            replace h := hI i8 h
            cbv
            refine ⟨⟨fun hh => hh⟩, ?_⟩
            refine ⟨⟨fun hh => hh⟩, ?_⟩
            have c14 := h.1
            refine ⟨c14, ?_⟩
            replace h := h.2
            refine ⟨⟨fun hh => hh⟩, ?_⟩
            refine ⟨⟨fun hh => hh⟩, ?_⟩
            refine ⟨⟨fun hh => hh⟩, ?_⟩
            refine ⟨⟨fun hh => hh⟩, ?_⟩
            refine ⟨⟨fun hh => hh⟩, ?_⟩
            refine ⟨fun hb15 => ?_, fun hb15 => ?_⟩
            · replace h := h.t hb15
              refine ⟨_, h.1, GSt.ren [0] rfl rfl rfl (fun i hi => absurd hi (Nat.not_lt_zero i)) (Nat.zero_le _) ?_ ?_, h.2⟩
              all_goals (repeat' (first | exact trivial | exact Or.inl rfl | exact Or.inr rfl | refine And.intro ?_ ?_))
            · replace h := h.f hb15
              refine ⟨⟨fun hh => hh⟩, ?_⟩
              refine ⟨⟨fun hh => hh⟩, ?_⟩
              refine ⟨c14, ?_⟩
              refine ⟨⟨fun hh => hh⟩, ?_⟩
              refine ⟨⟨fun hh => hh⟩, ?_⟩
              refine ⟨⟨fun hh => hh⟩, ?_⟩
              refine ⟨⟨fun hh => hh⟩, ?_⟩
              refine ⟨⟨fun hh => hh⟩, ?_⟩
              refine ⟨fun hb16 => ?_, fun hb16 => ?_⟩
              · replace h := h.t hb16
                refine ⟨(_, _), h.1, GSt.ren [0] rfl rfl rfl (fun i hi => absurd hi (Nat.not_lt_zero i)) (Nat.zero_le _) ?_ ?_, h.2⟩
                all_goals (repeat' (first | exact trivial | exact Or.inl rfl | exact Or.inr rfl | refine And.intro ?_ ?_))
              · replace h := h.f hb16
                have c17 := h.1
                refine ⟨c17, ?_⟩
                replace h := h.2
                have c18 := h.1
                refine ⟨c18, ?_⟩
                replace h := h.2
                have c19 := h.1
                refine ⟨c19, ?_⟩
                replace h := h.2
                have c20 := h.1
                refine ⟨c20, ?_⟩
                replace h := h.2
                have c21 := h.1
                refine ⟨c21, ?_⟩
                replace h := h.2
                refine ⟨c18, ?_⟩
                refine ⟨c19, ?_⟩
                have c22 := h.1
                refine ⟨c22, ?_⟩
                replace h := h.2
                have c23 := h.1
                refine ⟨c23, ?_⟩
                replace h := h.2
                refine ⟨(_, _), h.1, GSt.ren [5] rfl rfl rfl (fun i hi => absurd hi (Nat.not_lt_zero i)) (Nat.zero_le _) ?_ ?_, h.2⟩
                all_goals (repeat' (first | exact trivial | exact Or.inl rfl | exact Or.inr rfl | refine And.intro ?_ ?_))
        · replace h := h.f hb12
          refine ⟨(_, _), h.1, GSt.ren [0] rfl rfl rfl (fun i hi => absurd hi (Nat.not_lt_zero i)) (Nat.zero_le _) ?_ ?_, h.2⟩
          all_goals (repeat' (first | exact trivial | exact Or.inl rfl | exact Or.inr rfl | refine And.intro ?_ ?_))
    · replace h := h.f hb10
      have h : _ = row := h
      subst h
      repeat' (first | exact trivial | exact rfl | refine And.intro ?_ ?_)
def vc20 (E : Env) (x1 : List (List C)) (x2 : List (List C)) (Q : List C → Prop) : Prop :=
  Br (E.not (E.eq (E.len x1) (E.len x2)))
  (Q [.bool false])
  (LoopP1 (fun (i3 : Int) (K4 : (Int) → Prop) =>
    Br (E.lt i3 (E.len x1))
      (((E.le 0 i3) = true) ∧ 
        (((E.lt i3 (E.len x2)) = true) ∧ 
        ((E.pok 30 [(false, [.bool])] [.agg [.c (.int .i64 (E.gi (E.cell x1 i3 0))), .c (.int .i64 (E.gi (E.cell x1 i3 1))), .c (.sl [.int .i64, .int .i64] (E.gl (E.cell x1 i3 2)))], .agg [.c (.int .i64 (E.gi (E.cell x2 i3 0))), .c (.int .i64 (E.gi (E.cell x2 i3 1))), .c (.sl [.int .i64, .int .i64] (E.gl (E.cell x2 i3 2)))]]) ∧ (∀ r5 : Nat → C, r5 = E.res 30 [.agg [.c (.int .i64 (E.gi (E.cell x1 i3 0))), .c (.int .i64 (E.gi (E.cell x1 i3 1))), .c (.sl [.int .i64, .int .i64] (E.gl (E.cell x1 i3 2)))], .agg [.c (.int .i64 (E.gi (E.cell x2 i3 0))), .c (.int .i64 (E.gi (E.cell x2 i3 1))), .c (.sl [.int .i64, .int .i64] (E.gl (E.cell x2 i3 2)))]] → 
        (Br (E.not (E.gb (r5 0)))
        (Q [.bool false])
        (K4 ((E.add .i64 i3 1))))))))
      (Q [.bool true]))
    (0))
theorem w20 {P : Program} {tbl : FuncId → List A → List C}  {x1 : List (List C)} {x2 : List (List C)} {row : List C} (h : vc20 (stdE P tbl) x1 x2 fun c => c = row) : WPg P tbl rf20 [(false, [.bool])] row [.c (.sl [.int .i64, .int .i64, .sl [.int .i64, .int .i64]] x1), .c (.sl [.int .i64, .int .i64, .sl [.int .i64, .int .i64]] x2)] := by
  refine ⟨?_⟩
  revert h
  generalize hE : stdE P tbl = E
  intro h
  unfold vc20 at h
  cbv
  refine ⟨fun hb6 => ?_, fun hb6 => ?_⟩
  · replace h := h.t hb6
    have h : _ = row := h
    subst h
    repeat' (first | exact trivial | exact rfl | refine And.intro ?_ ?_)
  · replace h := h.f hb6
    obtain ⟨I, μ, h0, hI⟩ := h
    refine LoopW.inv (fun R R' s h k => RCode.wp_mono _ R R' s h k) (fun p : Int => (fun (i3 : Int) => (⟨[.c (.sl [.int .i64, .int .i64, .sl [.int .i64, .int .i64]] x1), .c (.sl [.int .i64, .int .i64, .sl [.int .i64, .int .i64]] x2), .u, .u, .u, .c (.int .i64 i3), .u, .u, .u, .u, .u, .u, .u, .u, .u, .u, .u, .u, .u, .u, .u, .u, .u, .u, .u, .u, .u], []⟩ : St)) p) (fun p => I p) (fun p => μ p) _ h0 ?_ ?_
    · refine GSt.ren [] rfl rfl rfl (fun i hi => absurd hi (Nat.not_lt_zero i)) (Nat.zero_le _) ?_ ?_
      all_goals (repeat' (first | exact trivial | exact Or.inl rfl | exact Or.inr rfl | refine And.intro ?_ ?_))
    · rintro i3 h
      replace h := hI i3 h
      cbv
      refine ⟨fun hb7 => ?_, fun hb7 => ?_⟩
      · replace h := h.t hb7
        have c8 := h.1
        refine ⟨c8, ?_⟩
        replace h := h.2
        refine ⟨hb7, ?_⟩
        refine ⟨c8, ?_⟩
        have c9 := h.1
        refine ⟨c9, ?_⟩
        replace h := h.2
        have c10 := h.1
        refine ⟨c10, ?_⟩
        replace h := h.2 _ rfl
        refine ⟨fun hb11 => ?_, fun hb11 => ?_⟩
        · replace h := h.t hb11
          have h : _ = row := h
          subst h
          repeat' (first | exact trivial | exact rfl | refine And.intro ?_ ?_)
        · replace h := h.f hb11
          refine ⟨_, h.1, GSt.ren [] rfl rfl rfl (fun i hi => absurd hi (Nat.not_lt_zero i)) (Nat.zero_le _) ?_ ?_, h.2⟩
          all_goals (repeat' (first | exact trivial | exact Or.inl rfl | exact Or.inr rfl | refine And.intro ?_ ?_))
      · replace h := h.f hb7
        have h : _ = row := h
        subst h
        repeat' (first | exact trivial | exact rfl | refine And.intro ?_ ?_)
def vc30 (E : Env) (x1 : Int) (x2 : Int) (x3 : List (List C)) (x4 : Int) (x5 : Int) (x6 : List (List C)) (Q : List C → Prop) : Prop :=
  Br (E.bite (E.bite (E.not (E.eq x1 x4)) true (E.not (E.eq x2 x5))) true (E.not (E.eq (E.len x3) (E.len x6))))
  (Q [.bool false])
  (LoopP1 (fun (i7 : Int) (K8 : (Int) → Prop) =>
    Br (E.lt i7 (E.len x3))
      (((E.le 0 i7) = true) ∧ 
        (((E.lt i7 (E.len x6)) = true) ∧ 
        (Br (E.not (E.and (E.eq (E.gi (E.cell x3 i7 0)) (E.gi (E.cell x6 i7 0))) (E.and (E.eq (E.gi (E.cell x3 i7 1)) (E.gi (E.cell x6 i7 1))) true)))
        (Q [.bool false])
        (K8 ((E.add .i64 i7 1))))))
      (Q [.bool true]))
    (0))
theorem w30 {P : Program} {tbl : FuncId → List A → List C}  {x1 : Int} {x2 : Int} {x3 : List (List C)} {x4 : Int} {x5 : Int} {x6 : List (List C)} {row : List C} (h : vc30 (stdE P tbl) x1 x2 x3 x4 x5 x6 fun c => c = row) : WPg P tbl rf30 [(false, [.bool])] row [.agg [.c (.int .i64 x1), .c (.int .i64 x2), .c (.sl [.int .i64, .int .i64] x3)], .agg [.c (.int .i64 x4), .c (.int .i64 x5), .c (.sl [.int .i64, .int .i64] x6)]] := by
  refine ⟨?_⟩
  revert h
  generalize hE : stdE P tbl = E
  intro h
  unfold vc30 at h
  cbv
  refine ⟨⟨fun hh => hh⟩, ?_⟩
  refine ⟨⟨fun hh => hh⟩, ?_⟩
  refine ⟨⟨fun hh => hh⟩, ?_⟩
  refine ⟨⟨fun hh => hh⟩, ?_⟩
  refine ⟨⟨fun hh => hh⟩, ?_⟩
  refine ⟨⟨fun hh => hh⟩, ?_⟩
  refine ⟨⟨fun hh => hh⟩, ?_⟩
  refine ⟨⟨fun hh => hh⟩, ?_⟩
  refine ⟨⟨fun hh => hh⟩, ?_⟩
  refine ⟨⟨fun hh => hh⟩, ?_⟩
  refine ⟨⟨fun hh => hh⟩, ?_⟩
  refine ⟨⟨fun hh => hh⟩, ?_⟩
  refine ⟨fun hb9 => ?_, fun hb9 => ?_⟩
  · replace h := h.t hb9
    have h : _ = row := h
    subst h
    repeat' (first | exact trivial | exact rfl | refine And.intro ?_ ?_)
  · replace h := h.f hb9
    obtain ⟨I, μ, h0, hI⟩ := h
    refine LoopW.inv (fun R R' s h k => RCode.wp_mono _ R R' s h k) (fun p : Int => (fun (i7 : Int) => (⟨[.u, .u, .ptr 0 0, .ptr 1 0, .u, .c (.int .i64 i7), .u, .u, .u, .u, .u, .u, .u, .u, .u, .u, .u, .u, .u, .u, .u, .u, .u, .u, .u, .u, .u, .u, .u, .u, .u, .u, .u, .u, .u, .u, .u, .u, .u, .u, .u, .u, .u, .u, .u], [.box 24 [.c (.int .i64 x1), .c (.int .i64 x2), .c (.sl [.int .i64, .int .i64] x3)], .box 24 [.c (.int .i64 x4), .c (.int .i64 x5), .c (.sl [.int .i64, .int .i64] x6)]]⟩ : St)) p) (fun p => I p) (fun p => μ p) _ h0 ?_ ?_
    · refine GSt.ren [0, 1] rfl rfl rfl (fun i hi => absurd hi (Nat.not_lt_zero i)) (Nat.zero_le _) ?_ ?_
      all_goals (repeat' (first | exact trivial | exact Or.inl rfl | exact Or.inr rfl | refine And.intro ?_ ?_))
    · rintro i7 h
      replace h := hI i7 h
      cbv
      refine ⟨fun hb10 => ?_, fun hb10 => ?_⟩
      · replace h := h.t hb10
        have c11 := h.1
        refine ⟨c11, ?_⟩
        replace h := h.2
        refine ⟨hb10, ?_⟩
        refine ⟨c11, ?_⟩
        have c12 := h.1
        refine ⟨c12, ?_⟩
        replace h := h.2
        refine ⟨fun hb13 => ?_, fun hb13 => ?_⟩
        · replace h := h.t hb13
          have h : _ = row := h
          subst h
          repeat' (first | exact trivial | exact rfl | refine And.intro ?_ ?_)
        · replace h := h.f hb13
          refine ⟨_, h.1, GSt.ren [0, 1] rfl rfl rfl (fun i hi => absurd hi (Nat.not_lt_zero i)) (Nat.zero_le _) ?_ ?_, h.2⟩
          all_goals (repeat' (first | exact trivial | exact Or.inl rfl | exact Or.inr rfl | refine And.intro ?_ ?_))
      · replace h := h.f hb10
        have h : _ = row := h
        subst h
        repeat' (first | exact trivial | exact rfl | refine And.intro ?_ ?_)
def vc23 (E : Env) (x1 : List (List C)) (x2 : List (List C)) (Q : List C → Prop) : Prop :=
  Br (E.not (E.eq (E.len x1) (E.len x2)))
  (Q [.bool false])
  (LoopP1 (fun (i3 : Int) (K4 : (Int) → Prop) =>
    Br (E.lt i3 (E.len x1))
      (((E.le 0 i3) = true) ∧ 
        (((E.lt i3 (E.len x2)) = true) ∧ 
        (Br (E.not (E.eq (E.gi (E.cell x1 i3 0)) (E.gi (E.cell x2 i3 0))))
        (Q [.bool false])
        (K4 ((E.add .i64 i3 1))))))
      (Q [.bool true]))
    (0))
theorem w23 {P : Program} {tbl : FuncId → List A → List C}  {x1 : List (List C)} {x2 : List (List C)} {row : List C} (h : vc23 (stdE P tbl) x1 x2 fun c => c = row) : WPg P tbl rf23 [(false, [.bool])] row [.c (.sl [.int .i64] x1), .c (.sl [.int .i64] x2)] := by
  refine ⟨?_⟩
  revert h
  generalize hE : stdE P tbl = E
  intro h
  unfold vc23 at h
  cbv
  refine ⟨fun hb5 => ?_, fun hb5 => ?_⟩
  · replace h := h.t hb5
    have h : _ = row := h
    subst h
    repeat' (first | exact trivial | exact rfl | refine And.intro ?_ ?_)
  · replace h := h.f hb5
    obtain ⟨I, μ, h0, hI⟩ := h
    refine LoopW.inv (fun R R' s h k => RCode.wp_mono _ R R' s h k) (fun p : Int => (fun (i3 : Int) => (⟨[.c (.sl [.int .i64] x1), .c (.sl [.int .i64] x2), .u, .u, .u, .c (.int .i64 i3), .u, .u, .u, .u, .u, .u, .u, .u, .u, .u, .u, .u, .u, .u, .u, .u, .u, .u, .u, .u], []⟩ : St)) p) (fun p => I p) (fun p => μ p) _ h0 ?_ ?_
    · refine GSt.ren [] rfl rfl rfl (fun i hi => absurd hi (Nat.not_lt_zero i)) (Nat.zero_le _) ?_ ?_
      all_goals (repeat' (first | exact trivial | exact Or.inl rfl | exact Or.inr rfl | refine And.intro ?_ ?_))
    · rintro i3 h
      replace h := hI i3 h
      cbv
      refine ⟨fun hb6 => ?_, fun hb6 => ?_⟩
      · replace h := h.t hb6
        have c7 := h.1
        refine ⟨c7, ?_⟩
        replace h := h.2
        refine ⟨hb6, ?_⟩
        refine ⟨c7, ?_⟩
        have c8 := h.1
        refine ⟨c8, ?_⟩
        replace h := h.2
        refine ⟨fun hb9 => ?_, fun hb9 => ?_⟩
        · replace h := h.t hb9
          have h : _ = row := h
          subst h
          repeat' (first | exact trivial | exact rfl | refine And.intro ?_ ?_)
        · replace h := h.f hb9
          refine ⟨_, h.1, GSt.ren [] rfl rfl rfl (fun i hi => absurd hi (Nat.not_lt_zero i)) (Nat.zero_le _) ?_ ?_, h.2⟩
          all_goals (repeat' (first | exact trivial | exact Or.inl rfl | exact Or.inr rfl | refine And.intro ?_ ?_))
      · replace h := h.f hb6
        have h : _ = row := h
        subst h
        repeat' (first | exact trivial | exact rfl | refine And.intro ?_ ?_)
def vc17 (E : Env) (x1 : List (List C)) (Q : List C → Prop) : Prop :=
  LoopP1 (fun (i2 : Int) (K3 : (Int) → Prop) =>
  Br (E.lt i2 (E.len x1))
    (((E.le 0 i2) = true) ∧ 
      (Br (E.lt 40 (E.len (E.gl (E.cell x1 i2 2))))
      (Q [.bool true])
      (K3 ((E.add .i64 i2 1)))))
    (Q [.bool false]))
  (0)
theorem w17 {P : Program} {tbl : FuncId → List A → List C}  {x1 : List (List C)} {row : List C} (h : vc17 (stdE P tbl) x1 fun c => c = row) : WPg P tbl rf17 [(false, [.bool])] row [.c (.sl [.int .i64, .int .i64, .sl [.int .i64, .int .i64]] x1)] := by
  refine ⟨?_⟩
  revert h
  generalize hE : stdE P tbl = E
  intro h
  unfold vc17 at h
  cbv
  obtain ⟨I, μ, h0, hI⟩ := h
  refine LoopW.inv (fun R R' s h k => RCode.wp_mono _ R R' s h k) (fun p : Int => (fun (i2 : Int) => (⟨[.c (.sl [.int .i64, .int .i64, .sl [.int .i64, .int .i64]] x1), .u, .u, .c (.int .i64 i2), .u, .u, .u, .u, .u, .u, .u, .u, .u, .u, .u, .u, .u], []⟩ : St)) p) (fun p => I p) (fun p => μ p) _ h0 ?_ ?_
  · refine GSt.ren [] rfl rfl rfl (fun i hi => absurd hi (Nat.not_lt_zero i)) (Nat.zero_le _) ?_ ?_
    all_goals (repeat' (first | exact trivial | exact Or.inl rfl | exact Or.inr rfl | refine And.intro ?_ ?_))
  · rintro i2 h
    replace h := hI i2 h
    cbv
    refine ⟨fun hb4 => ?_, fun hb4 => ?_⟩
    · replace h := h.t hb4
      have c5 := h.1
      refine ⟨c5, ?_⟩
      replace h := h.2
      refine ⟨hb4, ?_⟩
      refine ⟨fun hb6 => ?_, fun hb6 => ?_⟩
      · replace h := h.t hb6
        have h : _ = row := h
        subst h
        repeat' (first | exact trivial | exact rfl | refine And.intro ?_ ?_)
      · replace h := h.f hb6
        refine ⟨_, h.1, GSt.ren [] rfl rfl rfl (fun i hi => absurd hi (Nat.not_lt_zero i)) (Nat.zero_le _) ?_ ?_, h.2⟩
        all_goals (repeat' (first | exact trivial | exact Or.inl rfl | exact Or.inr rfl | refine And.intro ?_ ?_))
    · replace h := h.f hb4
      have h : _ = row := h
      subst h
      repeat' (first | exact trivial | exact rfl | refine And.intro ?_ ?_)
def vc31 (E : Env) (x1 : Int) (x2 : Int) (x3 : Int) (x4 : Int) (x5 : Int) (Q : List C → Prop) : Prop :=
  Q [.int .i64 x1, .int .i64 x2, .sl [.int .i64, .int .i64] [[.int .i64 x4, .int .i64 x5], [.int .i64 x3, .int .i64 (E.neg .i64 x5)]]]
theorem w31 {P : Program} {tbl : FuncId → List A → List C}  {x1 : Int} {x2 : Int} {x3 : Int} {x4 : Int} {x5 : Int} {row : List C} (h : vc31 (stdE P tbl) x1 x2 x3 x4 x5 fun c => c = row) : WPg P tbl rf31 [(true, [.int .i64, .int .i64, .sl [.int .i64, .int .i64]])] row [.c (.int .i64 x1), .c (.int .i64 x2), .c (.int .i64 x3), .c (.int .i64 x4), .c (.int .i64 x5)] := by
  refine ⟨?_⟩
  revert h
  generalize hE : stdE P tbl = E
  intro h
  unfold vc31 at h
  cbv
  have h : _ = row := h
  subst h
  repeat' (first | exact trivial | exact rfl | refine And.intro ?_ ?_)
end Go.Proofs.Ytlmllogbaacoeaa.V
