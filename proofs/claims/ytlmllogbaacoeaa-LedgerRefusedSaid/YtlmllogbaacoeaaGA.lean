/- Ledgers: the walks of the functions that post. No conditions. -/
import Derived.Test.YtlmllogbaacoeaaCtr
set_option linter.unusedVariables false
set_option linter.unusedSimpArgs false
namespace Go.Proofs.Ytlmllogbaacoeaa.V
open Go Go.Eng
set_option maxRecDepth 1000000
set_option maxHeartbeats 4000000
/-- papermill papermillref58.Check -/
def rf14 : RFn := ⟨(.seq (.ops 1 [⟨(some 1), (.v (.box 0 24 (.t 0))), none, []⟩, ⟨(some 2), (.v (.mv (.k (.c (.int .i64 0))))), none, []⟩]) (.seq (.seq (.ops 0 [⟨(some 6), (.v (.fa 0 (.t 1))), none, []⟩, ⟨(some 7), (.v (.ld (.t 6))), none, []⟩, ⟨(some 8), (.v (.bin .lss (.t 7) (.k (.c (.int .i64 1))))), none, []⟩, ⟨(some 9), (.v (.mv (.t 8))), none, []⟩, ⟨(some 10), (.v (.fa 0 (.t 1))), (some ⟨9, false⟩), [(.t 1)]⟩, ⟨(some 11), (.v (.ld (.t 10))), (some ⟨9, false⟩), [(.t 10)]⟩, ⟨(some 12), (.v (.bin .gtr (.t 11) (.k (.c (.int .i64 1000000))))), (some ⟨9, false⟩), [(.t 11), (.k (.c (.int .i64 1000000)))]⟩, ⟨(some 13), (.v (.pick (.t 9) (.k (.c (.bool true))) (.t 12))), none, []⟩, ⟨(some 14), (.v (.mv (.t 13))), none, []⟩, ⟨(some 15), (.v (.fa 1 (.t 1))), (some ⟨14, false⟩), [(.t 1)]⟩, ⟨(some 16), (.v (.ld (.t 15))), (some ⟨14, false⟩), [(.t 15)]⟩, ⟨(some 17), (.v (.bin .lss (.t 16) (.k (.c (.int .i64 0))))), (some ⟨14, false⟩), [(.t 16), (.k (.c (.int .i64 0)))]⟩, ⟨(some 18), (.v (.pick (.t 14) (.k (.c (.bool true))) (.t 17))), none, []⟩, ⟨(some 19), (.v (.mv (.t 18))), none, []⟩, ⟨(some 20), (.v (.fa 1 (.t 1))), (some ⟨19, false⟩), [(.t 1)]⟩, ⟨(some 21), (.v (.ld (.t 20))), (some ⟨19, false⟩), [(.t 20)]⟩, ⟨(some 22), (.v (.bin .gtr (.t 21) (.k (.c (.int .i64 2147483647))))), (some ⟨19, false⟩), [(.t 21), (.k (.c (.int .i64 2147483647)))]⟩, ⟨(some 23), (.v (.pick (.t 19) (.k (.c (.bool true))) (.t 22))), none, []⟩]) (.cond (.t 23) (.seq (.ops 0 [⟨(some 2), (.v (.mv (.k (.c (.int .i64 1))))), none, []⟩]) .ret) .skip)) (.seq (.seq (.ops 0 [⟨(some 24), (.v (.fa 2 (.t 1))), none, []⟩, ⟨(some 25), (.v (.ld (.t 24))), none, []⟩, ⟨(some 26), (.v (.lenS (.t 25))), none, []⟩, ⟨(some 27), (.v (.bin .lss (.t 26) (.k (.c (.int .i64 2))))), none, []⟩]) (.cond (.t 27) (.seq (.ops 0 [⟨(some 2), (.v (.mv (.k (.c (.int .i64 10))))), none, []⟩]) .ret) .skip)) (.seq (.seq (.ops 0 [⟨(some 28), (.v (.fa 2 (.t 1))), none, []⟩, ⟨(some 29), (.v (.ld (.t 28))), none, []⟩, ⟨(some 30), (.v (.lenS (.t 29))), none, []⟩, ⟨(some 31), (.v (.bin .gtr (.t 30) (.k (.c (.int .i64 16))))), none, []⟩]) (.cond (.t 31) (.seq (.ops 0 [⟨(some 2), (.v (.mv (.k (.c (.int .i64 8))))), none, []⟩]) .ret) .skip)) (.seq (.ops 0 [⟨(some 3), (.v (.mv (.k (.c (.int .i64 0))))), none, []⟩]) (.seq (.seq (.ops 0 [⟨(some 4), (.v (.mv (.k (.c (.int .i64 0))))), none, []⟩]) (.block 0 (.loop (.seq (.seq (.ops 0 [⟨(some 32), (.v (.mv (.t 4))), none, []⟩, ⟨(some 33), (.v (.fa 2 (.t 1))), none, []⟩, ⟨(some 34), (.v (.ld (.t 33))), none, []⟩, ⟨(some 35), (.v (.lenS (.t 34))), none, []⟩, ⟨(some 36), (.v (.bin .lss (.t 32) (.t 35))), none, []⟩]) (.cond (.t 36) .skip (.exit 0))) (.seq (.block 1 (.seq (.ops 1 [⟨(some 39), (.v (.fa 2 (.t 1))), none, []⟩, ⟨(some 40), (.v (.ld (.t 39))), none, []⟩, ⟨(some 41), (.v (.mv (.t 4))), none, []⟩, ⟨(some 42), (.v (.ia 2 (.t 40) (.t 41))), none, []⟩, ⟨(some 43), (.v (.lda 2 (.t 42))), none, []⟩, ⟨(some 5), (.v (.alloc 0 45 [(.c (.int .i64 0)), (.c (.int .i64 0))])), none, []⟩, ⟨none, (.v (.st 2 (.t 5) (.t 43))), none, []⟩]) (.seq (.seq (.ops 0 [⟨(some 44), (.v (.fa 0 (.t 5))), none, []⟩, ⟨(some 45), (.v (.ld (.t 44))), none, []⟩, ⟨(some 46), (.v (.bin .lss (.t 45) (.k (.c (.int .i64 0))))), none, []⟩, ⟨(some 47), (.v (.mv (.t 46))), none, []⟩, ⟨(some 48), (.v (.fa 0 (.t 5))), (some ⟨47, false⟩), [(.t 5)]⟩, ⟨(some 49), (.v (.ld (.t 48))), (some ⟨47, false⟩), [(.t 48)]⟩, ⟨(some 50), (.v (.bin .gtr (.t 49) (.k (.c (.int .i64 1000000))))), (some ⟨47, false⟩), [(.t 49), (.k (.c (.int .i64 1000000)))]⟩, ⟨(some 51), (.v (.pick (.t 47) (.k (.c (.bool true))) (.t 50))), none, []⟩, ⟨(some 52), (.v (.mv (.t 51))), none, []⟩, ⟨(some 53), (.v (.fa 1 (.t 5))), (some ⟨52, false⟩), [(.t 5)]⟩, ⟨(some 54), (.v (.ld (.t 53))), (some ⟨52, false⟩), [(.t 53)]⟩, ⟨(some 55), (.v (.bin .eql (.t 54) (.k (.c (.int .i64 0))))), (some ⟨52, false⟩), [(.t 54), (.k (.c (.int .i64 0)))]⟩, ⟨(some 56), (.v (.pick (.t 52) (.k (.c (.bool true))) (.t 55))), none, []⟩, ⟨(some 57), (.v (.mv (.t 56))), none, []⟩, ⟨(some 58), (.v (.fa 1 (.t 5))), (some ⟨57, false⟩), [(.t 5)]⟩, ⟨(some 59), (.v (.ld (.t 58))), (some ⟨57, false⟩), [(.t 58)]⟩, ⟨(some 60), (.v (.bin .lss (.t 59) (.k (.c (.int .i64 (-1000000000000)))))), (some ⟨57, false⟩), [(.t 59), (.k (.c (.int .i64 (-1000000000000))))]⟩, ⟨(some 61), (.v (.pick (.t 57) (.k (.c (.bool true))) (.t 60))), none, []⟩, ⟨(some 62), (.v (.mv (.t 61))), none, []⟩, ⟨(some 63), (.v (.fa 1 (.t 5))), (some ⟨62, false⟩), [(.t 5)]⟩, ⟨(some 64), (.v (.ld (.t 63))), (some ⟨62, false⟩), [(.t 63)]⟩, ⟨(some 65), (.v (.bin .gtr (.t 64) (.k (.c (.int .i64 1000000000000))))), (some ⟨62, false⟩), [(.t 64), (.k (.c (.int .i64 1000000000000)))]⟩, ⟨(some 66), (.v (.pick (.t 62) (.k (.c (.bool true))) (.t 65))), none, []⟩]) (.cond (.t 66) (.seq (.ops 0 [⟨(some 2), (.v (.mv (.k (.c (.int .i64 1))))), none, []⟩]) .ret) .skip)) (.ops 0 [⟨(some 67), (.v (.mv (.t 3))), none, []⟩, ⟨(some 68), (.v (.fa 1 (.t 5))), none, []⟩, ⟨(some 69), (.v (.ld (.t 68))), none, []⟩, ⟨(some 70), (.v (.bin .add (.t 67) (.t 69))), none, []⟩, ⟨(some 3), (.v (.mv (.t 70))), none, []⟩])))) (.ops 0 [⟨(some 37), (.v (.mv (.t 4))), none, []⟩, ⟨(some 38), (.v (.bin .add (.t 37) (.k (.c (.int .i64 1))))), none, []⟩, ⟨(some 4), (.v (.mv (.t 38))), none, []⟩])))))) (.seq (.seq (.ops 0 [⟨(some 71), (.v (.mv (.t 3))), none, []⟩, ⟨(some 72), (.v (.bin .neq (.t 71) (.k (.c (.int .i64 0))))), none, []⟩]) (.cond (.t 72) (.seq (.ops 0 [⟨(some 2), (.v (.mv (.k (.c (.int .i64 39))))), none, []⟩]) .ret) .skip)) (.seq (.ops 0 [⟨(some 2), (.v (.mv (.k (.c (.int .i64 0))))), none, []⟩]) .ret)))))))), 73, [(.t 2)]⟩
theorem h14 : fnR Try.prog DD 14 = some rf14 := by kernel_rfl
/-- (*papermill papermillref58.Ledger).Post -/
def rf19 : RFn := ⟨(.seq (.ops 1 [⟨(some 3), (.v (.box 0 24 (.t 1))), none, []⟩, ⟨(some 4), (.v (.mv (.k (.c (.int .i64 0))))), none, []⟩]) (.seq (.seq (.ops 0 [⟨(some 7), (.v (.mv (.t 0))), none, []⟩, ⟨(some 8), (.v (.eqn 1 false (.t 7))), none, []⟩]) (.cond (.t 8) (.seq (.ops 0 [⟨(some 4), (.v (.mv (.k (.c (.int .i64 14))))), none, []⟩]) .ret) .skip)) (.seq (.ops 2 [⟨(some 9), (.v (.bsl 0 45 [(.int .i64), (.int .i64)] [])), none, []⟩, ⟨(some 10), (.v (.fa 2 (.t 3))), none, []⟩, ⟨(some 11), (.v (.ld (.t 10))), none, []⟩, ⟨(some 12), (.v (.app 1 45 [(.int .i64), (.int .i64)] 8796093022208 (.t 9) (.t 11))), none, []⟩, ⟨(some 13), (.v (.fa 2 (.t 3))), none, []⟩, ⟨none, (.v (.st 1 (.t 13) (.t 12))), none, []⟩]) (.seq (.any 0 [⟨0, ⟨[], ⟨(some 15), (.v (.mv (.t 0))), none, []⟩⟩⟩, ⟨1, ⟨[0], ⟨(some 16), (.v (.nc (.t 15))), none, []⟩⟩⟩, ⟨2, ⟨[1, 0], ⟨(some 17), (.v (.fa 0 (.t 16))), none, []⟩⟩⟩, ⟨3, ⟨[2, 1, 0], ⟨(some 18), (.v (.ld (.t 17))), none, []⟩⟩⟩, ⟨4, ⟨[], ⟨(some 19), (.v (.lda 3 (.t 3))), none, []⟩⟩⟩, ⟨5, ⟨[3, 2, 1, 0, 4], ⟨(some 20), (.v (.det 38 [⟨false, [(.sl [(.int .i64), (.int .i64), (.sl [(.int .i64), (.int .i64)])])]⟩, ⟨false, [(.int .i64)]⟩] [(.t 18), (.t 19)])), none, []⟩⟩⟩, ⟨6, ⟨[5, 3, 2, 1, 0, 4], ⟨(some 14), (.v (.mv (.t 20))), none, []⟩⟩⟩, ⟨7, ⟨[6, 5, 3, 2, 1, 0, 4], ⟨(some 21), (.v (.ext (.t 14) 0)), none, []⟩⟩⟩, ⟨8, ⟨[6, 5, 3, 2, 1, 0, 4], ⟨(some 22), (.v (.ext (.t 14) 1)), none, []⟩⟩⟩, ⟨9, ⟨[7, 6, 5, 3, 2, 1, 0, 4], ⟨(some 5), (.v (.mv (.t 21))), none, []⟩⟩⟩, ⟨10, ⟨[8, 9, 7, 6, 5, 3, 2, 1, 0, 4], ⟨(some 6), (.v (.mv (.t 22))), none, []⟩⟩⟩]) (.seq (.ops 0 [⟨(some 23), (.v (.mv (.t 0))), none, []⟩, ⟨(some 24), (.v (.mv (.t 5))), none, []⟩, ⟨(some 25), (.v (.nc (.t 23))), none, []⟩, ⟨(some 26), (.v (.fa 0 (.t 25))), none, []⟩, ⟨none, (.v (.st 1 (.t 26) (.t 24))), none, []⟩]) (.seq (.ops 0 [⟨(some 27), (.v (.mv (.t 6))), none, []⟩, ⟨(some 4), (.v (.mv (.t 27))), none, []⟩]) .ret)))))), 28, [(.t 4)]⟩
theorem h19 : fnR Try.prog DD 19 = some rf19 := by kernel_rfl
/-- papermill papermillref58.post -/
def rf38 : RFn := ⟨(.seq (.ops 1 [⟨(some 3), (.v (.box 0 24 (.t 1))), none, []⟩, ⟨(some 4), (.v (.mv (.k (.c .nil)))), none, []⟩, ⟨(some 5), (.v (.mv (.k (.c (.int .i64 0))))), none, []⟩]) (.seq (.seq (.ops 0 [⟨(some 11), (.v (.lda 3 (.t 3))), none, []⟩, ⟨(some 12), (.v (.det 14 [⟨false, [(.int .i64)]⟩] [(.t 11)])), none, []⟩, ⟨(some 6), (.v (.mv (.t 12))), none, []⟩]) (.seq (.ops 0 [⟨(some 13), (.v (.mv (.t 6))), none, []⟩, ⟨(some 14), (.v (.bin .neq (.t 13) (.k (.c (.int .i64 0))))), none, []⟩]) (.cond (.t 14) (.seq (.ops 0 [⟨(some 15), (.v (.mv (.t 0))), none, []⟩, ⟨(some 16), (.v (.mv (.t 6))), none, []⟩, ⟨(some 4), (.v (.mv (.t 15))), none, []⟩, ⟨(some 5), (.v (.mv (.t 16))), none, []⟩]) .ret) .skip))) (.seq (.seq (.ops 0 [⟨(some 7), (.v (.mv (.k (.c (.int .i64 0))))), none, []⟩]) (.block 0 (.loop (.seq (.seq (.ops 0 [⟨(some 17), (.v (.mv (.t 7))), none, []⟩, ⟨(some 18), (.v (.mv (.t 0))), none, []⟩, ⟨(some 19), (.v (.lenS (.t 18))), none, []⟩, ⟨(some 20), (.v (.bin .lss (.t 17) (.t 19))), none, []⟩]) (.cond (.t 20) .skip (.exit 0))) (.seq (.block 1 (.seq (.any 0 [⟨0, ⟨[], ⟨(some 23), (.v (.mv (.t 0))), none, []⟩⟩⟩, ⟨1, ⟨[], ⟨(some 24), (.v (.mv (.t 7))), none, []⟩⟩⟩, ⟨2, ⟨[0, 1], ⟨(some 25), (.v (.ia 3 (.t 23) (.t 24))), none, []⟩⟩⟩, ⟨3, ⟨[2, 0, 1], ⟨(some 26), (.v (.fa 0 (.t 25))), none, []⟩⟩⟩, ⟨4, ⟨[3, 2, 0, 1], ⟨(some 27), (.v (.ld (.t 26))), none, []⟩⟩⟩, ⟨5, ⟨[], ⟨(some 28), (.v (.fa 0 (.t 3))), none, []⟩⟩⟩, ⟨6, ⟨[5], ⟨(some 29), (.v (.ld (.t 28))), none, []⟩⟩⟩, ⟨7, ⟨[4, 3, 2, 0, 1, 6, 5], ⟨(some 30), (.v (.bin .eql (.t 27) (.t 29))), none, []⟩⟩⟩]) (.cond (.t 30) (.seq (.ops 0 [⟨(some 31), (.v (.mv (.t 0))), none, []⟩, ⟨(some 4), (.v (.mv (.t 31))), none, []⟩, ⟨(some 5), (.v (.mv (.k (.c (.int .i64 6))))), none, []⟩]) .ret) .skip))) (.ops 0 [⟨(some 21), (.v (.mv (.t 7))), none, []⟩, ⟨(some 22), (.v (.bin .add (.t 21) (.k (.c (.int .i64 1))))), none, []⟩, ⟨(some 7), (.v (.mv (.t 22))), none, []⟩])))))) (.seq (.seq (.any 0 [⟨0, ⟨[], ⟨(some 32), (.v (.mv (.t 0))), none, []⟩⟩⟩, ⟨1, ⟨[0], ⟨(some 33), (.v (.lenS (.t 32))), none, []⟩⟩⟩, ⟨2, ⟨[1, 0], ⟨(some 34), (.v (.bin .gtr (.t 33) (.k (.c (.int .i64 0))))), none, []⟩⟩⟩, ⟨3, ⟨[2, 1, 0], ⟨(some 35), (.v (.mv (.t 34))), none, []⟩⟩⟩, ⟨4, ⟨[3, 2, 1, 0], ⟨(some 36), (.v (.fa 1 (.t 3))), (some ⟨35, true⟩), [(.t 3)]⟩⟩⟩, ⟨5, ⟨[4, 3, 2, 1, 0], ⟨(some 37), (.v (.ld (.t 36))), (some ⟨35, true⟩), [(.t 36)]⟩⟩⟩, ⟨6, ⟨[3, 2, 1, 0], ⟨(some 38), (.v (.mv (.t 0))), (some ⟨35, true⟩), [(.t 0)]⟩⟩⟩, ⟨7, ⟨[3, 2, 1, 0], ⟨(some 39), (.v (.mv (.t 0))), (some ⟨35, true⟩), [(.t 0)]⟩⟩⟩, ⟨8, ⟨[7, 3, 2, 1, 0], ⟨(some 40), (.v (.lenS (.t 39))), (some ⟨35, true⟩), [(.t 39)]⟩⟩⟩, ⟨9, ⟨[8, 7, 3, 2, 1, 0], ⟨(some 41), (.v (.bin .sub (.t 40) (.k (.c (.int .i64 1))))), (some ⟨35, true⟩), [(.t 40), (.k (.c (.int .i64 1)))]⟩⟩⟩, ⟨10, ⟨[6, 9, 8, 7, 3, 2, 1, 0], ⟨(some 42), (.v (.ia 3 (.t 38) (.t 41))), (some ⟨35, true⟩), [(.t 38), (.t 41)]⟩⟩⟩, ⟨11, ⟨[10, 6, 9, 8, 7, 3, 2, 1, 0], ⟨(some 43), (.v (.fa 1 (.t 42))), (some ⟨35, true⟩), [(.t 42)]⟩⟩⟩, ⟨12, ⟨[11, 10, 6, 9, 8, 7, 3, 2, 1, 0], ⟨(some 44), (.v (.ld (.t 43))), (some ⟨35, true⟩), [(.t 43)]⟩⟩⟩, ⟨13, ⟨[5, 4, 12, 11, 10, 6, 9, 8, 7, 3, 2, 1, 0], ⟨(some 45), (.v (.bin .lss (.t 37) (.t 44))), (some ⟨35, true⟩), [(.t 37), (.t 44)]⟩⟩⟩, ⟨14, ⟨[13, 5, 4, 12, 11, 10, 6, 9, 8, 7, 3, 2, 1, 0], ⟨(some 46), (.v (.pick (.t 35) (.t 45) (.k (.c (.bool false))))), none, []⟩⟩⟩]) (.cond (.t 46) (.seq (.ops 0 [⟨(some 47), (.v (.mv (.t 0))), none, []⟩, ⟨(some 4), (.v (.mv (.t 47))), none, []⟩, ⟨(some 5), (.v (.mv (.k (.c (.int .i64 9))))), none, []⟩]) .ret) .skip)) (.seq (.any 4 [⟨0, ⟨[], ⟨(some 48), (.v (.bsl 0 24 [(.int .i64), (.int .i64), (.sl [(.int .i64), (.int .i64)])] [])), none, []⟩⟩⟩, ⟨1, ⟨[], ⟨(some 49), (.v (.mv (.t 0))), none, []⟩⟩⟩, ⟨2, ⟨[0, 1], ⟨(some 50), (.v (.app 1 24 [(.int .i64), (.int .i64), (.sl [(.int .i64), (.int .i64)])] 3518437208883 (.t 48) (.t 49))), none, []⟩⟩⟩, ⟨3, ⟨[], ⟨(some 51), (.v (.lda 3 (.t 3))), none, []⟩⟩⟩, ⟨4, ⟨[3], ⟨(some 52), (.v (.bsl 2 24 [(.int .i64), (.int .i64), (.sl [(.int .i64), (.int .i64)])] [(.t 51)])), none, []⟩⟩⟩, ⟨5, ⟨[4, 3, 2, 0, 1], ⟨(some 53), (.v (.app 3 24 [(.int .i64), (.int .i64), (.sl [(.int .i64), (.int .i64)])] 3518437208883 (.t 50) (.t 52))), none, []⟩⟩⟩, ⟨6, ⟨[5, 4, 3, 2, 0, 1], ⟨(some 8), (.v (.mv (.t 53))), none, []⟩⟩⟩]) (.seq (.seq (.ops 0 [⟨(some 9), (.v (.mv (.k (.c (.int .i64 0))))), none, []⟩]) (.block 2 (.loop (.seq (.seq (.ops 0 [⟨(some 54), (.v (.mv (.t 9))), none, []⟩, ⟨(some 55), (.v (.fa 2 (.t 3))), none, []⟩, ⟨(some 56), (.v (.ld (.t 55))), none, []⟩, ⟨(some 57), (.v (.lenS (.t 56))), none, []⟩, ⟨(some 58), (.v (.bin .lss (.t 54) (.t 57))), none, []⟩]) (.cond (.t 58) .skip (.exit 2))) (.seq (.block 3 (.seq (.ops 0 [⟨(some 61), (.v (.mv (.t 8))), none, []⟩, ⟨(some 62), (.v (.fa 2 (.t 3))), none, []⟩, ⟨(some 63), (.v (.ld (.t 62))), none, []⟩, ⟨(some 64), (.v (.mv (.t 9))), none, []⟩, ⟨(some 65), (.v (.ia 2 (.t 63) (.t 64))), none, []⟩, ⟨(some 66), (.v (.fa 0 (.t 65))), none, []⟩, ⟨(some 67), (.v (.ld (.t 66))), none, []⟩, ⟨(some 68), (.v (.det 42 [⟨false, [(.int .i64)]⟩] [(.t 61), (.t 67)])), none, []⟩, ⟨(some 10), (.v (.mv (.t 68))), none, []⟩]) (.seq (.ops 0 [⟨(some 69), (.v (.mv (.t 10))), none, []⟩, ⟨(some 70), (.v (.bin .lss (.t 69) (.k (.c (.int .i64 (-1000000000000)))))), none, []⟩, ⟨(some 71), (.v (.mv (.t 70))), none, []⟩, ⟨(some 72), (.v (.mv (.t 10))), (some ⟨71, false⟩), [(.t 10)]⟩, ⟨(some 73), (.v (.bin .gtr (.t 72) (.k (.c (.int .i64 1000000000000))))), (some ⟨71, false⟩), [(.t 72), (.k (.c (.int .i64 1000000000000)))]⟩, ⟨(some 74), (.v (.pick (.t 71) (.k (.c (.bool true))) (.t 73))), none, []⟩]) (.cond (.t 74) (.seq (.ops 0 [⟨(some 75), (.v (.mv (.t 0))), none, []⟩, ⟨(some 4), (.v (.mv (.t 75))), none, []⟩, ⟨(some 5), (.v (.mv (.k (.c (.int .i64 2))))), none, []⟩]) .ret) .skip)))) (.ops 0 [⟨(some 59), (.v (.mv (.t 9))), none, []⟩, ⟨(some 60), (.v (.bin .add (.t 59) (.k (.c (.int .i64 1))))), none, []⟩, ⟨(some 9), (.v (.mv (.t 60))), none, []⟩])))))) (.seq (.seq (.ops 0 [⟨(some 76), (.v (.mv (.t 0))), none, []⟩, ⟨(some 77), (.v (.lenS (.t 76))), none, []⟩, ⟨(some 78), (.v (.bin .geq (.t 77) (.k (.c (.int .i64 512))))), none, []⟩]) (.cond (.t 78) (.seq (.ops 0 [⟨(some 79), (.v (.mv (.t 0))), none, []⟩, ⟨(some 4), (.v (.mv (.t 79))), none, []⟩, ⟨(some 5), (.v (.mv (.k (.c (.int .i64 8))))), none, []⟩]) .ret) .skip)) (.seq (.ops 0 [⟨(some 80), (.v (.mv (.t 8))), none, []⟩, ⟨(some 4), (.v (.mv (.t 80))), none, []⟩, ⟨(some 5), (.v (.mv (.k (.c (.int .i64 0))))), none, []⟩]) .ret)))))))), 81, [(.t 4), (.t 5)]⟩
theorem h38 : fnR Try.prog DD 38 = some rf38 := by kernel_rfl
/-- papermill papermillref58.balance -/
def rf42 : RFn := ⟨(.seq (.ops 0 [⟨(some 4), (.v (.mv (.k (.c (.int .i64 0))))), none, []⟩]) (.seq (.ops 0 [⟨(some 5), (.v (.mv (.t 0))), none, []⟩, ⟨(some 6), (.v (.mv (.t 1))), none, []⟩, ⟨(some 7), (.v (.det 43 [⟨false, [(.int .i64)]⟩] [(.t 5), (.t 6), (.k (.c (.int .i64 2147483647)))])), none, []⟩, ⟨(some 4), (.v (.mv (.t 7))), none, []⟩]) .ret)), 8, [(.t 4)]⟩
theorem h42 : fnR Try.prog DD 42 = some rf42 := by kernel_rfl
/-- papermill papermillref58.at -/
def rf43 : RFn := ⟨(.seq (.ops 0 [⟨(some 6), (.v (.mv (.k (.c (.int .i64 0))))), none, []⟩]) (.seq (.ops 0 [⟨(some 7), (.v (.mv (.k (.c (.int .i64 0))))), none, []⟩]) (.seq (.seq (.ops 0 [⟨(some 8), (.v (.mv (.k (.c (.int .i64 0))))), none, []⟩]) (.block 0 (.loop (.seq (.seq (.ops 0 [⟨(some 10), (.v (.mv (.t 8))), none, []⟩, ⟨(some 11), (.v (.mv (.t 0))), none, []⟩, ⟨(some 12), (.v (.lenS (.t 11))), none, []⟩, ⟨(some 13), (.v (.bin .lss (.t 10) (.t 12))), none, []⟩]) (.cond (.t 13) .skip (.exit 0))) (.seq (.block 1 (.seq (.ops 0 [⟨(some 9), (.v (.mv (.k (.c (.int .i64 0))))), none, []⟩]) (.block 2 (.loop (.seq (.seq (.ops 0 [⟨(some 16), (.v (.mv (.t 9))), none, []⟩, ⟨(some 17), (.v (.mv (.t 0))), none, []⟩, ⟨(some 18), (.v (.mv (.t 8))), none, []⟩, ⟨(some 19), (.v (.ia 3 (.t 17) (.t 18))), none, []⟩, ⟨(some 20), (.v (.fa 2 (.t 19))), none, []⟩, ⟨(some 21), (.v (.ld (.t 20))), none, []⟩, ⟨(some 22), (.v (.lenS (.t 21))), none, []⟩, ⟨(some 23), (.v (.bin .lss (.t 16) (.t 22))), none, []⟩]) (.cond (.t 23) .skip (.exit 2))) (.seq (.block 3 (.seq (.ops 0 [⟨(some 26), (.v (.mv (.t 0))), none, []⟩, ⟨(some 27), (.v (.mv (.t 8))), none, []⟩, ⟨(some 28), (.v (.ia 3 (.t 26) (.t 27))), none, []⟩, ⟨(some 29), (.v (.fa 1 (.t 28))), none, []⟩, ⟨(some 30), (.v (.ld (.t 29))), none, []⟩, ⟨(some 31), (.v (.mv (.t 2))), none, []⟩, ⟨(some 32), (.v (.bin .leq (.t 30) (.t 31))), none, []⟩, ⟨(some 33), (.v (.mv (.t 32))), none, []⟩, ⟨(some 34), (.v (.mv (.t 0))), (some ⟨33, true⟩), [(.t 0)]⟩, ⟨(some 35), (.v (.mv (.t 8))), (some ⟨33, true⟩), [(.t 8)]⟩, ⟨(some 36), (.v (.ia 3 (.t 34) (.t 35))), (some ⟨33, true⟩), [(.t 34), (.t 35)]⟩, ⟨(some 37), (.v (.fa 2 (.t 36))), (some ⟨33, true⟩), [(.t 36)]⟩, ⟨(some 38), (.v (.ld (.t 37))), (some ⟨33, true⟩), [(.t 37)]⟩, ⟨(some 39), (.v (.mv (.t 9))), (some ⟨33, true⟩), [(.t 9)]⟩, ⟨(some 40), (.v (.ia 2 (.t 38) (.t 39))), (some ⟨33, true⟩), [(.t 38), (.t 39)]⟩, ⟨(some 41), (.v (.fa 0 (.t 40))), (some ⟨33, true⟩), [(.t 40)]⟩, ⟨(some 42), (.v (.ld (.t 41))), (some ⟨33, true⟩), [(.t 41)]⟩, ⟨(some 43), (.v (.mv (.t 1))), (some ⟨33, true⟩), [(.t 1)]⟩, ⟨(some 44), (.v (.bin .eql (.t 42) (.t 43))), (some ⟨33, true⟩), [(.t 42), (.t 43)]⟩, ⟨(some 45), (.v (.pick (.t 33) (.t 44) (.k (.c (.bool false))))), none, []⟩]) (.cond (.t 45) (.ops 0 [⟨(some 46), (.v (.mv (.t 7))), none, []⟩, ⟨(some 47), (.v (.mv (.t 0))), none, []⟩, ⟨(some 48), (.v (.mv (.t 8))), none, []⟩, ⟨(some 49), (.v (.ia 3 (.t 47) (.t 48))), none, []⟩, ⟨(some 50), (.v (.fa 2 (.t 49))), none, []⟩, ⟨(some 51), (.v (.ld (.t 50))), none, []⟩, ⟨(some 52), (.v (.mv (.t 9))), none, []⟩, ⟨(some 53), (.v (.ia 2 (.t 51) (.t 52))), none, []⟩, ⟨(some 54), (.v (.fa 1 (.t 53))), none, []⟩, ⟨(some 55), (.v (.ld (.t 54))), none, []⟩, ⟨(some 56), (.v (.bin .add (.t 46) (.t 55))), none, []⟩, ⟨(some 7), (.v (.mv (.t 56))), none, []⟩]) .skip))) (.ops 0 [⟨(some 24), (.v (.mv (.t 9))), none, []⟩, ⟨(some 25), (.v (.bin .add (.t 24) (.k (.c (.int .i64 1))))), none, []⟩, ⟨(some 9), (.v (.mv (.t 25))), none, []⟩]))))))) (.ops 0 [⟨(some 14), (.v (.mv (.t 8))), none, []⟩, ⟨(some 15), (.v (.bin .add (.t 14) (.k (.c (.int .i64 1))))), none, []⟩, ⟨(some 8), (.v (.mv (.t 15))), none, []⟩])))))) (.seq (.ops 0 [⟨(some 57), (.v (.mv (.t 7))), none, []⟩, ⟨(some 6), (.v (.mv (.t 57))), none, []⟩]) .ret)))), 58, [(.t 6)]⟩
theorem h43 : fnR Try.prog DD 43 = some rf43 := by kernel_rfl
def vc13 (E : Env) (x1 : Int) (x2 : Int) (x3 : List (List C)) (Q : List C → Prop) : Prop :=
  Br (E.bite (E.bite (E.bite (E.lt x1 1) true (E.lt 1000000 x1)) true (E.lt x2 0)) true (E.lt 2147483647 x2))
  (Q [.int .i64 1])
  (Br (E.lt (E.len x3) 2)
    (Q [.int .i64 10])
    (Br (E.lt 16 (E.len x3))
      (Q [.int .i64 8])
      (LoopP2 (fun (i4 : Int) (i5 : Int) (K6 : (Int) → (Int) → Prop) =>
        Br (E.lt i5 (E.len x3))
          (((E.le 0 i5) = true) ∧ 
            (Br (E.bite (E.bite (E.bite (E.bite (E.lt (E.gi (E.cell x3 i5 0)) 0) true (E.lt 1000000 (E.gi (E.cell x3 i5 0)))) true (E.eq (E.gi (E.cell x3 i5 1)) 0)) true (E.lt (E.gi (E.cell x3 i5 1)) (-1000000000000))) true (E.lt 1000000000000 (E.gi (E.cell x3 i5 1))))
            (Q [.int .i64 1])
            (K6 ((E.add .i64 i4 (E.gi (E.cell x3 i5 1)))) ((E.add .i64 i5 1)))))
          (Br (E.not (E.eq i4 0))
            (Q [.int .i64 39])
            (Q [.int .i64 0])))
        (0) (0))))
theorem w13 {P : Program} {tbl : FuncId → List A → List C}  {x1 : Int} {x2 : Int} {x3 : List (List C)} {row : List C} (h : vc13 (stdE P tbl) x1 x2 x3 fun c => c = row) : WPg P tbl rf13 [(false, [.int .i64])] row [.agg [.c (.int .i64 x1), .c (.int .i64 x2), .c (.sl [.int .i64, .int .i64] x3)]] := by
  refine ⟨?_⟩
  revert h
  generalize hE : stdE P tbl = E
  intro h
  unfold vc13 at h
  cbv
  refine ⟨⟨fun hh => hh⟩, ?_⟩
  refine ⟨⟨fun hh => hh⟩, ?_⟩
  refine ⟨⟨fun hh => hh⟩, ?_⟩
  refine ⟨⟨fun hh => hh⟩, ?_⟩
  refine ⟨⟨fun hh => hh⟩, ?_⟩
  refine ⟨⟨fun hh => hh⟩, ?_⟩
  refine ⟨⟨fun hh => hh⟩, ?_⟩
  refine ⟨⟨fun hh => hh⟩, ?_⟩
  refine ⟨⟨fun hh => hh⟩, ?_⟩
  refine ⟨fun hb7 => ?_, fun hb7 => ?_⟩
  · replace h := h.t hb7
    have h : _ = row := h
    subst h
    repeat' (first | exact trivial | exact rfl | refine And.intro ?_ ?_)
  · replace h := h.f hb7
    refine ⟨fun hb8 => ?_, fun hb8 => ?_⟩
    · replace h := h.t hb8
      have h : _ = row := h
      subst h
      repeat' (first | exact trivial | exact rfl | refine And.intro ?_ ?_)
    · replace h := h.f hb8
      refine ⟨fun hb9 => ?_, fun hb9 => ?_⟩
      · replace h := h.t hb9
        have h : _ = row := h
        subst h
        repeat' (first | exact trivial | exact rfl | refine And.intro ?_ ?_)
      · replace h := h.f hb9
        obtain ⟨I, μ, h0, hI⟩ := h
        refine LoopW.inv (fun R R' s h k => RCode.wp_mono _ R R' s h k) (fun p : Int × Int => (fun (i4 : Int) (i5 : Int) => (⟨[.u, .u, .u, .c (.int .i64 i4), .u, .u, .u, .u, .u, .u, .u, .u, .u, .u, .u, .u, .u, .u, .u, .u, .u, .u, .u, .u, .u, .u, .u, .u, .u, .u, .u, .u, .u, .c (.sl [.int .i64, .int .i64] x3), .c (.int .i64 (E.len x3)), .c (.int .i64 i5), .u, .u, .u, .u, .u, .u, .u, .u, .u, .u, .u, .u, .u, .u, .u, .u, .u, .u, .u, .u, .u, .u, .u, .u, .u, .u, .u, .u, .u, .u, .u, .u, .u], []⟩ : St)) p.1 p.2) (fun p => I p.1 p.2) (fun p => μ p.1 p.2) (_, _) h0 ?_ ?_
        · refine GSt.ren [] rfl rfl rfl (fun i hi => absurd hi (Nat.not_lt_zero i)) (Nat.zero_le _) ?_ ?_
          all_goals (repeat' (first | exact trivial | exact Or.inl rfl | exact Or.inr rfl | refine And.intro ?_ ?_))
        · rintro ⟨i4, i5⟩ h
          replace h := hI i4 i5 h
          cbv
          refine ⟨fun hb10 => ?_, fun hb10 => ?_⟩
          · replace h := h.t hb10
            have c11 := h.1
            refine ⟨c11, ?_⟩
            replace h := h.2
            refine ⟨hb10, ?_⟩
            refine ⟨⟨fun hh => hh⟩, ?_⟩
            refine ⟨⟨fun hh => hh⟩, ?_⟩
            refine ⟨⟨fun hh => hh⟩, ?_⟩
            refine ⟨⟨fun hh => hh⟩, ?_⟩
            refine ⟨⟨fun hh => hh⟩, ?_⟩
            refine ⟨⟨fun hh => hh⟩, ?_⟩
            refine ⟨⟨fun hh => hh⟩, ?_⟩
            refine ⟨⟨fun hh => hh⟩, ?_⟩
            refine ⟨⟨fun hh => hh⟩, ?_⟩
            refine ⟨⟨fun hh => hh⟩, ?_⟩
            refine ⟨⟨fun hh => hh⟩, ?_⟩
            refine ⟨⟨fun hh => hh⟩, ?_⟩
            refine ⟨fun hb12 => ?_, fun hb12 => ?_⟩
            · replace h := h.t hb12
              have h : _ = row := h
              subst h
              repeat' (first | exact trivial | exact rfl | refine And.intro ?_ ?_)
            · replace h := h.f hb12
              refine ⟨(_, _), h.1, GSt.ren [] rfl rfl rfl (fun i hi => absurd hi (Nat.not_lt_zero i)) (Nat.zero_le _) ?_ ?_, h.2⟩
              all_goals (repeat' (first | exact trivial | exact Or.inl rfl | exact Or.inr rfl | refine And.intro ?_ ?_))
          · replace h := h.f hb10
            refine ⟨fun hb13 => ?_, fun hb13 => ?_⟩
            · replace h := h.t hb13
              have h : _ = row := h
              subst h
              repeat' (first | exact trivial | exact rfl | refine And.intro ?_ ?_)
            · replace h := h.f hb13
              have h : _ = row := h
              subst h
              repeat' (first | exact trivial | exact rfl | refine And.intro ?_ ?_)
def vc14 (E : Env) (x1 : Int) (x2 : Int) (x3 : List (List C)) (Q : List C → Prop) : Prop :=
  Br (E.bite (E.bite (E.bite (E.lt x1 1) true (E.lt 1000000 x1)) true (E.lt x2 0)) true (E.lt 2147483647 x2))
  (Q [.int .i64 1])
  (Br (E.lt (E.len x3) 2)
    (Q [.int .i64 10])
    (Br (E.lt 16 (E.len x3))
      (Q [.int .i64 8])
      (LoopP2 (fun (i4 : Int) (i5 : Int) (K6 : (Int) → (Int) → Prop) =>
        Br (E.lt i5 (E.len x3))
          (((E.le 0 i5) = true) ∧ 
            (Br (E.bite (E.bite (E.bite (E.bite (E.lt (E.gi (E.cell x3 i5 0)) 0) true (E.lt 1000000 (E.gi (E.cell x3 i5 0)))) true (E.eq (E.gi (E.cell x3 i5 1)) 0)) true (E.lt (E.gi (E.cell x3 i5 1)) (-1000000000000))) true (E.lt 1000000000000 (E.gi (E.cell x3 i5 1))))
            (Q [.int .i64 1])
            (K6 ((E.add .i64 i4 (E.gi (E.cell x3 i5 1)))) ((E.add .i64 i5 1)))))
          (Br (E.not (E.eq i4 0))
            (Q [.int .i64 39])
            (Q [.int .i64 0])))
        (0) (0))))
theorem w14 {P : Program} {tbl : FuncId → List A → List C}  {x1 : Int} {x2 : Int} {x3 : List (List C)} {row : List C} (h : vc14 (stdE P tbl) x1 x2 x3 fun c => c = row) : WPg P tbl rf14 [(false, [.int .i64])] row [.agg [.c (.int .i64 x1), .c (.int .i64 x2), .c (.sl [.int .i64, .int .i64] x3)]] := by
  refine ⟨?_⟩
  revert h
  generalize hE : stdE P tbl = E
  intro h
  unfold vc14 at h
  cbv
  refine ⟨⟨fun hh => hh⟩, ?_⟩
  refine ⟨⟨fun hh => hh⟩, ?_⟩
  refine ⟨⟨fun hh => hh⟩, ?_⟩
  refine ⟨⟨fun hh => hh⟩, ?_⟩
  refine ⟨⟨fun hh => hh⟩, ?_⟩
  refine ⟨⟨fun hh => hh⟩, ?_⟩
  refine ⟨⟨fun hh => hh⟩, ?_⟩
  refine ⟨⟨fun hh => hh⟩, ?_⟩
  refine ⟨⟨fun hh => hh⟩, ?_⟩
  refine ⟨fun hb7 => ?_, fun hb7 => ?_⟩
  · replace h := h.t hb7
    have h : _ = row := h
    subst h
    repeat' (first | exact trivial | exact rfl | refine And.intro ?_ ?_)
  · replace h := h.f hb7
    refine ⟨fun hb8 => ?_, fun hb8 => ?_⟩
    · replace h := h.t hb8
      have h : _ = row := h
      subst h
      repeat' (first | exact trivial | exact rfl | refine And.intro ?_ ?_)
    · replace h := h.f hb8
      refine ⟨fun hb9 => ?_, fun hb9 => ?_⟩
      · replace h := h.t hb9
        have h : _ = row := h
        subst h
        repeat' (first | exact trivial | exact rfl | refine And.intro ?_ ?_)
      · replace h := h.f hb9
        obtain ⟨I, μ, h0, hI⟩ := h
        refine LoopW.inv (fun R R' s h k => RCode.wp_mono _ R R' s h k) (fun p : Int × Int => (fun (i4 : Int) (i5 : Int) => (⟨[.u, .ptr 0 0, .u, .c (.int .i64 i4), .c (.int .i64 i5), .u, .u, .u, .u, .u, .u, .u, .u, .u, .u, .u, .u, .u, .u, .u, .u, .u, .u, .u, .u, .u, .u, .u, .u, .u, .u, .u, .u, .u, .u, .u, .u, .u, .u, .u, .u, .u, .u, .u, .u, .u, .u, .u, .u, .u, .u, .u, .u, .u, .u, .u, .u, .u, .u, .u, .u, .u, .u, .u, .u, .u, .u, .u, .u, .u, .u, .u, .u], [.box 24 [.c (.int .i64 x1), .c (.int .i64 x2), .c (.sl [.int .i64, .int .i64] x3)]]⟩ : St)) p.1 p.2) (fun p => I p.1 p.2) (fun p => μ p.1 p.2) (_, _) h0 ?_ ?_
        · refine GSt.ren [0] rfl rfl rfl (fun i hi => absurd hi (Nat.not_lt_zero i)) (Nat.zero_le _) ?_ ?_
          all_goals (repeat' (first | exact trivial | exact Or.inl rfl | exact Or.inr rfl | refine And.intro ?_ ?_))
        · rintro ⟨i4, i5⟩ h
          replace h := hI i4 i5 h
          cbv
          refine ⟨fun hb10 => ?_, fun hb10 => ?_⟩
          · replace h := h.t hb10
            have c11 := h.1
            refine ⟨c11, ?_⟩
            replace h := h.2
            refine ⟨hb10, ?_⟩
            refine ⟨⟨fun hh => hh⟩, ?_⟩
            refine ⟨⟨fun hh => hh⟩, ?_⟩
            refine ⟨⟨fun hh => hh⟩, ?_⟩
            refine ⟨⟨fun hh => hh⟩, ?_⟩
            refine ⟨⟨fun hh => hh⟩, ?_⟩
            refine ⟨⟨fun hh => hh⟩, ?_⟩
            refine ⟨⟨fun hh => hh⟩, ?_⟩
            refine ⟨⟨fun hh => hh⟩, ?_⟩
            refine ⟨⟨fun hh => hh⟩, ?_⟩
            refine ⟨⟨fun hh => hh⟩, ?_⟩
            refine ⟨⟨fun hh => hh⟩, ?_⟩
            refine ⟨⟨fun hh => hh⟩, ?_⟩
            refine ⟨fun hb12 => ?_, fun hb12 => ?_⟩
            · replace h := h.t hb12
              have h : _ = row := h
              subst h
              repeat' (first | exact trivial | exact rfl | refine And.intro ?_ ?_)
            · replace h := h.f hb12
              refine ⟨(_, _), h.1, GSt.ren [0] rfl rfl rfl (fun i hi => absurd hi (Nat.not_lt_zero i)) (Nat.zero_le _) ?_ ?_, h.2⟩
              all_goals (repeat' (first | exact trivial | exact Or.inl rfl | exact Or.inr rfl | refine And.intro ?_ ?_))
          · replace h := h.f hb10
            refine ⟨fun hb13 => ?_, fun hb13 => ?_⟩
            · replace h := h.t hb13
              have h : _ = row := h
              subst h
              repeat' (first | exact trivial | exact rfl | refine And.intro ?_ ?_)
            · replace h := h.f hb13
              have h : _ = row := h
              subst h
              repeat' (first | exact trivial | exact rfl | refine And.intro ?_ ?_)
def vc15 (E : Env)  (Q0 : Prop) : Prop :=
  Q0 
theorem w15 {P : Program} {tbl : FuncId → List A → List C}   {Q0 : Prop} (h : vc15 (stdE P tbl)  Q0) : WEg P tbl rf15 (fun r H' => (Q0  ∧ r = .ptr 0 0 ∧ H' = [.box 54 [.gr 1, .map 2], .arr 24 [.int .i64, .int .i64, .sl [.int .i64, .int .i64]] [], .mp .i64 (.int .i64) []])) [] [] := by
  refine ⟨?_⟩
  revert h
  generalize hE : stdE P tbl = E
  intro h
  unfold vc15 at h
  cbv
  refine ⟨_, _, GFin.of (GSt.trans (GSt.nilBox 1 0 24 [.int .i64, .int .i64, .sl [.int .i64, .int .i64]] rfl rfl) (GSt.ren [1, 2, 0] rfl rfl rfl (fun i hi => absurd hi (Nat.not_lt_zero i)) (Nat.zero_le _) ?_ ?_)), ⟨h, rfl, rfl⟩⟩
  all_goals (repeat' (first | exact trivial | exact Or.inl rfl | exact Or.inr rfl | refine And.intro ?_ ?_))
def vc35 (E : Env) (x1 : List (List C)) (x2 : List (Int × C)) (x3 : Int) (x4 : Int) (x5 : List (List C)) (x6 : Int) (Q0 : (List (Int × C)) → Prop) : Prop :=
  LoopP2 (fun (m2 : List (Int × C)) (i3 : Int) (K4 : (List (Int × C)) → (Int) → Prop) =>
  Br (E.lt i3 (E.len x5))
    (((E.le 0 i3) = true) ∧ 
      (K4 ((E.mset m2 (E.gi (E.cell x5 i3 0)) (.int .i64 (E.add .i64 (E.gi (E.mlk m2 (E.gi (E.cell x5 i3 0)) (.int .i64 0))) (E.mul .i64 x6 (E.gi (E.cell x5 i3 1))))))) ((E.add .i64 i3 1))))
    (Q0 (m2)))
  (x2) (0)
theorem w35 {P : Program} {tbl : FuncId → List A → List C} {x1 : List (List C)} {x2 : List (Int × C)} {x3 : Int} {x4 : Int} {x5 : List (List C)} {x6 : Int}  {Q0 : (List (Int × C)) → Prop} (h : vc35 (stdE P tbl) x1 x2 x3 x4 x5 x6 Q0) : WEg P tbl rf35 (fun r H' => (∃ m1 : List (Int × C), Q0 m1 ∧ r = .tup [] ∧ H' = [.box 54 [.gr 1, .map 2], .arr 24 [.int .i64, .int .i64, .sl [.int .i64, .int .i64]] x1, .mp .i64 (.int .i64) m1])) [.ptr 0 0, .agg [.c (.int .i64 x3), .c (.int .i64 x4), .c (.sl [.int .i64, .int .i64] x5)], .c (.int .i64 x6)] [.box 54 [.gr 1, .map 2], .arr 24 [.int .i64, .int .i64, .sl [.int .i64, .int .i64]] x1, .mp .i64 (.int .i64) x2] := by
  refine ⟨?_⟩
  revert h
  generalize hE : stdE P tbl = E
  intro h
  unfold vc35 at h
  cbv
  obtain ⟨I, μ, h0, hI⟩ := h
  refine LoopW.inv (fun R R' s h k => RCode.wp_mono _ R R' s h k) (fun p : List (Int × C) × Int => (fun (m2 : List (Int × C)) (i3 : Int) => (⟨[.ptr 0 0, .u, .c (.int .i64 x6), .u, .u, .u, .u, .u, .u, .c (.sl [.int .i64, .int .i64] x5), .c (.int .i64 (E.len x5)), .c (.int .i64 i3), .u, .u, .u, .u, .u, .u, .u, .u, .u, .u, .u, .u, .u, .u, .u, .u], [.box 54 [.gr 1, .map 2], .arr 24 [.int .i64, .int .i64, .sl [.int .i64, .int .i64]] x1, .mp .i64 (.int .i64) m2]⟩ : St)) p.1 p.2) (fun p => I p.1 p.2) (fun p => μ p.1 p.2) (_, _) h0 ?_ ?_
  · refine GSt.ren [0, 1, 2] rfl rfl rfl (by decide) (Nat.le_add_left _ _) ?_ ?_
    all_goals (repeat' (first | exact trivial | exact Or.inl rfl | exact Or.inr rfl | refine And.intro ?_ ?_))
  · rintro ⟨m2, i3⟩ h
    replace h := hI m2 i3 h
    cbv
    refine ⟨fun hb5 => ?_, fun hb5 => ?_⟩
    · replace h := h.t hb5
      have c6 := h.1
      refine ⟨c6, ?_⟩
      replace h := h.2
      refine ⟨hb5, ?_⟩
      refine ⟨(_, _), h.1, GSt.ren [0, 1, 2] rfl rfl rfl (by decide) (Nat.le_add_left _ _) ?_ ?_, h.2⟩
      all_goals (repeat' (first | exact trivial | exact Or.inl rfl | exact Or.inr rfl | refine And.intro ?_ ?_))
    · replace h := h.f hb5
      refine ⟨_, _, GFin.of (GSt.ren [0, 1, 2] rfl rfl rfl (by decide) (Nat.le_add_left _ _) ?_ ?_), ⟨_, h, rfl, rfl⟩⟩
      all_goals (repeat' (first | exact trivial | exact Or.inl rfl | exact Or.inr rfl | refine And.intro ?_ ?_))
def vc36 (E : Env) (x0 : Int) (x1 : List (List C)) (x2 : List (Int × C)) (x3 : Int) (x4 : Int) (x5 : List (List C)) (Q0 : (List (Int × C)) → Prop) : Prop :=
  Br (E.not (E.eq x0 0))
  (spAdd (x1) (x2) (x3) (x4) (x5) ((-1)) (fun (m2 : List (Int × C)) => 
    Q0 (m2)))
  (Q0 (x2))
theorem w36 {P : Program} {tbl : FuncId → List A → List C} {x0 : Int} {x1 : List (List C)} {x2 : List (Int × C)} {x3 : Int} {x4 : Int} {x5 : List (List C)} (ce35 : AddC P 35) {Q0 : (List (Int × C)) → Prop} (h : vc36 (stdE P tbl) x0 x1 x2 x3 x4 x5 Q0) : WEg P tbl rf36 (fun r H' => (∃ m1 : List (Int × C), Q0 m1 ∧ r = .tup [] ∧ H' = [.box 26 [.c (.int .i64 x0)], .box 30 [.ptr 2 0], .box 54 [.gr 3, .map 4], .arr 24 [.int .i64, .int .i64, .sl [.int .i64, .int .i64]] x1, .mp .i64 (.int .i64) m1, .box 24 [.c (.int .i64 x3), .c (.int .i64 x4), .c (.sl [.int .i64, .int .i64] x5)]])) [.ptr 0 0, .ptr 1 0, .ptr 5 0] [.box 26 [.c (.int .i64 x0)], .box 30 [.ptr 2 0], .box 54 [.gr 3, .map 4], .arr 24 [.int .i64, .int .i64, .sl [.int .i64, .int .i64]] x1, .mp .i64 (.int .i64) x2, .box 24 [.c (.int .i64 x3), .c (.int .i64 x4), .c (.sl [.int .i64, .int .i64] x5)]] := by
  refine ⟨?_⟩
  revert h
  generalize hE : stdE P tbl = E
  intro h
  unfold vc36 at h
  cbv
  refine ⟨fun hb3 => ?_, fun hb3 => ?_⟩
  · replace h := h.t hb3
    refine HCall.mk ce35.1 ((ACalls.frame (ce35.2 _ _ _ _ _ _ _ h) (H := _) (tgt := [2, 3, 4]) rfl (by decide) ?_).mono fun r H' hq => ?_)
    · intro i o ho
      match i, ho with
      | 0, ho => cases ho; rfl
      | 1, ho => cases ho; rfl
      | 2, ho => cases ho; rfl
    obtain ⟨r1, H1', ⟨m2, h, rfl, rfl⟩, _, rfl, rfl⟩ := hq
    cbv
    refine ⟨_, _, GFin.of (GSt.ren [0, 1, 2, 3, 4, 5] rfl rfl rfl (by decide) (Nat.le_add_left _ _) ?_ ?_), ⟨_, h, rfl, rfl⟩⟩
    all_goals (repeat' (first | exact trivial | exact Or.inl rfl | exact Or.inr rfl | refine And.intro ?_ ?_))
  · replace h := h.f hb3
    refine ⟨_, _, GFin.of (GSt.ren [0, 1, 2, 3, 4, 5] rfl rfl rfl (by decide) (Nat.le_add_left _ _) ?_ ?_), ⟨_, h, rfl, rfl⟩⟩
    all_goals (repeat' (first | exact trivial | exact Or.inl rfl | exact Or.inr rfl | refine And.intro ?_ ?_))
def vc18 (E : Env) (x1 : List (List C)) (x2 : List (Int × C)) (x3 : Int) (x4 : Int) (x5 : List (List C)) (Q0 : (List (Int × C)) → (Int) → Prop) (Q1 : (List (List C)) → (List (Int × C)) → Prop) : Prop :=
  Br false
  (Q0 (x2) (14))
  ((E.pok 13 [(false, [.int .i64])] [.agg [.c (.int .i64 x3), .c (.int .i64 x4), .c (.sl [.int .i64, .int .i64] x5)]]) ∧ (∀ r5 : Nat → C, r5 = E.res 13 [.agg [.c (.int .i64 x3), .c (.int .i64 x4), .c (.sl [.int .i64, .int .i64] x5)]] → 
    (Br (E.not (E.eq (E.gi (r5 0)) 0))
    (Q0 (x2) ((E.gi (r5 0))))
    ((E.pok 33 [(false, [.bool])] [.c (.sl [.int .i64, .int .i64, .sl [.int .i64, .int .i64]] x1), .fn 34 [.el [.int .i64, .int .i64, .sl [.int .i64, .int .i64]] [[.int .i64 x3, .int .i64 x4, .sl [.int .i64, .int .i64] x5]] 0 0]]) ∧ (∀ r6 : Nat → C, r6 = E.res 33 [.c (.sl [.int .i64, .int .i64, .sl [.int .i64, .int .i64]] x1), .fn 34 [.el [.int .i64, .int .i64, .sl [.int .i64, .int .i64]] [[.int .i64 x3, .int .i64 x4, .sl [.int .i64, .int .i64] x5]] 0 0]] → 
      (Br (E.gb (r6 0))
      (Q0 (x2) (6))
      ((Imp (E.lt 0 (E.len x1)) ((E.le 0 (E.sub .i64 (E.len x1) 1)) = true)) ∧ (Imp (E.lt 0 (E.len x1)) ((E.lt (E.sub .i64 (E.len x1) 1) (E.len x1)) = true)) ∧ 
        (Br (E.bite (E.lt 0 (E.len x1)) (E.lt x4 (E.gi (E.cell x1 (E.sub .i64 (E.len x1) 1) 1))) false)
        (Q0 (x2) (9))
        (spAdd (x1) (x2) (x3) (x4) (x5) (1) (fun (m7 : List (Int × C)) => 
          LoopP1 (fun (i8 : Int) (K9 : (Int) → Prop) =>
            Br (E.lt i8 (E.len x5))
              (((E.le 0 i8) = true) ∧ 
                (Br (E.bite (E.lt (E.gi (E.mlk m7 (E.gi (E.cell x5 i8 0)) (.int .i64 0))) (-1000000000000)) true (E.lt 1000000000000 (E.gi (E.mlk m7 (E.gi (E.cell x5 i8 0)) (.int .i64 0)))))
                (spBack (2) (x1) (m7) (x3) (x4) (x5) (fun (m10 : List (Int × C)) => 
                  Q0 (m10) (2)))
                (K9 ((E.add .i64 i8 1)))))
              (Br (E.le 512 (E.len x1))
                (spBack (8) (x1) (m7) (x3) (x4) (x5) (fun (m11 : List (Int × C)) => 
                  Q0 (m11) (8)))
                ((E.pok 37 [(true, [.int .i64, .int .i64, .sl [.int .i64, .int .i64]])] [.agg [.c (.int .i64 x3), .c (.int .i64 x4), .c (.sl [.int .i64, .int .i64] x5)]]) ∧ (∀ r12 : Nat → C, r12 = E.res 37 [.agg [.c (.int .i64 x3), .c (.int .i64 x4), .c (.sl [.int .i64, .int .i64] x5)]] → 
                  (((E.le (E.pl (E.len x1) (E.len [[.int .i64 (E.gi (r12 0)), .int .i64 (E.gi (r12 1)), .sl [.int .i64, .int .i64] (E.gl (r12 2))]])) 3518437208883) = true) ∧ 
                  (spBack (0) ((E.cat x1 [[.int .i64 (E.gi (r12 0)), .int .i64 (E.gi (r12 1)), .sl [.int .i64, .int .i64] (E.gl (r12 2))]])) (m7) (x3) (x4) (x5) (fun (m13 : List (Int × C)) => 
                  Q1 ((E.cat x1 [[.int .i64 (E.gi (r12 0)), .int .i64 (E.gi (r12 1)), .sl [.int .i64, .int .i64] (E.gl (r12 2))]])) (m13))))))))
            (0)))))))))))
theorem w18 {P : Program} {tbl : FuncId → List A → List C} {x1 : List (List C)} {x2 : List (Int × C)} {x3 : Int} {x4 : Int} {x5 : List (List C)} (ce35 : AddC P 35) (ce36 : BackC P 36) {Q0 : (List (Int × C)) → (Int) → Prop} {Q1 : (List (List C)) → (List (Int × C)) → Prop} (h : vc18 (stdE P tbl) x1 x2 x3 x4 x5 Q0 Q1) : WDg P tbl rf18 (fun r H' => (∃ m1 : List (Int × C), ∃ i2 : Int, Q0 m1 i2 ∧ r = .c (.int .i64 i2) ∧ H' = [.box 54 [.gr 1, .map 2], .arr 24 [.int .i64, .int .i64, .sl [.int .i64, .int .i64]] x1, .mp .i64 (.int .i64) m1]) ∨ (∃ l3 : List (List C), ∃ m4 : List (Int × C), Q1 l3 m4 ∧ r = .c (.int .i64 0) ∧ H' = [.box 54 [.gr 3, .map 2], .dead, .mp .i64 (.int .i64) m4, .arr 24 [.int .i64, .int .i64, .sl [.int .i64, .int .i64]] l3])) [.ptr 0 0, .agg [.c (.int .i64 x3), .c (.int .i64 x4), .c (.sl [.int .i64, .int .i64] x5)]] [.box 54 [.gr 1, .map 2], .arr 24 [.int .i64, .int .i64, .sl [.int .i64, .int .i64]] x1, .mp .i64 (.int .i64) x2] := by
  refine ⟨?_⟩
  revert h
  generalize hE : stdE P tbl = E
  intro h
  unfold vc18 at h
  cbv
  refine ⟨fun hb14 => ?_, fun hb14 => ?_⟩
  · replace h := h.t hb14
    refine ⟨_, _, GFin.of (GSt.ren [0, 1, 2] rfl rfl rfl (by decide) (Nat.le_add_left _ _) ?_ ?_), .inl (⟨_, _, h, rfl, rfl⟩)⟩
    all_goals (repeat' (first | exact trivial | exact Or.inl rfl | exact Or.inr rfl | refine And.intro ?_ ?_))
  · replace h := h.f hb14
    have c15 := h.1
    refine ⟨c15, ?_⟩
    replace h := h.2 _ rfl
    refine ⟨fun hb16 => ?_, fun hb16 => ?_⟩
    · replace h := h.t hb16
      refine ⟨_, _, GFin.of (GSt.ren [0, 1, 2] rfl rfl rfl (by decide) (Nat.le_add_left _ _) ?_ ?_), .inl (⟨_, _, h, rfl, rfl⟩)⟩
      all_goals (repeat' (first | exact trivial | exact Or.inl rfl | exact Or.inr rfl | refine And.intro ?_ ?_))
    · replace h := h.f hb16
      have c17 := h.1
      refine ⟨c17, ?_⟩
      replace h := h.2 _ rfl
      refine ⟨fun hb18 => ?_, fun hb18 => ?_⟩
      · replace h := h.t hb18
        refine ⟨_, _, GFin.of (GSt.ren [0, 1, 2] rfl rfl rfl (by decide) (Nat.le_add_left _ _) ?_ ?_), .inl (⟨_, _, h, rfl, rfl⟩)⟩
        all_goals (repeat' (first | exact trivial | exact Or.inl rfl | exact Or.inr rfl | refine And.intro ?_ ?_))
      · replace h := h.f hb18
        refine ⟨⟨fun hh => hh⟩, ?_⟩
        refine ⟨⟨fun hh => hh⟩, ?_⟩
        refine ⟨⟨fun hh => hh⟩, ?_⟩
        refine ⟨⟨fun hh => hh⟩, ?_⟩
        refine ⟨⟨fun hh => hh⟩, ?_⟩
        refine ⟨⟨fun hh => hh⟩, ?_⟩
        refine ⟨⟨fun hh => hh⟩, ?_⟩
        have c19 := h.1
        refine ⟨c19, ?_⟩
        replace h := h.2
        have c20 := h.1
        refine ⟨c20, ?_⟩
        replace h := h.2
        refine ⟨⟨fun hh => hh⟩, ?_⟩
        refine ⟨⟨fun hh => hh⟩, ?_⟩
        refine ⟨⟨fun hh => hh⟩, ?_⟩
        refine ⟨⟨fun hh => hh⟩, ?_⟩
        refine ⟨⟨fun hh => hh⟩, ?_⟩
        refine ⟨fun hb21 => ?_, fun hb21 => ?_⟩
        · replace h := h.t hb21
          refine ⟨_, _, GFin.of (GSt.ren [0, 1, 2] rfl rfl rfl (by decide) (Nat.le_add_left _ _) ?_ ?_), .inl (⟨_, _, h, rfl, rfl⟩)⟩
          all_goals (repeat' (first | exact trivial | exact Or.inl rfl | exact Or.inr rfl | refine And.intro ?_ ?_))
        · replace h := h.f hb21
          refine HCall.mk ce35.1 ((ACalls.frame (ce35.2 _ _ _ _ _ _ _ h) (H := _) (tgt := [0, 1, 2]) rfl (by decide) ?_).mono fun r H' hq => ?_)
          · intro i o ho
            match i, ho with
            | 0, ho => cases ho; rfl
            | 1, ho => cases ho; rfl
            | 2, ho => cases ho; rfl
          obtain ⟨r1, H1', ⟨m7, h, rfl, rfl⟩, _, rfl, rfl⟩ := hq
          cbv
          obtain ⟨I, μ, h0, hI⟩ := h
          refine LoopW.inv (fun R R' s h k => RCode.wp_mono _ R R' s h k) (fun p : Int => (fun (i8 : Int) => (⟨[.u, .u, .ptr 3 0, .ptr 4 0, .ptr 5 0, .u, .u, .u, .u, .u, .u, .u, .u, .u, .u, .u, .u, .u, .u, .u, .u, .u, .u, .u, .u, .u, .u, .u, .u, .u, .u, .u, .u, .u, .u, .u, .u, .u, .u, .u, .u, .u, .u, .u, .u, .u, .u, .u, .u, .c (.sl [.int .i64, .int .i64] x5), .c (.int .i64 (E.len x5)), .c (.int .i64 i8), .u, .u, .u, .u, .u, .u, .u, .u, .u, .u, .u, .u, .u, .u, .u, .u, .u, .u, .u, .u, .u, .u, .u, .u, .u, .u, .u, .u, .u, .u, .u, .u, .u, .u], [.box 54 [.gr 1, .map 2], .arr 24 [.int .i64, .int .i64, .sl [.int .i64, .int .i64]] x1, .mp .i64 (.int .i64) m7, .box 30 [.ptr 0 0], .box 24 [.c (.int .i64 x3), .c (.int .i64 x4), .c (.sl [.int .i64, .int .i64] x5)], .box 26 [.c (.int .i64 0)]]⟩ : St)) p) (fun p => I p) (fun p => μ p) _ h0 ?_ ?_
          · refine GSt.ren [0, 1, 2, 3, 4, 5] rfl rfl rfl (by decide) (Nat.le_add_left _ _) ?_ ?_
            all_goals (repeat' (first | exact trivial | exact Or.inl rfl | exact Or.inr rfl | refine And.intro ?_ ?_))
          · rintro i8 h
            replace h := hI i8 h
            cbv
            refine ⟨fun hb22 => ?_, fun hb22 => ?_⟩
            · replace h := h.t hb22
              have c23 := h.1
              refine ⟨c23, ?_⟩
              replace h := h.2
              refine ⟨hb22, ?_⟩
              refine ⟨⟨fun hh => hh⟩, ?_⟩
              refine ⟨⟨fun hh => hh⟩, ?_⟩
              refine ⟨fun hb24 => ?_, fun hb24 => ?_⟩
              · replace h := h.t hb24
                refine HCallD.frame ce36.1 (ce36.2 _ _ _ _ _ _ _ h) (H := _) (tgt := [5, 3, 0, 1, 2, 4]) rfl (by decide) ?_ (fun r H' hq => ?_)
                · intro i o ho
                  match i, ho with
                  | 0, ho => cases ho; rfl
                  | 1, ho => cases ho; rfl
                  | 2, ho => cases ho; rfl
                  | 3, ho => cases ho; rfl
                  | 4, ho => cases ho; rfl
                  | 5, ho => cases ho; rfl
                obtain ⟨r1, H1', ⟨m10, h, rfl, rfl⟩, _, rfl, rfl⟩ := hq
                cbv
                refine ⟨_, _, GFin.of (GSt.ren [0, 1, 2] rfl rfl rfl (by decide) (Nat.le_add_left _ _) ?_ ?_), .inl (⟨_, _, h, rfl, rfl⟩)⟩
                all_goals (repeat' (first | exact trivial | exact Or.inl rfl | exact Or.inr rfl | refine And.intro ?_ ?_))
              · replace h := h.f hb24
                refine ⟨_, h.1, GSt.ren [0, 1, 2, 3, 4, 5] rfl rfl rfl (by decide) (Nat.le_add_left _ _) ?_ ?_, h.2⟩
                all_goals (repeat' (first | exact trivial | exact Or.inl rfl | exact Or.inr rfl | refine And.intro ?_ ?_))
            · replace h := h.f hb22
              refine ⟨fun hb25 => ?_, fun hb25 => ?_⟩
              · replace h := h.t hb25
                refine HCallD.frame ce36.1 (ce36.2 _ _ _ _ _ _ _ h) (H := _) (tgt := [5, 3, 0, 1, 2, 4]) rfl (by decide) ?_ (fun r H' hq => ?_)
                · intro i o ho
                  match i, ho with
                  | 0, ho => cases ho; rfl
                  | 1, ho => cases ho; rfl
                  | 2, ho => cases ho; rfl
                  | 3, ho => cases ho; rfl
                  | 4, ho => cases ho; rfl
                  | 5, ho => cases ho; rfl
                obtain ⟨r1, H1', ⟨m11, h, rfl, rfl⟩, _, rfl, rfl⟩ := hq
                cbv
                refine ⟨_, _, GFin.of (GSt.ren [0, 1, 2] rfl rfl rfl (by decide) (Nat.le_add_left _ _) ?_ ?_), .inl (⟨_, _, h, rfl, rfl⟩)⟩
                all_goals (repeat' (first | exact trivial | exact Or.inl rfl | exact Or.inr rfl | refine And.intro ?_ ?_))
              · replace h := h.f hb25
                have c26 := h.1
                refine ⟨c26, ?_⟩
                replace h := h.2 _ rfl
                have c27 := h.1
                refine ⟨c27, ?_⟩
                replace h := h.2
                refine HCallD.frame ce36.1 (ce36.2 _ _ _ _ _ _ _ h) (H := _) (tgt := [5, 3, 0, 7, 2, 4]) rfl (by decide) ?_ (fun r H' hq => ?_)
                · intro i o ho
                  match i, ho with
                  | 0, ho => cases ho; rfl
                  | 1, ho => cases ho; rfl
                  | 2, ho => cases ho; rfl
                  | 3, ho => cases ho; rfl
                  | 4, ho => cases ho; rfl
                  | 5, ho => cases ho; rfl
                obtain ⟨r1, H1', ⟨m13, h, rfl, rfl⟩, _, rfl, rfl⟩ := hq
                cbv
                refine ⟨_, _, GFin.of (GSt.ren [0, 1, 2, 7] rfl rfl rfl (by decide) (Nat.le_add_left _ _) ?_ ?_), .inr ((⟨_, _, h, rfl, rfl⟩))⟩
                all_goals (repeat' (first | exact trivial | exact Or.inl rfl | exact Or.inr rfl | refine And.intro ?_ ?_))
def vc18N (E : Env) (x3 : Int) (x4 : Int) (x5 : List (List C)) (Q0 : Prop) : Prop :=
  (true = true) ∧ 
  (Q0 )
theorem w18N {P : Program} {tbl : FuncId → List A → List C} {x3 : Int} {x4 : Int} {x5 : List (List C)}  {Q0 : Prop} (h : vc18N (stdE P tbl) x3 x4 x5 Q0) : WDg P tbl rf18 (fun r H' => (Q0  ∧ r = .c (.int .i64 14) ∧ H' = [])) [.np, .agg [.c (.int .i64 x3), .c (.int .i64 x4), .c (.sl [.int .i64, .int .i64] x5)]] [] := by
  refine ⟨?_⟩
  revert h
  generalize hE : stdE P tbl = E
  intro h
  unfold vc18N at h
  cbv
  have hb1 := h.1
  refine ⟨fun _ => ?_, fun hb => absurd (hb.symm.trans hb1) Bool.false_ne_true⟩
  replace h := h.2
  refine ⟨_, _, GFin.of (GSt.ren [] rfl rfl rfl (fun i hi => absurd hi (Nat.not_lt_zero i)) (Nat.zero_le _) ?_ ?_), ⟨h, rfl, rfl⟩⟩
  all_goals (repeat' (first | exact trivial | exact Or.inl rfl | exact Or.inr rfl | refine And.intro ?_ ?_))
def vc19 (E : Env) (x1 : List (List C)) (x3 : Int) (x4 : Int) (x5 : List (List C)) (Q0 : (List (List C)) → (Int) → Prop) : Prop :=
  Br false
  (Q0 (x1) (14))
  (((E.le (E.pl (E.len []) (E.len x5)) 8796093022208) = true) ∧ 
    ((E.pok 38 [(false, [.sl [.int .i64, .int .i64, .sl [.int .i64, .int .i64]]]), (false, [.int .i64])] [.c (.sl [.int .i64, .int .i64, .sl [.int .i64, .int .i64]] x1), .agg [.c (.int .i64 x3), .c (.int .i64 x4), .c (.sl [.int .i64, .int .i64] (E.cat [] x5))]]) ∧ (∀ r3 : Nat → C, r3 = E.res 38 [.c (.sl [.int .i64, .int .i64, .sl [.int .i64, .int .i64]] x1), .agg [.c (.int .i64 x3), .c (.int .i64 x4), .c (.sl [.int .i64, .int .i64] (E.cat [] x5))]] → 
    (Q0 ((E.gl (r3 0))) ((E.gi (r3 1)))))))
theorem w19 {P : Program} {tbl : FuncId → List A → List C} {x1 : List (List C)} {x3 : Int} {x4 : Int} {x5 : List (List C)}  {Q0 : (List (List C)) → (Int) → Prop} (h : vc19 (stdE P tbl) x1 x3 x4 x5 Q0) : WEg P tbl rf19 (fun r H' => (∃ l1 : List (List C), ∃ i2 : Int, Q0 l1 i2 ∧ r = .c (.int .i64 i2) ∧ H' = [.box 56 [.c (.sl [.int .i64, .int .i64, .sl [.int .i64, .int .i64]] l1)]])) [.ptr 0 0, .agg [.c (.int .i64 x3), .c (.int .i64 x4), .c (.sl [.int .i64, .int .i64] x5)]] [.box 56 [.c (.sl [.int .i64, .int .i64, .sl [.int .i64, .int .i64]] x1)]] := by
  refine ⟨?_⟩
  revert h
  generalize hE : stdE P tbl = E
  intro h
  unfold vc19 at h
  cbv
  refine ⟨fun hb4 => ?_, fun hb4 => ?_⟩
  · replace h := h.t hb4
    refine ⟨_, _, GFin.of (GSt.ren [0] rfl rfl rfl (by decide) (Nat.le_add_left _ _) ?_ ?_), ⟨_, _, h, rfl, rfl⟩⟩
    all_goals (repeat' (first | exact trivial | exact Or.inl rfl | exact Or.inr rfl | refine And.intro ?_ ?_))
  · replace h := h.f hb4
    have c5 := h.1
    refine ⟨c5, ?_⟩
    replace h := h.2
    have c6 := h.1
    refine ⟨c6, ?_⟩
    replace h := h.2 _ rfl
    refine ⟨_, _, GFin.of (GSt.ren [0] rfl rfl rfl (by decide) (Nat.le_add_left _ _) ?_ ?_), ⟨_, _, h, rfl, rfl⟩⟩
    all_goals (repeat' (first | exact trivial | exact Or.inl rfl | exact Or.inr rfl | refine And.intro ?_ ?_))
def vc38 (E : Env) (x1 : List (List C)) (x2 : Int) (x3 : Int) (x4 : List (List C)) (Q : List C → Prop) : Prop :=
  (E.pok 14 [(false, [.int .i64])] [.agg [.c (.int .i64 x2), .c (.int .i64 x3), .c (.sl [.int .i64, .int .i64] x4)]]) ∧ (∀ r5 : Nat → C, r5 = E.res 14 [.agg [.c (.int .i64 x2), .c (.int .i64 x3), .c (.sl [.int .i64, .int .i64] x4)]] → 
  (Br (E.not (E.eq (E.gi (r5 0)) 0))
  (Q [.sl [.int .i64, .int .i64, .sl [.int .i64, .int .i64]] x1, .int .i64 (E.gi (r5 0))])
  (LoopP1 (fun (i6 : Int) (K7 : (Int) → Prop) =>
    Br (E.lt i6 (E.len x1))
      (((E.le 0 i6) = true) ∧ 
        (Br (E.eq (E.gi (E.cell x1 i6 0)) x2)
        (Q [.sl [.int .i64, .int .i64, .sl [.int .i64, .int .i64]] x1, .int .i64 6])
        (K7 ((E.add .i64 i6 1)))))
      ((Imp (E.lt 0 (E.len x1)) ((E.le 0 (E.sub .i64 (E.len x1) 1)) = true)) ∧ (Imp (E.lt 0 (E.len x1)) ((E.lt (E.sub .i64 (E.len x1) 1) (E.len x1)) = true)) ∧ 
        (Br (E.bite (E.lt 0 (E.len x1)) (E.lt x3 (E.gi (E.cell x1 (E.sub .i64 (E.len x1) 1) 1))) false)
        (Q [.sl [.int .i64, .int .i64, .sl [.int .i64, .int .i64]] x1, .int .i64 9])
        (((E.le (E.pl (E.len []) (E.len x1)) 3518437208883) = true) ∧ 
          (((E.le (E.pl (E.len (E.cat [] x1)) (E.len [[.int .i64 x2, .int .i64 x3, .sl [.int .i64, .int .i64] x4]])) 3518437208883) = true) ∧ 
          (LoopP1 (fun (i8 : Int) (K9 : (Int) → Prop) =>
          Br (E.lt i8 (E.len x4))
            (((E.le 0 i8) = true) ∧ 
              ((E.pok 42 [(false, [.int .i64])] [.c (.sl [.int .i64, .int .i64, .sl [.int .i64, .int .i64]] (E.cat (E.cat [] x1) [[.int .i64 x2, .int .i64 x3, .sl [.int .i64, .int .i64] x4]])), .c (.int .i64 (E.gi (E.cell x4 i8 0)))]) ∧ (∀ r10 : Nat → C, r10 = E.res 42 [.c (.sl [.int .i64, .int .i64, .sl [.int .i64, .int .i64]] (E.cat (E.cat [] x1) [[.int .i64 x2, .int .i64 x3, .sl [.int .i64, .int .i64] x4]])), .c (.int .i64 (E.gi (E.cell x4 i8 0)))] → 
              (Br (E.bite (E.lt (E.gi (r10 0)) (-1000000000000)) true (E.lt 1000000000000 (E.gi (r10 0))))
              (Q [.sl [.int .i64, .int .i64, .sl [.int .i64, .int .i64]] x1, .int .i64 2])
              (K9 ((E.add .i64 i8 1)))))))
            (Br (E.le 512 (E.len x1))
              (Q [.sl [.int .i64, .int .i64, .sl [.int .i64, .int .i64]] x1, .int .i64 8])
              (Q [.sl [.int .i64, .int .i64, .sl [.int .i64, .int .i64]] (E.cat (E.cat [] x1) [[.int .i64 x2, .int .i64 x3, .sl [.int .i64, .int .i64] x4]]), .int .i64 0])))
          (0)))))))
    (0))))
theorem w38 {P : Program} {tbl : FuncId → List A → List C}  {x1 : List (List C)} {x2 : Int} {x3 : Int} {x4 : List (List C)} {row : List C} (h : vc38 (stdE P tbl) x1 x2 x3 x4 fun c => c = row) : WPg P tbl rf38 [(false, [.sl [.int .i64, .int .i64, .sl [.int .i64, .int .i64]]]), (false, [.int .i64])] row [.c (.sl [.int .i64, .int .i64, .sl [.int .i64, .int .i64]] x1), .agg [.c (.int .i64 x2), .c (.int .i64 x3), .c (.sl [.int .i64, .int .i64] x4)]] := by
  refine ⟨?_⟩
  revert h
  generalize hE : stdE P tbl = E
  intro h
  unfold vc38 at h
  cbv
  have c11 := h.1
  refine ⟨c11, ?_⟩
  replace h := h.2 _ rfl
  refine ⟨fun hb12 => ?_, fun hb12 => ?_⟩
  · replace h := h.t hb12
    have h : _ = row := h
    subst h
    repeat' (first | exact trivial | exact rfl | refine And.intro ?_ ?_)
  · replace h := h.f hb12
    obtain ⟨I, μ, h0, hI⟩ := h
    refine LoopW.inv (fun R R' s h k => RCode.wp_mono _ R R' s h k) (fun p : Int => (fun (i6 : Int) => (⟨[.c (.sl [.int .i64, .int .i64, .sl [.int .i64, .int .i64]] x1), .u, .u, .ptr 0 0, .u, .u, .u, .c (.int .i64 i6), .u, .u, .u, .u, .u, .u, .u, .u, .u, .u, .u, .u, .u, .u, .u, .u, .u, .u, .u, .u, .u, .u, .u, .u, .u, .u, .u, .u, .u, .u, .u, .u, .u, .u, .u, .u, .u, .u, .u, .u, .u, .u, .u, .u, .u, .u, .u, .u, .u, .u, .u, .u, .u, .u, .u, .u, .u, .u, .u, .u, .u, .u, .u, .u, .u, .u, .u, .u, .u, .u, .u, .u, .u], [.box 24 [.c (.int .i64 x2), .c (.int .i64 x3), .c (.sl [.int .i64, .int .i64] x4)]]⟩ : St)) p) (fun p => I p) (fun p => μ p) _ h0 ?_ ?_
    · refine GSt.ren [0] rfl rfl rfl (fun i hi => absurd hi (Nat.not_lt_zero i)) (Nat.zero_le _) ?_ ?_
      all_goals (repeat' (first | exact trivial | exact Or.inl rfl | exact Or.inr rfl | refine And.intro ?_ ?_))
    · rintro i6 h
      replace h := hI i6 h
      cbv
      refine ⟨fun hb13 => ?_, fun hb13 => ?_⟩
      · replace h := h.t hb13
        have c14 := h.1
        refine ⟨c14, ?_⟩
        replace h := h.2
        refine ⟨hb13, ?_⟩
        refine ⟨fun hb15 => ?_, fun hb15 => ?_⟩
        · replace h := h.t hb15
          have h : _ = row := h
          subst h
          repeat' (first | exact trivial | exact rfl | refine And.intro ?_ ?_)
        · replace h := h.f hb15
          refine ⟨_, h.1, GSt.ren [0] rfl rfl rfl (fun i hi => absurd hi (Nat.not_lt_zero i)) (Nat.zero_le _) ?_ ?_, h.2⟩
          all_goals (repeat' (first | exact trivial | exact Or.inl rfl | exact Or.inr rfl | refine And.intro ?_ ?_))
      · replace h := h.f hb13
        refine ⟨⟨fun hh => hh⟩, ?_⟩
        refine ⟨⟨fun hh => hh⟩, ?_⟩
        refine ⟨⟨fun hh => hh⟩, ?_⟩
        refine ⟨⟨fun hh => hh⟩, ?_⟩
        refine ⟨⟨fun hh => hh⟩, ?_⟩
        have c16 := h.1
        refine ⟨c16, ?_⟩
        replace h := h.2
        have c17 := h.1
        refine ⟨c17, ?_⟩
        replace h := h.2
        refine ⟨⟨fun hh => hh⟩, ?_⟩
        refine ⟨⟨fun hh => hh⟩, ?_⟩
        refine ⟨⟨fun hh => hh⟩, ?_⟩
        refine ⟨⟨fun hh => hh⟩, ?_⟩
        refine ⟨⟨fun hh => hh⟩, ?_⟩
        refine ⟨fun hb18 => ?_, fun hb18 => ?_⟩
        · replace h := h.t hb18
          have h : _ = row := h
          subst h
          repeat' (first | exact trivial | exact rfl | refine And.intro ?_ ?_)
        · replace h := h.f hb18
          have c19 := h.1
          refine ⟨c19, ?_⟩
          replace h := h.2
          have c20 := h.1
          refine ⟨c20, ?_⟩
          replace h := h.2
          obtain ⟨I, μ, h0, hI⟩ := h
          refine LoopW.inv (fun R R' s h k => RCode.wp_mono _ R R' s h k) (fun p : Int => (fun (i8 : Int) => (⟨[.c (.sl [.int .i64, .int .i64, .sl [.int .i64, .int .i64]] x1), .u, .u, .ptr 0 0, .u, .u, .u, .u, .gr 1, .c (.int .i64 i8), .u, .u, .u, .u, .u, .u, .u, .u, .u, .u, .u, .u, .u, .u, .u, .u, .u, .u, .u, .u, .u, .u, .u, .u, .u, .u, .u, .u, .u, .u, .u, .u, .u, .u, .u, .u, .u, .u, .u, .u, .u, .u, .u, .u, .u, .u, .u, .u, .u, .u, .u, .u, .u, .u, .u, .u, .u, .u, .u, .u, .u, .u, .u, .u, .u, .u, .u, .u, .u, .u, .u], [.box 24 [.c (.int .i64 x2), .c (.int .i64 x3), .c (.sl [.int .i64, .int .i64] x4)], .arr 24 [.int .i64, .int .i64, .sl [.int .i64, .int .i64]] (E.cat (E.cat [] x1) [[.int .i64 x2, .int .i64 x3, .sl [.int .i64, .int .i64] x4]])]⟩ : St)) p) (fun p => I p) (fun p => μ p) _ h0 ?_ ?_
          · refine GSt.ren [0, 4] rfl rfl rfl (fun i hi => absurd hi (Nat.not_lt_zero i)) (Nat.zero_le _) ?_ ?_
            all_goals (repeat' (first | exact trivial | exact Or.inl rfl | exact Or.inr rfl | refine And.intro ?_ ?_))
          · rintro i8 h
            replace h := hI i8 h
            cbv
            refine ⟨fun hb21 => ?_, fun hb21 => ?_⟩
            · replace h := h.t hb21
              have c22 := h.1
              refine ⟨c22, ?_⟩
              replace h := h.2
              refine ⟨hb21, ?_⟩
              have c23 := h.1
              refine ⟨c23, ?_⟩
              replace h := h.2 _ rfl
              refine ⟨⟨fun hh => hh⟩, ?_⟩
              refine ⟨⟨fun hh => hh⟩, ?_⟩
              refine ⟨fun hb24 => ?_, fun hb24 => ?_⟩
              · replace h := h.t hb24
                have h : _ = row := h
                subst h
                repeat' (first | exact trivial | exact rfl | refine And.intro ?_ ?_)
              · replace h := h.f hb24
                refine ⟨_, h.1, GSt.ren [0, 1] rfl rfl rfl (fun i hi => absurd hi (Nat.not_lt_zero i)) (Nat.zero_le _) ?_ ?_, h.2⟩
                all_goals (repeat' (first | exact trivial | exact Or.inl rfl | exact Or.inr rfl | refine And.intro ?_ ?_))
            · replace h := h.f hb21
              refine ⟨fun hb25 => ?_, fun hb25 => ?_⟩
              · replace h := h.t hb25
                have h : _ = row := h
                subst h
                repeat' (first | exact trivial | exact rfl | refine And.intro ?_ ?_)
              · replace h := h.f hb25
                have h : _ = row := h
                subst h
                repeat' (first | exact trivial | exact rfl | refine And.intro ?_ ?_)
def vc42 (E : Env) (x1 : List (List C)) (x2 : Int) (Q : List C → Prop) : Prop :=
  (E.pok 43 [(false, [.int .i64])] [.c (.sl [.int .i64, .int .i64, .sl [.int .i64, .int .i64]] x1), .c (.int .i64 x2), .c (.int .i64 2147483647)]) ∧ (∀ r3 : Nat → C, r3 = E.res 43 [.c (.sl [.int .i64, .int .i64, .sl [.int .i64, .int .i64]] x1), .c (.int .i64 x2), .c (.int .i64 2147483647)] → 
  (Q [.int .i64 (E.gi (r3 0))]))
theorem w42 {P : Program} {tbl : FuncId → List A → List C}  {x1 : List (List C)} {x2 : Int} {row : List C} (h : vc42 (stdE P tbl) x1 x2 fun c => c = row) : WPg P tbl rf42 [(false, [.int .i64])] row [.c (.sl [.int .i64, .int .i64, .sl [.int .i64, .int .i64]] x1), .c (.int .i64 x2)] := by
  refine ⟨?_⟩
  revert h
  generalize hE : stdE P tbl = E
  intro h
  unfold vc42 at h
  cbv
  have c4 := h.1
  refine ⟨c4, ?_⟩
  replace h := h.2 _ rfl
  have h : _ = row := h
  subst h
  repeat' (first | exact trivial | exact rfl | refine And.intro ?_ ?_)
def vc43 (E : Env) (x1 : List (List C)) (x2 : Int) (x3 : Int) (Q : List C → Prop) : Prop :=
  LoopP2 (fun (i4 : Int) (i5 : Int) (K6 : (Int) → (Int) → Prop) =>
  Br (E.lt i5 (E.len x1))
    (LoopP2 (fun (i7 : Int) (i8 : Int) (K9 : (Int) → (Int) → Prop) =>
      ((E.le 0 i5) = true) ∧ 
        (Br (E.lt i8 (E.len (E.gl (E.cell x1 i5 2))))
        ((Imp (E.le (E.gi (E.cell x1 i5 1)) x3) ((E.le 0 i8) = true)) ∧ 
          (Br (E.bite (E.le (E.gi (E.cell x1 i5 1)) x3) (E.eq (E.gi (E.cell (E.gl (E.cell x1 i5 2)) i8 0)) x2) false)
          (((E.le 0 i8) = true) ∧ 
            (K9 ((E.add .i64 i7 (E.gi (E.cell (E.gl (E.cell x1 i5 2)) i8 1)))) ((E.add .i64 i8 1))))
          (K9 (i7) ((E.add .i64 i8 1)))))
        (K6 (i7) ((E.add .i64 i5 1)))))
      (i4) (0))
    (Q [.int .i64 i4]))
  (0) (0)
theorem w43 {P : Program} {tbl : FuncId → List A → List C}  {x1 : List (List C)} {x2 : Int} {x3 : Int} {row : List C} (h : vc43 (stdE P tbl) x1 x2 x3 fun c => c = row) : WPg P tbl rf43 [(false, [.int .i64])] row [.c (.sl [.int .i64, .int .i64, .sl [.int .i64, .int .i64]] x1), .c (.int .i64 x2), .c (.int .i64 x3)] := by
  refine ⟨?_⟩
  revert h
  generalize hE : stdE P tbl = E
  intro h
  unfold vc43 at h
  cbv
  obtain ⟨I, μ, h0, hI⟩ := h
  refine LoopW.inv (fun R R' s h k => RCode.wp_mono _ R R' s h k) (fun p : Int × Int => (fun (i4 : Int) (i5 : Int) => (⟨[.c (.sl [.int .i64, .int .i64, .sl [.int .i64, .int .i64]] x1), .c (.int .i64 x2), .c (.int .i64 x3), .u, .u, .u, .u, .c (.int .i64 i4), .c (.int .i64 i5), .u, .u, .u, .u, .u, .u, .u, .u, .u, .u, .u, .u, .u, .u, .u, .u, .u, .u, .u, .u, .u, .u, .u, .u, .u, .u, .u, .u, .u, .u, .u, .u, .u, .u, .u, .u, .u, .u, .u, .u, .u, .u, .u, .u, .u, .u, .u, .u, .u], []⟩ : St)) p.1 p.2) (fun p => I p.1 p.2) (fun p => μ p.1 p.2) (_, _) h0 ?_ ?_
  · refine GSt.ren [] rfl rfl rfl (fun i hi => absurd hi (Nat.not_lt_zero i)) (Nat.zero_le _) ?_ ?_
    all_goals (repeat' (first | exact trivial | exact Or.inl rfl | exact Or.inr rfl | refine And.intro ?_ ?_))
  · rintro ⟨i4, i5⟩ h
    replace h := hI i4 i5 h
    cbv
    refine ⟨fun hb10 => ?_, fun hb10 => ?_⟩
    · replace h := h.t hb10
      obtain ⟨I, μ, h0, hI⟩ := h
      refine LoopW.inv (fun R R' s h k => RCode.wp_mono _ R R' s h k) (fun p : Int × Int => (fun (i7 : Int) (i8 : Int) => (⟨[.c (.sl [.int .i64, .int .i64, .sl [.int .i64, .int .i64]] x1), .c (.int .i64 x2), .c (.int .i64 x3), .u, .u, .u, .u, .c (.int .i64 i7), .c (.int .i64 i5), .c (.int .i64 i8), .u, .u, .u, .u, .u, .u, .u, .u, .u, .u, .u, .u, .u, .u, .u, .u, .u, .u, .u, .u, .u, .u, .u, .u, .u, .u, .u, .u, .u, .u, .u, .u, .u, .u, .u, .u, .u, .u, .u, .u, .u, .u, .u, .u, .u, .u, .u, .u], []⟩ : St)) p.1 p.2) (fun p => I p.1 p.2) (fun p => μ p.1 p.2) (_, _) h0 ?_ ?_
      · refine GSt.ren [] rfl rfl rfl (fun i hi => absurd hi (Nat.not_lt_zero i)) (Nat.zero_le _) ?_ ?_
        all_goals (repeat' (first | exact trivial | exact Or.inl rfl | exact Or.inr rfl | refine And.intro ?_ ?_))
      · rintro ⟨i7, i8⟩ h
        replace h := hI i7 i8 h
        cbv
        have c11 := h.1
        refine ⟨c11, ?_⟩
        replace h := h.2
        refine ⟨hb10, ?_⟩
        refine ⟨fun hb12 => ?_, fun hb12 => ?_⟩
        · replace h := h.t hb12
          refine ⟨c11, ?_⟩
          refine ⟨hb10, ?_⟩
          refine ⟨⟨fun hh => hh⟩, ?_⟩
          refine ⟨⟨fun hh => hh⟩, ?_⟩
          refine ⟨⟨fun _ => c11⟩, ?_⟩
          refine ⟨⟨fun _ => hb10⟩, ?_⟩
          refine ⟨⟨fun hh => hh⟩, ?_⟩
          refine ⟨⟨fun hh => hh⟩, ?_⟩
          refine ⟨⟨fun hh => hh⟩, ?_⟩
          refine ⟨⟨fun hh => hh⟩, ?_⟩
          have c13 := h.1
          refine ⟨c13, ?_⟩
          replace h := h.2
          refine ⟨⟨fun _ => hb12⟩, ?_⟩
          refine ⟨⟨fun hh => hh⟩, ?_⟩
          refine ⟨⟨fun hh => hh⟩, ?_⟩
          refine ⟨⟨fun hh => hh⟩, ?_⟩
          refine ⟨⟨fun hh => hh⟩, ?_⟩
          refine ⟨⟨fun hh => hh⟩, ?_⟩
          refine ⟨fun hb14 => ?_, fun hb14 => ?_⟩
          · replace h := h.t hb14
            refine ⟨c11, ?_⟩
            refine ⟨hb10, ?_⟩
            have c15 := h.1
            refine ⟨c15, ?_⟩
            replace h := h.2
            refine ⟨hb12, ?_⟩
            refine ⟨(_, _), h.1, GSt.ren [] rfl rfl rfl (fun i hi => absurd hi (Nat.not_lt_zero i)) (Nat.zero_le _) ?_ ?_, h.2⟩
            all_goals (repeat' (first | exact trivial | exact Or.inl rfl | exact Or.inr rfl | refine And.intro ?_ ?_))
          · replace h := h.f hb14
            refine ⟨(_, _), h.1, GSt.ren [] rfl rfl rfl (fun i hi => absurd hi (Nat.not_lt_zero i)) (Nat.zero_le _) ?_ ?_, h.2⟩
            all_goals (repeat' (first | exact trivial | exact Or.inl rfl | exact Or.inr rfl | refine And.intro ?_ ?_))
        · replace h := h.f hb12
          refine ⟨(_, _), h.1, GSt.ren [] rfl rfl rfl (fun i hi => absurd hi (Nat.not_lt_zero i)) (Nat.zero_le _) ?_ ?_, h.2⟩
          all_goals (repeat' (first | exact trivial | exact Or.inl rfl | exact Or.inr rfl | refine And.intro ?_ ?_))
    · replace h := h.f hb10
      have h : _ = row := h
      subst h
      repeat' (first | exact trivial | exact rfl | refine And.intro ?_ ?_)
def vc44 (E : Env) (x1 : List (List C)) (x3 : Int) (x4 : Int) (x5 : List (List C)) (Q : List C → Prop) : Prop :=
  LoopP1 (fun (i1 : Int) (K2 : (Int) → Prop) =>
  Br (E.lt i1 (E.len x1))
    (((E.le 0 i1) = true) ∧ 
      ((E.pok 34 [(false, [.bool])] [.agg [.c (.int .i64 (E.gi (E.cell x1 i1 0))), .c (.int .i64 (E.gi (E.cell x1 i1 1))), .c (.sl [.int .i64, .int .i64] (E.gl (E.cell x1 i1 2)))], .el [.int .i64, .int .i64, .sl [.int .i64, .int .i64]] [[.int .i64 x3, .int .i64 x4, .sl [.int .i64, .int .i64] x5]] 0 0]) ∧ (∀ r3 : Nat → C, r3 = E.res 34 [.agg [.c (.int .i64 (E.gi (E.cell x1 i1 0))), .c (.int .i64 (E.gi (E.cell x1 i1 1))), .c (.sl [.int .i64, .int .i64] (E.gl (E.cell x1 i1 2)))], .el [.int .i64, .int .i64, .sl [.int .i64, .int .i64]] [[.int .i64 x3, .int .i64 x4, .sl [.int .i64, .int .i64] x5]] 0 0] → 
      (Br (E.gb (r3 0))
      (Q [.int .i64 i1])
      (K2 ((E.add .i64 i1 1)))))))
    (Q [.int .i64 (-1)]))
  (0)
theorem w44 {P : Program} {tbl : FuncId → List A → List C}  {x1 : List (List C)} {x3 : Int} {x4 : Int} {x5 : List (List C)} {row : List C} (h : vc44 (stdE P tbl) x1 x3 x4 x5 fun c => c = row) : WPg P tbl rf44 [(false, [.int .i64])] row [.c (.sl [.int .i64, .int .i64, .sl [.int .i64, .int .i64]] x1), .fn 34 [.el [.int .i64, .int .i64, .sl [.int .i64, .int .i64]] [[.int .i64 x3, .int .i64 x4, .sl [.int .i64, .int .i64] x5]] 0 0]] := by
  refine ⟨?_⟩
  revert h
  generalize hE : stdE P tbl = E
  intro h
  unfold vc44 at h
  cbv
  obtain ⟨I, μ, h0, hI⟩ := h
  refine LoopW.inv (fun R R' s h k => RCode.wp_mono _ R R' s h k) (fun p : Int => (fun (i1 : Int) => (⟨[.c (.sl [.int .i64, .int .i64, .sl [.int .i64, .int .i64]] x1), .fn 34 [.el [.int .i64, .int .i64, .sl [.int .i64, .int .i64]] [[.int .i64 x3, .int .i64 x4, .sl [.int .i64, .int .i64] x5]] 0 0], .u, .u, .u, .u, .u, .c (.int .i64 (E.len x1)), .c (.int .i64 i1), .u, .u, .u, .u, .u, .u, .u, .u, .u, .u], []⟩ : St)) p) (fun p => I p) (fun p => μ p) _ h0 ?_ ?_
  · refine GSt.ren [] rfl rfl rfl (fun i hi => absurd hi (Nat.not_lt_zero i)) (Nat.zero_le _) ?_ ?_
    all_goals (repeat' (first | exact trivial | exact Or.inl rfl | exact Or.inr rfl | refine And.intro ?_ ?_))
  · rintro i1 h
    replace h := hI i1 h
    cbv
    refine ⟨fun hb4 => ?_, fun hb4 => ?_⟩
    · replace h := h.t hb4
      have c5 := h.1
      refine ⟨c5, ?_⟩
      replace h := h.2
      refine ⟨hb4, ?_⟩
      have c6 := h.1
      refine ⟨c6, ?_⟩
      replace h := h.2 _ rfl
      refine ⟨fun hb7 => ?_, fun hb7 => ?_⟩
      · replace h := h.t hb7
        have h : _ = row := h
        subst h
        repeat' (first | exact trivial | exact rfl | refine And.intro ?_ ?_)
      · replace h := h.f hb7
        refine ⟨_, h.1, GSt.ren [] rfl rfl rfl (fun i hi => absurd hi (Nat.not_lt_zero i)) (Nat.zero_le _) ?_ ?_, h.2⟩
        all_goals (repeat' (first | exact trivial | exact Or.inl rfl | exact Or.inr rfl | refine And.intro ?_ ?_))
    · replace h := h.f hb4
      have h : _ = row := h
      subst h
      repeat' (first | exact trivial | exact rfl | refine And.intro ?_ ?_)
def vc33 (E : Env) (x1 : List (List C)) (x3 : Int) (x4 : Int) (x5 : List (List C)) (Q : List C → Prop) : Prop :=
  (E.pok 44 [(false, [.int .i64])] [.c (.sl [.int .i64, .int .i64, .sl [.int .i64, .int .i64]] x1), .fn 34 [.el [.int .i64, .int .i64, .sl [.int .i64, .int .i64]] [[.int .i64 x3, .int .i64 x4, .sl [.int .i64, .int .i64] x5]] 0 0]]) ∧ (∀ r1 : Nat → C, r1 = E.res 44 [.c (.sl [.int .i64, .int .i64, .sl [.int .i64, .int .i64]] x1), .fn 34 [.el [.int .i64, .int .i64, .sl [.int .i64, .int .i64]] [[.int .i64 x3, .int .i64 x4, .sl [.int .i64, .int .i64] x5]] 0 0]] → 
  (Q [.bool (E.le 0 (E.gi (r1 0)))]))
theorem w33 {P : Program} {tbl : FuncId → List A → List C}  {x1 : List (List C)} {x3 : Int} {x4 : Int} {x5 : List (List C)} {row : List C} (h : vc33 (stdE P tbl) x1 x3 x4 x5 fun c => c = row) : WPg P tbl rf33 [(false, [.bool])] row [.c (.sl [.int .i64, .int .i64, .sl [.int .i64, .int .i64]] x1), .fn 34 [.el [.int .i64, .int .i64, .sl [.int .i64, .int .i64]] [[.int .i64 x3, .int .i64 x4, .sl [.int .i64, .int .i64] x5]] 0 0]] := by
  refine ⟨?_⟩
  revert h
  generalize hE : stdE P tbl = E
  intro h
  unfold vc33 at h
  cbv
  have c2 := h.1
  refine ⟨c2, ?_⟩
  replace h := h.2 _ rfl
  have h : _ = row := h
  subst h
  repeat' (first | exact trivial | exact rfl | refine And.intro ?_ ?_)
def vc34 (E : Env) (x6 : Int) (x7 : Int) (x8 : List (List C)) (x3 : Int) (x4 : Int) (x5 : List (List C)) (Q : List C → Prop) : Prop :=
  Q [.bool (E.eq x6 (E.gi (E.cell [[.int .i64 x3, .int .i64 x4, .sl [.int .i64, .int .i64] x5]] 0 0)))]
theorem w34 {P : Program} {tbl : FuncId → List A → List C}  {x6 : Int} {x7 : Int} {x8 : List (List C)} {x3 : Int} {x4 : Int} {x5 : List (List C)} {row : List C} (h : vc34 (stdE P tbl) x6 x7 x8 x3 x4 x5 fun c => c = row) : WPg P tbl rf34 [(false, [.bool])] row [.agg [.c (.int .i64 x6), .c (.int .i64 x7), .c (.sl [.int .i64, .int .i64] x8)], .el [.int .i64, .int .i64, .sl [.int .i64, .int .i64]] [[.int .i64 x3, .int .i64 x4, .sl [.int .i64, .int .i64] x5]] 0 0] := by
  refine ⟨?_⟩
  revert h
  generalize hE : stdE P tbl = E
  intro h
  unfold vc34 at h
  cbv
  have h : _ = row := h
  subst h
  repeat' (first | exact trivial | exact rfl | refine And.intro ?_ ?_)
def vc37 (E : Env) (x1 : Int) (x2 : Int) (x3 : List (List C)) (Q : List C → Prop) : Prop :=
  spClone (x3) (
  Q [.int .i64 x1, .int .i64 x2, .sl [.int .i64, .int .i64] x3])
theorem w37 {P : Program} {tbl : FuncId → List A → List C} (ce45 : CloneCO 45 [.int .i64, .int .i64] P 45) {x1 : Int} {x2 : Int} {x3 : List (List C)} {row : List C} (h : vc37 (stdE P tbl) x1 x2 x3 fun c => c = row) : WPg P tbl rf37 [(true, [.int .i64, .int .i64, .sl [.int .i64, .int .i64]])] row [.agg [.c (.int .i64 x1), .c (.int .i64 x2), .c (.sl [.int .i64, .int .i64] x3)]] := by
  refine ⟨?_⟩
  revert h
  generalize hE : stdE P tbl = E
  intro h
  unfold vc37 at h
  cbv
  refine HCall.mk ce45.1.1 ((ACalls.frame (ce45.1.2 _ _ h) (H := _) (tgt := []) rfl (by decide) ?_).mono fun r H' hq => ?_)
  · intro i o ho
    cases ho
  obtain ⟨r1, H1', ⟨h, rfl, rfl⟩, _, rfl, rfl⟩ := hq
  cbv
  have h : _ = row := h
  subst h
  repeat' (first | exact trivial | exact rfl | refine And.intro ?_ ?_)
end Go.Proofs.Ytlmllogbaacoeaa.V
