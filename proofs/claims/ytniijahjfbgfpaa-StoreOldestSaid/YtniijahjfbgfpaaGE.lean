/- Warehouses: the walk of what is said of them: oldest. No conditions. -/
import Derived.Test.YtniijahjfbgfpaaGB
set_option linter.unusedVariables false
set_option linter.unusedSimpArgs false
namespace Go.Proofs.Ytniijahjfbgfpaa.V
open Go Go.Eng
set_option maxRecDepth 1000000
set_option maxHeartbeats 40000000
set_option cbv.maxSteps 10000000
/-- papermill papermilllaw54.StoreOldest -/
def rf5 : RFn := ⟨(.seq (.ops 0 [⟨(some 4), (.v (.mv (.k (.c (.bool false))))), none, []⟩]) (.seq (.seq (.ops 0 [⟨(some 20), (.v (.mv (.t 0))), none, []⟩, ⟨(some 21), (.v (.lenS (.t 20))), none, []⟩, ⟨(some 22), (.v (.bin .gtr (.t 21) (.k (.c (.int .i64 40))))), none, []⟩, ⟨(some 23), (.v (.mv (.t 22))), none, []⟩, ⟨(some 24), (.v (.mv (.t 1))), (some ⟨23, false⟩), [(.t 1)]⟩, ⟨(some 25), (.v (.lenS (.t 24))), (some ⟨23, false⟩), [(.t 24)]⟩, ⟨(some 26), (.v (.bin .gtr (.t 25) (.k (.c (.int .i64 120))))), (some ⟨23, false⟩), [(.t 25), (.k (.c (.int .i64 120)))]⟩, ⟨(some 27), (.v (.pick (.t 23) (.k (.c (.bool true))) (.t 26))), none, []⟩]) (.cond (.t 27) (.seq (.ops 0 [⟨(some 28), (.v (.det 11 [⟨false, [.bool]⟩] [])), none, []⟩, ⟨(some 4), (.v (.mv (.t 28))), none, []⟩]) .ret) .skip)) (.seq (.ops 0 [⟨(some 30), (.v (.mv (.t 0))), none, []⟩, ⟨(some 31), (.h (.call 24 [(.t 30)])), none, []⟩, ⟨(some 29), (.v (.mv (.t 31))), none, []⟩, ⟨(some 32), (.v (.ext (.t 29) 0)), none, []⟩, ⟨(some 33), (.v (.ext (.t 29) 1)), none, []⟩, ⟨(some 5), (.v (.mv (.t 32))), none, []⟩, ⟨(some 6), (.v (.mv (.t 33))), none, []⟩]) (.seq (.seq (.ops 0 [⟨(some 34), (.v (.mv (.t 6))), none, []⟩, ⟨(some 35), (.v (.bin .neq (.t 34) (.k (.c (.int .i64 0))))), none, []⟩, ⟨(some 36), (.v (.mv (.t 35))), none, []⟩, ⟨(some 37), (.v (.mv (.t 5))), (some ⟨36, false⟩), [(.t 5)]⟩, ⟨(some 38), (.v (.eqn 1 false (.t 37))), (some ⟨36, false⟩), [(.t 37), (.k .np)]⟩, ⟨(some 39), (.v (.pick (.t 36) (.k (.c (.bool true))) (.t 38))), none, []⟩]) (.cond (.t 39) (.seq (.ops 0 [⟨(some 40), (.v (.mv (.t 6))), none, []⟩, ⟨(some 41), (.v (.bin .neq (.t 40) (.k (.c (.int .i64 0))))), none, []⟩, ⟨(some 42), (.v (.mv (.t 41))), none, []⟩, ⟨(some 43), (.v (.mv (.t 5))), (some ⟨42, true⟩), [(.t 5)]⟩, ⟨(some 44), (.v (.eqn 1 false (.t 43))), (some ⟨42, true⟩), [(.t 43), (.k .np)]⟩, ⟨(some 45), (.v (.pick (.t 42) (.t 44) (.k (.c (.bool false))))), none, []⟩, ⟨(some 46), (.v (.mv (.t 45))), none, []⟩, ⟨(some 47), (.v (.det 11 [⟨false, [.bool]⟩] [])), (some ⟨46, true⟩), [(.k (.fn 11 []))]⟩, ⟨(some 48), (.v (.pick (.t 46) (.t 47) (.k (.c (.bool false))))), none, []⟩, ⟨(some 4), (.v (.mv (.t 48))), none, []⟩]) .ret) .skip)) (.seq (.seq (.ops 0 [⟨(some 7), (.v (.mv (.k (.c (.int .i64 0))))), none, []⟩]) (.block 0 (.loop (.seq (.seq (.ops 0 [⟨(some 49), (.v (.mv (.t 7))), none, []⟩, ⟨(some 50), (.v (.mv (.t 1))), none, []⟩, ⟨(some 51), (.v (.lenS (.t 50))), none, []⟩, ⟨(some 52), (.v (.bin .lss (.t 49) (.t 51))), none, []⟩]) (.cond (.t 52) .skip (.exit 0))) (.seq (.block 1 (.ops 0 [⟨(some 55), (.v (.mv (.t 5))), none, []⟩, ⟨(some 56), (.v (.mv (.t 1))), none, []⟩, ⟨(some 57), (.v (.mv (.t 7))), none, []⟩, ⟨(some 58), (.v (.ia 5 (.t 56) (.t 57))), none, []⟩, ⟨(some 59), (.v (.lda 5 (.t 58))), none, []⟩, ⟨(some 60), (.h (.call 12 [(.t 55), (.t 59)])), none, []⟩])) (.ops 0 [⟨(some 53), (.v (.mv (.t 7))), none, []⟩, ⟨(some 54), (.v (.bin .add (.t 53) (.k (.c (.int .i64 1))))), none, []⟩, ⟨(some 7), (.v (.mv (.t 54))), none, []⟩])))))) (.seq (.ops 0 [⟨(some 61), (.v (.mv (.t 5))), none, []⟩, ⟨(some 62), (.h (.call 15 [(.t 61)])), none, []⟩, ⟨(some 8), (.v (.mv (.t 62))), none, []⟩]) (.seq (.seq (.ops 0 [⟨(some 63), (.v (.mv (.t 8))), none, []⟩, ⟨(some 64), (.v (.lenS (.t 63))), none, []⟩, ⟨(some 65), (.v (.mv (.t 0))), none, []⟩, ⟨(some 66), (.v (.lenS (.t 65))), none, []⟩, ⟨(some 67), (.v (.bin .neq (.t 64) (.t 66))), none, []⟩]) (.cond (.t 67) (.seq (.ops 0 [⟨(some 4), (.v (.mv (.k (.c (.bool false))))), none, []⟩]) .ret) .skip)) (.seq (.ops 0 [⟨(some 9), (.v (.mv (.k (.c .nil)))), none, []⟩]) (.seq (.seq (.ops 0 [⟨(some 10), (.v (.mv (.k (.c (.int .i64 0))))), none, []⟩]) (.block 2 (.loop (.seq (.seq (.ops 0 [⟨(some 68), (.v (.mv (.t 10))), none, []⟩, ⟨(some 69), (.v (.mv (.t 0))), none, []⟩, ⟨(some 70), (.v (.lenS (.t 69))), none, []⟩, ⟨(some 71), (.v (.bin .lss (.t 68) (.t 70))), none, []⟩]) (.cond (.t 71) .skip (.exit 2))) (.seq (.block 3 (.seq (.ops 0 [⟨(some 75), (.v (.mv (.t 5))), none, []⟩, ⟨(some 76), (.v (.mv (.t 10))), none, []⟩, ⟨(some 77), (.h (.call 17 [(.t 75), (.t 76)])), none, []⟩, ⟨(some 74), (.v (.mv (.t 77))), none, []⟩, ⟨(some 78), (.v (.ext (.t 74) 0)), none, []⟩, ⟨(some 79), (.v (.ext (.t 74) 1)), none, []⟩, ⟨(some 11), (.v (.mv (.t 78))), none, []⟩, ⟨(some 12), (.v (.mv (.t 79))), none, []⟩]) (.seq (.seq (.any 0 [⟨0, ⟨[], ⟨(some 80), (.v (.mv (.t 12))), none, []⟩⟩⟩, ⟨1, ⟨[0], ⟨(some 81), (.v (.bin .neq (.t 80) (.k (.c (.int .i64 0))))), none, []⟩⟩⟩, ⟨2, ⟨[1, 0], ⟨(some 82), (.v (.mv (.t 81))), none, []⟩⟩⟩, ⟨3, ⟨[2, 1, 0], ⟨(some 83), (.v (.mv (.t 11))), (some ⟨82, false⟩), [(.t 11)]⟩⟩⟩, ⟨4, ⟨[3, 2, 1, 0], ⟨(some 84), (.v (.lenS (.t 83))), (some ⟨82, false⟩), [(.t 83)]⟩⟩⟩, ⟨5, ⟨[2, 1, 0], ⟨(some 85), (.v (.mv (.t 0))), (some ⟨82, false⟩), [(.t 0)]⟩⟩⟩, ⟨6, ⟨[2, 1, 0], ⟨(some 86), (.v (.mv (.t 10))), (some ⟨82, false⟩), [(.t 10)]⟩⟩⟩, ⟨7, ⟨[5, 6, 2, 1, 0], ⟨(some 87), (.v (.ia 2 (.t 85) (.t 86))), (some ⟨82, false⟩), [(.t 85), (.t 86)]⟩⟩⟩, ⟨8, ⟨[7, 5, 6, 2, 1, 0], ⟨(some 88), (.v (.fa 0 (.t 87))), (some ⟨82, false⟩), [(.t 87)]⟩⟩⟩, ⟨9, ⟨[8, 7, 5, 6, 2, 1, 0], ⟨(some 89), (.v (.ld (.t 88))), (some ⟨82, false⟩), [(.t 88)]⟩⟩⟩, ⟨10, ⟨[4, 3, 9, 8, 7, 5, 6, 2, 1, 0], ⟨(some 90), (.v (.bin .gtr (.t 84) (.t 89))), (some ⟨82, false⟩), [(.t 84), (.t 89)]⟩⟩⟩, ⟨11, ⟨[10, 4, 3, 9, 8, 7, 5, 6, 2, 1, 0], ⟨(some 91), (.v (.pick (.t 82) (.k (.c (.bool true))) (.t 90))), none, []⟩⟩⟩, ⟨12, ⟨[11, 10, 4, 3, 9, 8, 7, 5, 6, 2, 1, 0], ⟨(some 92), (.v (.mv (.t 91))), none, []⟩⟩⟩, ⟨13, ⟨[12, 11, 10, 4, 3, 9, 8, 7, 5, 6, 2, 1, 0], ⟨(some 93), (.v (.mv (.t 11))), (some ⟨92, false⟩), [(.t 11)]⟩⟩⟩, ⟨14, ⟨[13, 12, 11, 10, 4, 3, 9, 8, 7, 5, 6, 2, 1, 0], ⟨(some 94), (.v (.lenS (.t 93))), (some ⟨92, false⟩), [(.t 93)]⟩⟩⟩, ⟨15, ⟨[12, 11, 10, 4, 3, 9, 8, 7, 5, 6, 2, 1, 0], ⟨(some 95), (.v (.mv (.t 8))), (some ⟨92, false⟩), [(.t 8)]⟩⟩⟩, ⟨16, ⟨[12, 11, 10, 4, 3, 9, 8, 7, 5, 6, 2, 1, 0], ⟨(some 96), (.v (.mv (.t 10))), (some ⟨92, false⟩), [(.t 10)]⟩⟩⟩, ⟨17, ⟨[15, 16, 12, 11, 10, 4, 3, 9, 8, 7, 5, 6, 2, 1, 0], ⟨(some 97), (.v (.ia 1 (.t 95) (.t 96))), (some ⟨92, false⟩), [(.t 95), (.t 96)]⟩⟩⟩, ⟨18, ⟨[17, 15, 16, 12, 11, 10, 4, 3, 9, 8, 7, 5, 6, 2, 1, 0], ⟨(some 98), (.v (.ld (.t 97))), (some ⟨92, false⟩), [(.t 97)]⟩⟩⟩, ⟨19, ⟨[14, 13, 18, 17, 15, 16, 12, 11, 10, 4, 3, 9, 8, 7, 5, 6, 2, 1, 0], ⟨(some 99), (.v (.bin .add (.t 94) (.t 98))), (some ⟨92, false⟩), [(.t 94), (.t 98)]⟩⟩⟩, ⟨20, ⟨[12, 11, 10, 4, 3, 9, 8, 7, 5, 6, 2, 1, 0], ⟨(some 100), (.v (.mv (.t 0))), (some ⟨92, false⟩), [(.t 0)]⟩⟩⟩, ⟨21, ⟨[12, 11, 10, 4, 3, 9, 8, 7, 5, 6, 2, 1, 0], ⟨(some 101), (.v (.mv (.t 10))), (some ⟨92, false⟩), [(.t 10)]⟩⟩⟩, ⟨22, ⟨[20, 21, 12, 11, 10, 4, 3, 9, 8, 7, 5, 6, 2, 1, 0], ⟨(some 102), (.v (.ia 2 (.t 100) (.t 101))), (some ⟨92, false⟩), [(.t 100), (.t 101)]⟩⟩⟩, ⟨23, ⟨[22, 20, 21, 12, 11, 10, 4, 3, 9, 8, 7, 5, 6, 2, 1, 0], ⟨(some 103), (.v (.fa 0 (.t 102))), (some ⟨92, false⟩), [(.t 102)]⟩⟩⟩, ⟨24, ⟨[23, 22, 20, 21, 12, 11, 10, 4, 3, 9, 8, 7, 5, 6, 2, 1, 0], ⟨(some 104), (.v (.ld (.t 103))), (some ⟨92, false⟩), [(.t 103)]⟩⟩⟩, ⟨25, ⟨[19, 14, 13, 18, 17, 15, 16, 24, 23, 22, 20, 21, 12, 11, 10, 4, 3, 9, 8, 7, 5, 6, 2, 1, 0], ⟨(some 105), (.v (.bin .neq (.t 99) (.t 104))), (some ⟨92, false⟩), [(.t 99), (.t 104)]⟩⟩⟩, ⟨26, ⟨[25, 19, 14, 13, 18, 17, 15, 16, 24, 23, 22, 20, 21, 12, 11, 10, 4, 3, 9, 8, 7, 5, 6, 2, 1, 0], ⟨(some 106), (.v (.pick (.t 92) (.k (.c (.bool true))) (.t 105))), none, []⟩⟩⟩, ⟨27, ⟨[26, 25, 19, 14, 13, 18, 17, 15, 16, 24, 23, 22, 20, 21, 12, 11, 10, 4, 3, 9, 8, 7, 5, 6, 2, 1, 0], ⟨(some 107), (.v (.mv (.t 106))), none, []⟩⟩⟩, ⟨28, ⟨[27, 26, 25, 19, 14, 13, 18, 17, 15, 16, 24, 23, 22, 20, 21, 12, 11, 10, 4, 3, 9, 8, 7, 5, 6, 2, 1, 0], ⟨(some 108), (.v (.mv (.t 11))), (some ⟨107, false⟩), [(.t 11)]⟩⟩⟩, ⟨29, ⟨[28, 27, 26, 25, 19, 14, 13, 18, 17, 15, 16, 24, 23, 22, 20, 21, 12, 11, 10, 4, 3, 9, 8, 7, 5, 6, 2, 1, 0], ⟨(some 109), (.v (.lenS (.t 108))), (some ⟨107, false⟩), [(.t 108)]⟩⟩⟩, ⟨30, ⟨[29, 28, 27, 26, 25, 19, 14, 13, 18, 17, 15, 16, 24, 23, 22, 20, 21, 12, 11, 10, 4, 3, 9, 8, 7, 5, 6, 2, 1, 0], ⟨(some 110), (.v (.bin .gtr (.t 109) (.k (.c (.int .i64 200))))), (some ⟨107, false⟩), [(.t 109), (.k (.c (.int .i64 200)))]⟩⟩⟩, ⟨31, ⟨[30, 29, 28, 27, 26, 25, 19, 14, 13, 18, 17, 15, 16, 24, 23, 22, 20, 21, 12, 11, 10, 4, 3, 9, 8, 7, 5, 6, 2, 1, 0], ⟨(some 111), (.v (.pick (.t 107) (.k (.c (.bool true))) (.t 110))), none, []⟩⟩⟩]) (.cond (.t 111) (.seq (.ops 0 [⟨(some 4), (.v (.mv (.k (.c (.bool false))))), none, []⟩]) .ret) .skip)) (.seq (.ops 0 [⟨(some 13), (.v (.mv (.k (.c .nil)))), none, []⟩]) (.seq (.seq (.ops 0 [⟨(some 14), (.v (.mv (.k (.c (.int .i64 0))))), none, []⟩]) (.block 4 (.loop (.seq (.seq (.ops 0 [⟨(some 112), (.v (.mv (.t 14))), none, []⟩, ⟨(some 113), (.v (.mv (.t 11))), none, []⟩, ⟨(some 114), (.v (.lenS (.t 113))), none, []⟩, ⟨(some 115), (.v (.bin .lss (.t 112) (.t 114))), none, []⟩]) (.cond (.t 115) .skip (.exit 4))) (.seq (.block 5 (.seq (.ops 1 [⟨(some 119), (.v (.mv (.t 5))), none, []⟩, ⟨(some 120), (.v (.mv (.t 11))), none, []⟩, ⟨(some 121), (.v (.mv (.t 14))), none, []⟩, ⟨(some 122), (.v (.ia 3 (.t 120) (.t 121))), none, []⟩, ⟨(some 123), (.v (.fa 0 (.t 122))), none, []⟩, ⟨(some 124), (.v (.ld (.t 123))), none, []⟩, ⟨(some 125), (.v (.det 20 [⟨true, [(.int .i64), (.int .i64), (.int .i64)]⟩, ⟨false, [.bool]⟩] [(.t 119), (.t 124)])), none, []⟩, ⟨(some 118), (.v (.mv (.t 125))), none, []⟩, ⟨(some 126), (.v (.ext (.t 118) 0)), none, []⟩, ⟨(some 127), (.v (.ext (.t 118) 1)), none, []⟩, ⟨(some 15), (.v (.alloc 0 44 [(.c (.int .i64 0)), (.c (.int .i64 0)), (.c (.int .i64 0))])), none, []⟩, ⟨none, (.v (.st 3 (.t 15) (.t 126))), none, []⟩, ⟨(some 16), (.v (.mv (.t 127))), none, []⟩]) (.seq (.seq (.any 0 [⟨0, ⟨[], ⟨(some 128), (.v (.mv (.t 16))), none, []⟩⟩⟩, ⟨1, ⟨[0], ⟨(some 129), (.v (.un .not (.t 128))), none, []⟩⟩⟩, ⟨2, ⟨[1, 0], ⟨(some 130), (.v (.mv (.t 129))), none, []⟩⟩⟩, ⟨3, ⟨[2, 1, 0], ⟨(some 131), (.v (.lda 3 (.t 15))), (some ⟨130, false⟩), [(.t 15)]⟩⟩⟩, ⟨4, ⟨[2, 1, 0], ⟨(some 132), (.v (.mv (.t 11))), (some ⟨130, false⟩), [(.t 11)]⟩⟩⟩, ⟨5, ⟨[2, 1, 0], ⟨(some 133), (.v (.mv (.t 14))), (some ⟨130, false⟩), [(.t 14)]⟩⟩⟩, ⟨6, ⟨[4, 5, 2, 1, 0], ⟨(some 134), (.v (.ia 3 (.t 132) (.t 133))), (some ⟨130, false⟩), [(.t 132), (.t 133)]⟩⟩⟩, ⟨7, ⟨[6, 4, 5, 2, 1, 0], ⟨(some 135), (.v (.lda 3 (.t 134))), (some ⟨130, false⟩), [(.t 134)]⟩⟩⟩, ⟨8, ⟨[3, 7, 6, 4, 5, 2, 1, 0], ⟨(some 136), (.v (.eqs [(.int .i64), (.int .i64), (.int .i64)] true (.t 131) (.t 135))), (some ⟨130, false⟩), [(.t 131), (.t 135)]⟩⟩⟩, ⟨9, ⟨[8, 3, 7, 6, 4, 5, 2, 1, 0], ⟨(some 137), (.v (.pick (.t 130) (.k (.c (.bool true))) (.t 136))), none, []⟩⟩⟩, ⟨10, ⟨[9, 8, 3, 7, 6, 4, 5, 2, 1, 0], ⟨(some 138), (.v (.mv (.t 137))), none, []⟩⟩⟩, ⟨11, ⟨[10, 9, 8, 3, 7, 6, 4, 5, 2, 1, 0], ⟨(some 139), (.v (.fa 1 (.t 15))), (some ⟨138, false⟩), [(.t 15)]⟩⟩⟩, ⟨12, ⟨[11, 10, 9, 8, 3, 7, 6, 4, 5, 2, 1, 0], ⟨(some 140), (.v (.ld (.t 139))), (some ⟨138, false⟩), [(.t 139)]⟩⟩⟩, ⟨13, ⟨[10, 9, 8, 3, 7, 6, 4, 5, 2, 1, 0], ⟨(some 141), (.v (.mv (.t 10))), (some ⟨138, false⟩), [(.t 10)]⟩⟩⟩, ⟨14, ⟨[12, 11, 13, 10, 9, 8, 3, 7, 6, 4, 5, 2, 1, 0], ⟨(some 142), (.v (.bin .neq (.t 140) (.t 141))), (some ⟨138, false⟩), [(.t 140), (.t 141)]⟩⟩⟩, ⟨15, ⟨[14, 12, 11, 13, 10, 9, 8, 3, 7, 6, 4, 5, 2, 1, 0], ⟨(some 143), (.v (.pick (.t 138) (.k (.c (.bool true))) (.t 142))), none, []⟩⟩⟩, ⟨16, ⟨[15, 14, 12, 11, 13, 10, 9, 8, 3, 7, 6, 4, 5, 2, 1, 0], ⟨(some 144), (.v (.mv (.t 143))), none, []⟩⟩⟩, ⟨17, ⟨[16, 15, 14, 12, 11, 13, 10, 9, 8, 3, 7, 6, 4, 5, 2, 1, 0], ⟨(some 145), (.v (.mv (.t 14))), (some ⟨144, false⟩), [(.t 14)]⟩⟩⟩, ⟨18, ⟨[17, 16, 15, 14, 12, 11, 13, 10, 9, 8, 3, 7, 6, 4, 5, 2, 1, 0], ⟨(some 146), (.v (.bin .gtr (.t 145) (.k (.c (.int .i64 0))))), (some ⟨144, false⟩), [(.t 145), (.k (.c (.int .i64 0)))]⟩⟩⟩, ⟨19, ⟨[18, 17, 16, 15, 14, 12, 11, 13, 10, 9, 8, 3, 7, 6, 4, 5, 2, 1, 0], ⟨(some 147), (.v (.mv (.t 146))), (some ⟨144, false⟩), [(.t 146)]⟩⟩⟩, ⟨20, ⟨[19, 18, 17, 16, 15, 14, 12, 11, 13, 10, 9, 8, 3, 7, 6, 4, 5, 2, 1, 0], ⟨(some 148), (.v (.mv (.t 11))), (some ⟨147, true⟩), [(.t 11)]⟩⟩⟩, ⟨21, ⟨[19, 18, 17, 16, 15, 14, 12, 11, 13, 10, 9, 8, 3, 7, 6, 4, 5, 2, 1, 0], ⟨(some 149), (.v (.mv (.t 14))), (some ⟨147, true⟩), [(.t 14)]⟩⟩⟩, ⟨22, ⟨[20, 21, 19, 18, 17, 16, 15, 14, 12, 11, 13, 10, 9, 8, 3, 7, 6, 4, 5, 2, 1, 0], ⟨(some 150), (.v (.ia 3 (.t 148) (.t 149))), (some ⟨147, true⟩), [(.t 148), (.t 149)]⟩⟩⟩, ⟨23, ⟨[22, 20, 21, 19, 18, 17, 16, 15, 14, 12, 11, 13, 10, 9, 8, 3, 7, 6, 4, 5, 2, 1, 0], ⟨(some 151), (.v (.fa 2 (.t 150))), (some ⟨147, true⟩), [(.t 150)]⟩⟩⟩, ⟨24, ⟨[23, 22, 20, 21, 19, 18, 17, 16, 15, 14, 12, 11, 13, 10, 9, 8, 3, 7, 6, 4, 5, 2, 1, 0], ⟨(some 152), (.v (.ld (.t 151))), (some ⟨147, true⟩), [(.t 151)]⟩⟩⟩, ⟨25, ⟨[19, 18, 17, 16, 15, 14, 12, 11, 13, 10, 9, 8, 3, 7, 6, 4, 5, 2, 1, 0], ⟨(some 153), (.v (.mv (.t 11))), (some ⟨147, true⟩), [(.t 11)]⟩⟩⟩, ⟨26, ⟨[19, 18, 17, 16, 15, 14, 12, 11, 13, 10, 9, 8, 3, 7, 6, 4, 5, 2, 1, 0], ⟨(some 154), (.v (.mv (.t 14))), (some ⟨147, true⟩), [(.t 14)]⟩⟩⟩, ⟨27, ⟨[26, 19, 18, 17, 16, 15, 14, 12, 11, 13, 10, 9, 8, 3, 7, 6, 4, 5, 2, 1, 0], ⟨(some 155), (.v (.bin .sub (.t 154) (.k (.c (.int .i64 1))))), (some ⟨147, true⟩), [(.t 154), (.k (.c (.int .i64 1)))]⟩⟩⟩, ⟨28, ⟨[25, 27, 26, 19, 18, 17, 16, 15, 14, 12, 11, 13, 10, 9, 8, 3, 7, 6, 4, 5, 2, 1, 0], ⟨(some 156), (.v (.ia 3 (.t 153) (.t 155))), (some ⟨147, true⟩), [(.t 153), (.t 155)]⟩⟩⟩, ⟨29, ⟨[28, 25, 27, 26, 19, 18, 17, 16, 15, 14, 12, 11, 13, 10, 9, 8, 3, 7, 6, 4, 5, 2, 1, 0], ⟨(some 157), (.v (.fa 2 (.t 156))), (some ⟨147, true⟩), [(.t 156)]⟩⟩⟩, ⟨30, ⟨[29, 28, 25, 27, 26, 19, 18, 17, 16, 15, 14, 12, 11, 13, 10, 9, 8, 3, 7, 6, 4, 5, 2, 1, 0], ⟨(some 158), (.v (.ld (.t 157))), (some ⟨147, true⟩), [(.t 157)]⟩⟩⟩, ⟨31, ⟨[24, 23, 22, 20, 21, 30, 29, 28, 25, 27, 26, 19, 18, 17, 16, 15, 14, 12, 11, 13, 10, 9, 8, 3, 7, 6, 4, 5, 2, 1, 0], ⟨(some 159), (.v (.bin .lss (.t 152) (.t 158))), (some ⟨147, true⟩), [(.t 152), (.t 158)]⟩⟩⟩, ⟨32, ⟨[31, 24, 23, 22, 20, 21, 30, 29, 28, 25, 27, 26, 19, 18, 17, 16, 15, 14, 12, 11, 13, 10, 9, 8, 3, 7, 6, 4, 5, 2, 1, 0], ⟨(some 160), (.v (.pick (.t 147) (.t 159) (.k (.c (.bool false))))), (some ⟨144, false⟩), [(.t 147), (.t 159), (.k (.c (.bool false)))]⟩⟩⟩, ⟨33, ⟨[32, 31, 24, 23, 22, 20, 21, 30, 29, 28, 25, 27, 26, 19, 18, 17, 16, 15, 14, 12, 11, 13, 10, 9, 8, 3, 7, 6, 4, 5, 2, 1, 0], ⟨(some 161), (.v (.pick (.t 144) (.k (.c (.bool true))) (.t 160))), none, []⟩⟩⟩]) (.cond (.t 161) (.seq (.ops 0 [⟨(some 4), (.v (.mv (.k (.c (.bool false))))), none, []⟩]) .ret) .skip)) (.seq (.seq (.ops 0 [⟨(some 17), (.v (.mv (.k (.c (.int .i64 0))))), none, []⟩]) (.block 6 (.loop (.seq (.seq (.ops 0 [⟨(some 162), (.v (.mv (.t 17))), none, []⟩, ⟨(some 163), (.v (.mv (.t 9))), none, []⟩, ⟨(some 164), (.v (.lenS (.t 163))), none, []⟩, ⟨(some 165), (.v (.bin .lss (.t 162) (.t 164))), none, []⟩]) (.cond (.t 165) .skip (.exit 6))) (.seq (.block 7 (.seq (.any 0 [⟨0, ⟨[], ⟨(some 168), (.v (.mv (.t 9))), none, []⟩⟩⟩, ⟨1, ⟨[], ⟨(some 169), (.v (.mv (.t 17))), none, []⟩⟩⟩, ⟨2, ⟨[0, 1], ⟨(some 170), (.v (.ia 1 (.t 168) (.t 169))), none, []⟩⟩⟩, ⟨3, ⟨[2, 0, 1], ⟨(some 171), (.v (.ld (.t 170))), none, []⟩⟩⟩, ⟨4, ⟨[], ⟨(some 172), (.v (.mv (.t 11))), none, []⟩⟩⟩, ⟨5, ⟨[], ⟨(some 173), (.v (.mv (.t 14))), none, []⟩⟩⟩, ⟨6, ⟨[4, 5], ⟨(some 174), (.v (.ia 3 (.t 172) (.t 173))), none, []⟩⟩⟩, ⟨7, ⟨[6, 4, 5], ⟨(some 175), (.v (.fa 0 (.t 174))), none, []⟩⟩⟩, ⟨8, ⟨[7, 6, 4, 5], ⟨(some 176), (.v (.ld (.t 175))), none, []⟩⟩⟩, ⟨9, ⟨[3, 2, 0, 1, 8, 7, 6, 4, 5], ⟨(some 177), (.v (.bin .eql (.t 171) (.t 176))), none, []⟩⟩⟩]) (.cond (.t 177) (.seq (.ops 0 [⟨(some 4), (.v (.mv (.k (.c (.bool false))))), none, []⟩]) .ret) .skip))) (.ops 0 [⟨(some 166), (.v (.mv (.t 17))), none, []⟩, ⟨(some 167), (.v (.bin .add (.t 166) (.k (.c (.int .i64 1))))), none, []⟩, ⟨(some 17), (.v (.mv (.t 167))), none, []⟩])))))) (.seq (.ops 2 [⟨(some 178), (.v (.mv (.t 9))), none, []⟩, ⟨(some 179), (.v (.mv (.t 11))), none, []⟩, ⟨(some 180), (.v (.mv (.t 14))), none, []⟩, ⟨(some 181), (.v (.ia 3 (.t 179) (.t 180))), none, []⟩, ⟨(some 182), (.v (.fa 0 (.t 181))), none, []⟩, ⟨(some 183), (.v (.ld (.t 182))), none, []⟩, ⟨(some 184), (.v (.bsl 0 3 [(.int .i64)] [(.t 183)])), none, []⟩, ⟨(some 185), (.v (.app 1 3 [(.int .i64)] 17592186044416 (.t 178) (.t 184))), none, []⟩, ⟨(some 9), (.v (.mv (.t 185))), none, []⟩]) (.ops 2 [⟨(some 186), (.v (.mv (.t 11))), none, []⟩, ⟨(some 187), (.v (.mv (.t 14))), none, []⟩, ⟨(some 188), (.v (.ia 3 (.t 186) (.t 187))), none, []⟩, ⟨(some 189), (.v (.fa 0 (.t 188))), none, []⟩, ⟨(some 190), (.v (.ld (.t 189))), none, []⟩, ⟨(some 191), (.v (.bsl 0 3 [(.int .i64)] [(.t 190)])), none, []⟩, ⟨(some 192), (.v (.mv (.t 13))), none, []⟩, ⟨(some 193), (.v (.app 1 3 [(.int .i64)] 17592186044416 (.t 191) (.t 192))), none, []⟩, ⟨(some 13), (.v (.mv (.t 193))), none, []⟩])))))) (.ops 0 [⟨(some 116), (.v (.mv (.t 14))), none, []⟩, ⟨(some 117), (.v (.bin .add (.t 116) (.k (.c (.int .i64 1))))), none, []⟩, ⟨(some 14), (.v (.mv (.t 117))), none, []⟩])))))) (.seq (.ops 0 [⟨(some 195), (.v (.mv (.t 5))), none, []⟩, ⟨(some 196), (.v (.mv (.t 13))), none, []⟩, ⟨(some 197), (.v (.det 22 [⟨false, [(.int .i64)]⟩, ⟨false, [(.int .i64)]⟩] [(.t 195), (.t 196)])), none, []⟩, ⟨(some 194), (.v (.mv (.t 197))), none, []⟩, ⟨(some 198), (.v (.ext (.t 194) 0)), none, []⟩, ⟨(some 199), (.v (.ext (.t 194) 1)), none, []⟩, ⟨(some 18), (.v (.mv (.t 198))), none, []⟩, ⟨(some 19), (.v (.mv (.t 199))), none, []⟩]) (.seq (.ops 0 [⟨(some 200), (.v (.mv (.t 11))), none, []⟩, ⟨(some 201), (.v (.lenS (.t 200))), none, []⟩, ⟨(some 202), (.v (.bin .eql (.t 201) (.k (.c (.int .i64 0))))), none, []⟩, ⟨(some 203), (.v (.mv (.t 202))), none, []⟩, ⟨(some 204), (.v (.mv (.t 19))), (some ⟨203, true⟩), [(.t 19)]⟩, ⟨(some 205), (.v (.bin .neq (.t 204) (.k (.c (.int .i64 7))))), (some ⟨203, true⟩), [(.t 204), (.k (.c (.int .i64 7)))]⟩, ⟨(some 206), (.v (.mv (.t 205))), (some ⟨203, true⟩), [(.t 205)]⟩, ⟨(some 207), (.v (.mv (.t 18))), (some ⟨206, false⟩), [(.t 18)]⟩, ⟨(some 208), (.v (.bin .neq (.t 207) (.k (.c (.int .i64 0))))), (some ⟨206, false⟩), [(.t 207), (.k (.c (.int .i64 0)))]⟩, ⟨(some 209), (.v (.pick (.t 206) (.k (.c (.bool true))) (.t 208))), (some ⟨203, true⟩), [(.t 206), (.k (.c (.bool true))), (.t 208)]⟩, ⟨(some 210), (.v (.pick (.t 203) (.t 209) (.k (.c (.bool false))))), none, []⟩, ⟨(some 211), (.v (.mv (.t 210))), none, []⟩, ⟨(some 212), (.v (.mv (.t 11))), (some ⟨211, false⟩), [(.t 11)]⟩, ⟨(some 213), (.v (.lenS (.t 212))), (some ⟨211, false⟩), [(.t 212)]⟩, ⟨(some 214), (.v (.bin .gtr (.t 213) (.k (.c (.int .i64 0))))), (some ⟨211, false⟩), [(.t 213), (.k (.c (.int .i64 0)))]⟩, ⟨(some 215), (.v (.mv (.t 214))), (some ⟨211, false⟩), [(.t 214)]⟩, ⟨(some 216), (.v (.mv (.t 19))), (some ⟨215, true⟩), [(.t 19)]⟩, ⟨(some 217), (.v (.bin .neq (.t 216) (.k (.c (.int .i64 0))))), (some ⟨215, true⟩), [(.t 216), (.k (.c (.int .i64 0)))]⟩, ⟨(some 218), (.v (.mv (.t 217))), (some ⟨215, true⟩), [(.t 217)]⟩, ⟨(some 219), (.v (.mv (.t 18))), (some ⟨218, false⟩), [(.t 18)]⟩, ⟨(some 220), (.v (.mv (.t 11))), (some ⟨218, false⟩), [(.t 11)]⟩, ⟨(some 221), (.v (.ia 3 (.t 220) (.k (.c (.int .i64 0))))), (some ⟨218, false⟩), [(.t 220), (.k (.c (.int .i64 0)))]⟩, ⟨(some 222), (.v (.fa 0 (.t 221))), (some ⟨218, false⟩), [(.t 221)]⟩, ⟨(some 223), (.v (.ld (.t 222))), (some ⟨218, false⟩), [(.t 222)]⟩, ⟨(some 224), (.v (.bin .neq (.t 219) (.t 223))), (some ⟨218, false⟩), [(.t 219), (.t 223)]⟩, ⟨(some 225), (.v (.pick (.t 218) (.k (.c (.bool true))) (.t 224))), (some ⟨215, true⟩), [(.t 218), (.k (.c (.bool true))), (.t 224)]⟩, ⟨(some 226), (.v (.pick (.t 215) (.t 225) (.k (.c (.bool false))))), (some ⟨211, false⟩), [(.t 215), (.t 225), (.k (.c (.bool false)))]⟩, ⟨(some 227), (.v (.pick (.t 211) (.k (.c (.bool true))) (.t 226))), none, []⟩]) (.cond (.t 227) (.seq (.ops 0 [⟨(some 4), (.v (.mv (.k (.c (.bool false))))), none, []⟩]) .ret) .skip)))))))) (.ops 0 [⟨(some 72), (.v (.mv (.t 10))), none, []⟩, ⟨(some 73), (.v (.bin .add (.t 72) (.k (.c (.int .i64 1))))), none, []⟩, ⟨(some 10), (.v (.mv (.t 73))), none, []⟩])))))) (.seq (.ops 0 [⟨(some 228), (.v (.det 11 [⟨false, [.bool]⟩] [])), none, []⟩, ⟨(some 4), (.v (.mv (.t 228))), none, []⟩]) .ret)))))))))), 229, [(.t 4)]⟩
theorem h5 : fnR Try.prog DD 5 = some rf5 := by kernel_rfl
def vc5 (E : Env) (x1 : List (List C)) (x2 : List (List C)) (Q : List C → Prop) : Prop :=
  Br (E.bite (E.lt 40 (E.len x1)) true (E.lt 120 (E.len x2)))
  ((E.pok 11 [(false, [.bool])] []) ∧ (∀ r3 : Nat → C, r3 = E.res 11 [] → 
    (Q [.bool (E.gb (r3 0))])))
  (spNew (x1) (fun (i4 : Int) => 
    Br (E.bite (E.not (E.eq i4 0)) true true)
      ((Imp (E.bite (E.not (E.eq i4 0)) true false) (E.pok 11 [(false, [.bool])] [])) ∧ (∀ r5 : Nat → C, r5 = E.res 11 [] → 
        (Q [.bool (E.bite (E.bite (E.not (E.eq i4 0)) true false) (E.gb (r5 0)) false)])))
      (False)) (
    Br (E.bite (E.not (E.eq 0 0)) true false)
      (False)
      (LoopP4 (fun (m6 : List (Int × List C)) (i7 : Int) (i8 : Int) (i9 : Int) (K10 : (List (Int × List C)) → (Int) → (Int) → (Int) → Prop) =>
        Br (E.lt i9 (E.len x2))
          (((E.le 0 i9) = true) ∧ 
            (spDo (x1) (m6) (i7) (i8) ((E.gi (E.cell x2 i9 0))) ((E.gi (E.cell x2 i9 1))) ((E.gi (E.cell x2 i9 2))) ((E.gi (E.cell x2 i9 3))) ((E.gi (E.cell x2 i9 4))) (fun (m11 : List (Int × List C)) (i12 : Int) (i13 : Int) (i14 : Int) (i15 : Int) => 
            K10 (m11) (i12) (i13) ((E.add .i64 i9 1)))))
          (spFree (x1) (m6) (i7) (i8) (fun (l16 : List (List C)) => 
            Br (E.not (E.eq (E.len l16) (E.len x1)))
              (Q [.bool false])
              (LoopP2 (fun (l17 : List (List C)) (i18 : Int) (K19 : (List (List C)) → (Int) → Prop) =>
                Br (E.lt i18 (E.len x1))
                  (spBay (x1) (m6) (i7) (i8) (i18) (fun (l20 : List (List C)) (i21 : Int) => 
                    (Imp (E.not (E.not (E.eq i21 0))) ((E.le 0 i18) = true)) ∧ 
                      ((Imp (E.not (E.bite (E.not (E.eq i21 0)) true (E.lt (E.gi (E.cell x1 i18 0)) (E.len l20)))) ((E.le 0 i18) = true)) ∧ (Imp (E.not (E.bite (E.not (E.eq i21 0)) true (E.lt (E.gi (E.cell x1 i18 0)) (E.len l20)))) ((E.lt i18 (E.len l16)) = true)) ∧ 
                      (Br (E.bite (E.bite (E.bite (E.not (E.eq i21 0)) true (E.lt (E.gi (E.cell x1 i18 0)) (E.len l20))) true (E.not (E.eq (E.add .i64 (E.len l20) (E.gi (E.cell l16 i18 0))) (E.gi (E.cell x1 i18 0))))) true (E.lt 200 (E.len l20)))
                      (Q [.bool false])
                      (LoopP3 (fun (l22 : List (List C)) (l23 : List (List C)) (i24 : Int) (K25 : (List (List C)) → (List (List C)) → (Int) → Prop) =>
                        Br (E.lt i24 (E.len l20))
                          (((E.le 0 i24) = true) ∧ 
                            ((E.pok 20 [(true, [.int .i64, .int .i64, .int .i64]), (false, [.bool])] [.el [.sl [.int .i64, .int .i64], .mp .i64 true [.int .i64, .int .i64, .int .i64, .int .i64, .int .i64], .int .i64, .int .i64] [[.sl [.int .i64, .int .i64] x1, .mp .i64 true [.int .i64, .int .i64, .int .i64, .int .i64, .int .i64] m6, .int .i64 i7, .int .i64 i8]] 0 0, .c (.int .i64 (E.gi (E.cell l20 i24 0)))]) ∧ (∀ r26 : Nat → C, r26 = E.res 20 [.el [.sl [.int .i64, .int .i64], .mp .i64 true [.int .i64, .int .i64, .int .i64, .int .i64, .int .i64], .int .i64, .int .i64] [[.sl [.int .i64, .int .i64] x1, .mp .i64 true [.int .i64, .int .i64, .int .i64, .int .i64, .int .i64] m6, .int .i64 i7, .int .i64 i8]] 0 0, .c (.int .i64 (E.gi (E.cell l20 i24 0)))] → 
                            ((Imp (E.and (E.not (E.bite (E.bite (E.not (E.gb (r26 3))) true (E.not (E.and (E.eq (E.gi (r26 0)) (E.gi (E.cell l20 i24 0))) (E.and (E.eq (E.gi (r26 1)) (E.gi (E.cell l20 i24 1))) (E.and (E.eq (E.gi (r26 2)) (E.gi (E.cell l20 i24 2))) true))))) true (E.not (E.eq (E.gi (r26 1)) i18)))) (E.lt 0 i24)) ((E.le 0 (E.sub .i64 i24 1)) = true)) ∧ (Imp (E.and (E.not (E.bite (E.bite (E.not (E.gb (r26 3))) true (E.not (E.and (E.eq (E.gi (r26 0)) (E.gi (E.cell l20 i24 0))) (E.and (E.eq (E.gi (r26 1)) (E.gi (E.cell l20 i24 1))) (E.and (E.eq (E.gi (r26 2)) (E.gi (E.cell l20 i24 2))) true))))) true (E.not (E.eq (E.gi (r26 1)) i18)))) (E.lt 0 i24)) ((E.lt (E.sub .i64 i24 1) (E.len l20)) = true)) ∧ 
                            ((Imp (E.not (E.bite (E.bite (E.not (E.gb (r26 3))) true (E.not (E.and (E.eq (E.gi (r26 0)) (E.gi (E.cell l20 i24 0))) (E.and (E.eq (E.gi (r26 1)) (E.gi (E.cell l20 i24 1))) (E.and (E.eq (E.gi (r26 2)) (E.gi (E.cell l20 i24 2))) true))))) true (E.not (E.eq (E.gi (r26 1)) i18)))) (Imp (E.lt 0 i24) ((E.and (E.not (E.bite (E.bite (E.not (E.gb (r26 3))) true (E.not (E.and (E.eq (E.gi (r26 0)) (E.gi (E.cell l20 i24 0))) (E.and (E.eq (E.gi (r26 1)) (E.gi (E.cell l20 i24 1))) (E.and (E.eq (E.gi (r26 2)) (E.gi (E.cell l20 i24 2))) true))))) true (E.not (E.eq (E.gi (r26 1)) i18)))) (E.lt 0 i24)) = true))) ∧ 
                            (Br (E.bite (E.bite (E.bite (E.not (E.gb (r26 3))) true (E.not (E.and (E.eq (E.gi (r26 0)) (E.gi (E.cell l20 i24 0))) (E.and (E.eq (E.gi (r26 1)) (E.gi (E.cell l20 i24 1))) (E.and (E.eq (E.gi (r26 2)) (E.gi (E.cell l20 i24 2))) true))))) true (E.not (E.eq (E.gi (r26 1)) i18))) true (E.bite (E.lt 0 i24) (E.lt (E.gi (E.cell l20 i24 2)) (E.gi (E.cell l20 (E.sub .i64 i24 1) 2))) false))
                            (Q [.bool false])
                            (LoopP1 (fun (i27 : Int) (K28 : (Int) → Prop) =>
                              Br (E.lt i27 (E.len l22))
                                (((E.le 0 i27) = true) ∧ 
                                  (Br (E.eq (E.gi (E.cell l22 i27 0)) (E.gi (E.cell l20 i24 0)))
                                  (Q [.bool false])
                                  (K28 ((E.add .i64 i27 1)))))
                                (((E.le (E.pl (E.len l22) (E.len [[.int .i64 (E.gi (E.cell l20 i24 0))]])) 17592186044416) = true) ∧ 
                                  (((E.le (E.pl (E.len [[.int .i64 (E.gi (E.cell l20 i24 0))]]) (E.len l23)) 17592186044416) = true) ∧ 
                                  (K25 ((E.cat l22 [[.int .i64 (E.gi (E.cell l20 i24 0))]])) ((E.cat [[.int .i64 (E.gi (E.cell l20 i24 0))]] l23)) ((E.add .i64 i24 1))))))
                              (0))))))))
                          ((E.pok 22 [(false, [.int .i64]), (false, [.int .i64])] [.el [.sl [.int .i64, .int .i64], .mp .i64 true [.int .i64, .int .i64, .int .i64, .int .i64, .int .i64], .int .i64, .int .i64] [[.sl [.int .i64, .int .i64] x1, .mp .i64 true [.int .i64, .int .i64, .int .i64, .int .i64, .int .i64] m6, .int .i64 i7, .int .i64 i8]] 0 0, .c (.sl [.int .i64] l23)]) ∧ (∀ r29 : Nat → C, r29 = E.res 22 [.el [.sl [.int .i64, .int .i64], .mp .i64 true [.int .i64, .int .i64, .int .i64, .int .i64, .int .i64], .int .i64, .int .i64] [[.sl [.int .i64, .int .i64] x1, .mp .i64 true [.int .i64, .int .i64, .int .i64, .int .i64, .int .i64] m6, .int .i64 i7, .int .i64 i8]] 0 0, .c (.sl [.int .i64] l23)] → 
                            ((Imp (E.eq (E.len l20) 0) (Imp (E.not (E.not (E.eq (E.gi (r29 1)) 7))) ((E.and (E.eq (E.len l20) 0) (E.not (E.not (E.eq (E.gi (r29 1)) 7)))) = true))) ∧ 
                            ((Imp (E.and (E.and (E.not (E.bite (E.eq (E.len l20) 0) (E.bite (E.not (E.eq (E.gi (r29 1)) 7)) true (E.not (E.eq (E.gi (r29 0)) 0))) false)) (E.lt 0 (E.len l20))) (E.not (E.not (E.eq (E.gi (r29 1)) 0)))) ((E.le 0 0) = true)) ∧ (Imp (E.and (E.and (E.not (E.bite (E.eq (E.len l20) 0) (E.bite (E.not (E.eq (E.gi (r29 1)) 7)) true (E.not (E.eq (E.gi (r29 0)) 0))) false)) (E.lt 0 (E.len l20))) (E.not (E.not (E.eq (E.gi (r29 1)) 0)))) ((E.lt 0 (E.len l20)) = true)) ∧ 
                            ((Imp (E.and (E.not (E.bite (E.eq (E.len l20) 0) (E.bite (E.not (E.eq (E.gi (r29 1)) 7)) true (E.not (E.eq (E.gi (r29 0)) 0))) false)) (E.lt 0 (E.len l20))) (Imp (E.not (E.not (E.eq (E.gi (r29 1)) 0))) ((E.and (E.and (E.not (E.bite (E.eq (E.len l20) 0) (E.bite (E.not (E.eq (E.gi (r29 1)) 7)) true (E.not (E.eq (E.gi (r29 0)) 0))) false)) (E.lt 0 (E.len l20))) (E.not (E.not (E.eq (E.gi (r29 1)) 0)))) = true))) ∧ 
                            ((Imp (E.not (E.bite (E.eq (E.len l20) 0) (E.bite (E.not (E.eq (E.gi (r29 1)) 7)) true (E.not (E.eq (E.gi (r29 0)) 0))) false)) (Imp (E.lt 0 (E.len l20)) ((E.and (E.not (E.bite (E.eq (E.len l20) 0) (E.bite (E.not (E.eq (E.gi (r29 1)) 7)) true (E.not (E.eq (E.gi (r29 0)) 0))) false)) (E.lt 0 (E.len l20))) = true))) ∧ 
                            (Br (E.bite (E.bite (E.eq (E.len l20) 0) (E.bite (E.not (E.eq (E.gi (r29 1)) 7)) true (E.not (E.eq (E.gi (r29 0)) 0))) false) true (E.bite (E.lt 0 (E.len l20)) (E.bite (E.not (E.eq (E.gi (r29 1)) 0)) true (E.not (E.eq (E.gi (r29 0)) (E.gi (E.cell l20 0 0))))) false))
                            (Q [.bool false])
                            (K19 (l22) ((E.add .i64 i18 1)))))))))))
                        (l17) ([]) (0))))))
                  ((E.pok 11 [(false, [.bool])] []) ∧ (∀ r30 : Nat → C, r30 = E.res 11 [] → 
                    (Q [.bool (E.gb (r30 0))]))))
                ([]) (0)))))
        ([]) (0) (0) (0))))
theorem w5 {P : Program} {tbl : FuncId → List A → List C} (ce12 : DoC P 12) (ce15 : FreeC P 15) (ce17 : BayC P 17) (ce24 : NewC P 24) {x1 : List (List C)} {x2 : List (List C)} {row : List C} (h : vc5 (stdE P tbl) x1 x2 fun c => c = row) : WPg P tbl rf5 [(false, [.bool])] row [.c (.sl [.int .i64, .int .i64] x1), .c (.sl [.int .i64, .int .i64, .int .i64, .int .i64, .int .i64] x2)] := by
  refine ⟨?_⟩
  revert h
  generalize hE : stdE P tbl = E
  intro h
  unfold vc5 at h
  cbv
  refine ⟨⟨fun hh => (by first | exact hh | trivial)⟩, ?_⟩
  refine ⟨⟨fun hh => (by first | exact hh | trivial)⟩, ?_⟩
  refine ⟨⟨fun hh => (by first | exact hh | trivial)⟩, ?_⟩
  refine ⟨fun hb31 => ?_, fun hb31 => ?_⟩
  · replace h := h.t hb31
    have c32 := h.1
    refine ⟨c32, ?_⟩
    replace h := h.2 _ rfl
    have h : _ = row := h
    subst h
    repeat' (first | exact trivial | exact rfl | refine And.intro ?_ ?_)
  · replace h := h.f hb31
    refine HCall.mk ce24.1 ((ACalls.frame (ce24.2 _ _ _ h) (H := _) (tgt := []) rfl (by decide) ?_).mono fun r H' hq => ?_)
    · intro i o ho
      cases ho
    obtain ⟨r1, H1', hd, _, hr1, hr2⟩ := hq
    rcases hd with ⟨i4, h, rfl, rfl⟩ | ⟨h, rfl, rfl⟩
    · subst hr1 hr2
      cbv
      refine ⟨⟨fun hh => (by first | exact hh | trivial)⟩, ?_⟩
      refine ⟨⟨fun hh => (by first | exact hh | trivial)⟩, ?_⟩
      refine ⟨fun hb33 => ?_, fun hb33 => ?_⟩
      · replace h := h.t hb33
        refine ⟨⟨fun hh => (by first | exact hh | trivial)⟩, ?_⟩
        refine ⟨⟨fun hh => (by first | exact hh | trivial)⟩, ?_⟩
        have c34 := h.1
        refine ⟨c34, ?_⟩
        replace h := h.2 _ rfl
        refine ⟨⟨fun hh => (by first | exact hh | trivial)⟩, ?_⟩
        have h : _ = row := h
        subst h
        repeat' (first | exact trivial | exact rfl | refine And.intro ?_ ?_)
      · replace h := h.f hb33
        exact h.elim
    · subst hr1 hr2
      cbv
      refine ⟨⟨fun hh => (by first | exact hh | trivial)⟩, ?_⟩
      refine ⟨⟨fun hh => (by first | exact hh | trivial)⟩, ?_⟩
      refine ⟨fun hb35 => ?_, fun hb35 => ?_⟩
      · replace h := h.t hb35
        exact h.elim
      · replace h := h.f hb35
        obtain ⟨I, μ, h0, hI⟩ := h
        refine LoopW.inv (fun R R' s h k => RCode.wp_mono _ R R' s h k) (fun p : List (Int × List C) × Int × Int × Int => (fun (m6 : List (Int × List C)) (i7 : Int) (i8 : Int) (i9 : Int) => (⟨[.c (.sl [.int .i64, .int .i64] x1), .c (.sl [.int .i64, .int .i64, .int .i64, .int .i64, .int .i64] x2), .u, .u, .u, .ptr 0 0, .u, .c (.int .i64 i9), .u, .u, .u, .u, .u, .u, .u, .u, .u, .u, .u, .u, .u, .u, .u, .u, .u, .u, .u, .u, .u, .u, .u, .u, .u, .u, .u, .u, .u, .u, .u, .u, .u, .u, .u, .u, .u, .u, .u, .u, .u, .u, .u, .u, .u, .u, .u, .u, .u, .u, .u, .u, .u, .u, .u, .u, .u, .u, .u, .u, .u, .u, .u, .u, .u, .u, .u, .u, .u, .u, .u, .u, .u, .u, .u, .u, .u, .u, .u, .u, .u, .u, .u, .u, .u, .u, .u, .u, .u, .u, .u, .u, .u, .u, .u, .u, .u, .u, .u, .u, .u, .u, .u, .u, .u, .u, .u, .u, .u, .u, .u, .u, .u, .u, .u, .u, .u, .u, .u, .u, .u, .u, .u, .u, .u, .u, .u, .u, .u, .u, .u, .u, .u, .u, .u, .u, .u, .u, .u, .u, .u, .u, .u, .u, .u, .u, .u, .u, .u, .u, .u, .u, .u, .u, .u, .u, .u, .u, .u, .u, .u, .u, .u, .u, .u, .u, .u, .u, .u, .u, .u, .u, .u, .u, .u, .u, .u, .u, .u, .u, .u, .u, .u, .u, .u, .u, .u, .u, .u, .u, .u, .u, .u, .u, .u, .u, .u, .u, .u, .u, .u, .u, .u, .u, .u, .u, .u, .u, .u, .u, .u, .u, .u, .u, .u, .u, .u, .u, .u, .u, .u], [.box 64 [.c (.sl [.int .i64, .int .i64] x1), .map 1, .c (.int .i64 i7), .c (.int .i64 i8)], .mp .i64 true [.int .i64, .int .i64, .int .i64, .int .i64, .int .i64] m6]⟩ : St)) p.1 p.2.1 p.2.2.1 p.2.2.2) (fun p => I p.1 p.2.1 p.2.2.1 p.2.2.2) (fun p => μ p.1 p.2.1 p.2.2.1 p.2.2.2) (_, _, _, _) h0 ?_ ?_
        · refine GSt.ren [0, 1] rfl rfl rfl (fun i hi => absurd hi (Nat.not_lt_zero i)) (Nat.zero_le _) ?_ ?_
          all_goals (repeat' (first | exact trivial | exact Or.inl rfl | exact Or.inr rfl | refine And.intro ?_ ?_))
        · rintro ⟨m6, i7, i8, i9⟩ h
          replace h := hI m6 i7 i8 i9 h
          cbv
          refine ⟨fun hb36 => ?_, fun hb36 => ?_⟩
          · replace h := h.t hb36
            have c37 := h.1
            refine ⟨c37, ?_⟩
            replace h := h.2
            refine ⟨hb36, ?_⟩
            refine HCall.mk ce12.1 ((ACalls.frame (ce12.2.1 _ _ _ _ _ _ _ _ _ _ h) (H := _) (tgt := [0, 1]) rfl (by decide) ?_).mono fun r H' hq => ?_)
            · intro i o ho
              match i, ho with
              | 0, ho => cases ho; rfl
              | 1, ho => cases ho; rfl
            obtain ⟨r1, H1', ⟨m11, i12, i13, i14, i15, h, rfl, rfl⟩, _, rfl, rfl⟩ := hq
            cbv
            refine ⟨(_, _, _, _), h.1, GSt.ren [0, 1] rfl rfl rfl (fun i hi => absurd hi (Nat.not_lt_zero i)) (Nat.zero_le _) ?_ ?_, h.2⟩
            all_goals (repeat' (first | exact trivial | exact Or.inl rfl | exact Or.inr rfl | refine And.intro ?_ ?_))
          · replace h := h.f hb36
            refine HCall.mk ce15.1 ((ACalls.frame (ce15.2.1 _ _ _ _ _ h) (H := _) (tgt := [0, 1]) rfl (by decide) ?_).mono fun r H' hq => ?_)
            · intro i o ho
              match i, ho with
              | 0, ho => cases ho; rfl
              | 1, ho => cases ho; rfl
            obtain ⟨r1, H1', ⟨l16, h, rfl, rfl⟩, _, rfl, rfl⟩ := hq
            cbv
            refine ⟨fun hb38 => ?_, fun hb38 => ?_⟩
            · replace h := h.t hb38
              have h : _ = row := h
              subst h
              repeat' (first | exact trivial | exact rfl | refine And.intro ?_ ?_)
            · replace h := h.f hb38
              obtain ⟨I, μ, h0, hI⟩ := h
              refine LoopW.inv (fun R R' s h k => RCode.wp_mono _ R R' s h k) (fun p : List (List C) × Int => (fun (l17 : List (List C)) (i18 : Int) => (⟨[.c (.sl [.int .i64, .int .i64] x1), .u, .u, .u, .u, .ptr 0 0, .u, .u, .c (.sl [.int .i64] l16), .gr 2, .c (.int .i64 i18), .u, .u, .u, .u, .u, .u, .u, .u, .u, .u, .u, .u, .u, .u, .u, .u, .u, .u, .u, .u, .u, .u, .u, .u, .u, .u, .u, .u, .u, .u, .u, .u, .u, .u, .u, .u, .u, .u, .u, .u, .u, .u, .u, .u, .u, .u, .u, .u, .u, .u, .u, .u, .u, .u, .u, .u, .u, .u, .u, .u, .u, .u, .u, .u, .u, .u, .u, .u, .u, .u, .u, .u, .u, .u, .u, .u, .u, .u, .u, .u, .u, .u, .u, .u, .u, .u, .u, .u, .u, .u, .u, .u, .u, .u, .u, .u, .u, .u, .u, .u, .u, .u, .u, .u, .u, .u, .u, .u, .u, .u, .u, .u, .u, .u, .u, .u, .u, .u, .u, .u, .u, .u, .u, .u, .u, .u, .u, .u, .u, .u, .u, .u, .u, .u, .u, .u, .u, .u, .u, .u, .u, .u, .u, .u, .u, .u, .u, .u, .u, .u, .u, .u, .u, .u, .u, .u, .u, .u, .u, .u, .u, .u, .u, .u, .u, .u, .u, .u, .u, .u, .u, .u, .u, .u, .u, .u, .u, .u, .u, .u, .u, .u, .u, .u, .u, .u, .u, .u, .u, .u, .u, .u, .u, .u, .u, .u, .u, .u, .u, .u, .u, .u, .u, .u, .u, .u, .u, .u, .u, .u, .u, .u, .u, .u, .u, .u, .u, .u], [.box 64 [.c (.sl [.int .i64, .int .i64] x1), .map 1, .c (.int .i64 i7), .c (.int .i64 i8)], .mp .i64 true [.int .i64, .int .i64, .int .i64, .int .i64, .int .i64] m6, .arr 3 [.int .i64] l17]⟩ : St)) p.1 p.2) (fun p => I p.1 p.2) (fun p => μ p.1 p.2) (_, _) h0 ?_ ?_
              · refine GSt.trans (GSt.nil 9 3 [.int .i64] rfl) (GSt.ren [0, 1, 2] rfl rfl rfl (fun i hi => absurd hi (Nat.not_lt_zero i)) (Nat.zero_le _) ?_ ?_)
                all_goals (repeat' (first | exact trivial | exact Or.inl rfl | exact Or.inr rfl | refine And.intro ?_ ?_))
              · rintro ⟨l17, i18⟩ h
                replace h := hI l17 i18 h
                cbv
                refine ⟨fun hb39 => ?_, fun hb39 => ?_⟩
                · replace h := h.t hb39
                  refine HCall.mk ce17.1 ((ACalls.frame (ce17.2.1 _ _ _ _ _ _ h) (H := _) (tgt := [0, 1]) rfl (by decide) ?_).mono fun r H' hq => ?_)
                  · intro i o ho
                    match i, ho with
                    | 0, ho => cases ho; rfl
                    | 1, ho => cases ho; rfl
                  obtain ⟨r1, H1', ⟨l20, i21, h, rfl, rfl⟩, _, rfl, rfl⟩ := hq
                  cbv
                  refine ⟨⟨fun hh => (by first | exact hh | trivial)⟩, ?_⟩
                  refine ⟨⟨fun hh => (by first | exact hh | trivial)⟩, ?_⟩
                  refine ⟨⟨fun hh => (by first | exact hh | trivial)⟩, ?_⟩
                  have c40 := h.1
                  refine ⟨c40, ?_⟩
                  replace h := h.2
                  refine ⟨⟨fun _ => hb39⟩, ?_⟩
                  refine ⟨⟨fun hh => (by first | exact hh | trivial)⟩, ?_⟩
                  refine ⟨⟨fun hh => (by first | exact hh | trivial)⟩, ?_⟩
                  refine ⟨⟨fun hh => (by first | exact hh | trivial)⟩, ?_⟩
                  refine ⟨⟨fun hh => (by first | exact hh | trivial)⟩, ?_⟩
                  refine ⟨⟨fun hh => (by first | exact hh | trivial)⟩, ?_⟩
                  refine ⟨⟨fun hh => (by first | exact hh | trivial)⟩, ?_⟩
                  refine ⟨⟨fun hh => (by first | exact hh | trivial)⟩, ?_⟩
                  refine ⟨⟨fun hh => (by first | exact hh | trivial)⟩, ?_⟩
                  have c41 := h.1
                  refine ⟨c41, ?_⟩
                  replace h := h.2
                  have c42 := h.1
                  refine ⟨c42, ?_⟩
                  replace h := h.2
                  refine ⟨⟨fun hh => (by first | exact hh | trivial)⟩, ?_⟩
                  refine ⟨⟨fun hh => (by first | exact hh | trivial)⟩, ?_⟩
                  refine ⟨⟨fun hh => (by first | exact hh | trivial)⟩, ?_⟩
                  refine ⟨⟨fun hh => (by first | exact hh | trivial)⟩, ?_⟩
                  refine ⟨⟨fun hh => (by first | exact hh | trivial)⟩, ?_⟩
                  refine ⟨c41, ?_⟩
                  refine ⟨⟨fun _ => hb39⟩, ?_⟩
                  refine ⟨⟨fun hh => (by first | exact hh | trivial)⟩, ?_⟩
                  refine ⟨⟨fun hh => (by first | exact hh | trivial)⟩, ?_⟩
                  refine ⟨⟨fun hh => (by first | exact hh | trivial)⟩, ?_⟩
                  refine ⟨⟨fun hh => (by first | exact hh | trivial)⟩, ?_⟩
                  refine ⟨⟨fun hh => (by first | exact hh | trivial)⟩, ?_⟩
                  refine ⟨⟨fun hh => (by first | exact hh | trivial)⟩, ?_⟩
                  refine ⟨⟨fun hh => (by first | exact hh | trivial)⟩, ?_⟩
                  refine ⟨⟨fun hh => (by first | exact hh | trivial)⟩, ?_⟩
                  refine ⟨fun hb43 => ?_, fun hb43 => ?_⟩
                  · replace h := h.t hb43
                    have h : _ = row := h
                    subst h
                    repeat' (first | exact trivial | exact rfl | refine And.intro ?_ ?_)
                  · replace h := h.f hb43
                    obtain ⟨I, μ, h0, hI⟩ := h
                    refine LoopW.inv (fun R R' s h k => RCode.wp_mono _ R R' s h k) (fun p : List (List C) × List (List C) × Int => (fun (l22 : List (List C)) (l23 : List (List C)) (i24 : Int) => (⟨[.c (.sl [.int .i64, .int .i64] x1), .u, .u, .u, .u, .ptr 0 0, .u, .u, .c (.sl [.int .i64] l16), .gr 2, .c (.int .i64 i18), .c (.sl [.int .i64, .int .i64, .int .i64] l20), .u, .gr 3, .c (.int .i64 i24), .u, .u, .u, .u, .u, .u, .u, .u, .u, .u, .u, .u, .u, .u, .u, .u, .u, .u, .u, .u, .u, .u, .u, .u, .u, .u, .u, .u, .u, .u, .u, .u, .u, .u, .u, .u, .u, .u, .u, .u, .u, .u, .u, .u, .u, .u, .u, .u, .u, .u, .u, .u, .u, .u, .u, .u, .u, .u, .u, .u, .u, .u, .u, .u, .u, .u, .u, .u, .u, .u, .u, .u, .u, .u, .u, .u, .u, .u, .u, .u, .u, .u, .u, .u, .u, .u, .u, .u, .u, .u, .u, .u, .u, .u, .u, .u, .u, .u, .u, .u, .u, .u, .u, .u, .u, .u, .u, .u, .u, .u, .u, .u, .u, .u, .u, .u, .u, .u, .u, .u, .u, .u, .u, .u, .u, .u, .u, .u, .u, .u, .u, .u, .u, .u, .u, .u, .u, .u, .u, .u, .u, .u, .u, .u, .u, .u, .u, .u, .u, .u, .u, .u, .u, .u, .u, .u, .u, .u, .u, .u, .u, .u, .u, .u, .u, .u, .u, .u, .u, .u, .u, .u, .u, .u, .u, .u, .u, .u, .u, .u, .u, .u, .u, .u, .u, .u, .u, .u, .u, .u, .u, .u, .u, .u, .u, .u, .u, .u, .u, .u, .u, .u, .u, .u, .u, .u, .u, .u, .u, .u, .u, .u, .u, .u], [.box 64 [.c (.sl [.int .i64, .int .i64] x1), .map 1, .c (.int .i64 i7), .c (.int .i64 i8)], .mp .i64 true [.int .i64, .int .i64, .int .i64, .int .i64, .int .i64] m6, .arr 3 [.int .i64] l22, .arr 3 [.int .i64] l23]⟩ : St)) p.1 p.2.1 p.2.2) (fun p => I p.1 p.2.1 p.2.2) (fun p => μ p.1 p.2.1 p.2.2) (_, _, _) h0 ?_ ?_
                    · refine GSt.trans (GSt.nil 13 3 [.int .i64] rfl) (GSt.ren [0, 1, 2, 3] rfl rfl rfl (fun i hi => absurd hi (Nat.not_lt_zero i)) (Nat.zero_le _) ?_ ?_)
                      all_goals (repeat' (first | exact trivial | exact Or.inl rfl | exact Or.inr rfl | refine And.intro ?_ ?_))
                    · rintro ⟨l22, l23, i24⟩ h
                      replace h := hI l22 l23 i24 h
                      cbv
                      refine ⟨fun hb44 => ?_, fun hb44 => ?_⟩
                      · replace h := h.t hb44
                        have c45 := h.1
                        refine ⟨c45, ?_⟩
                        replace h := h.2
                        refine ⟨hb44, ?_⟩
                        have c46 := h.1
                        refine ⟨c46, ?_⟩
                        replace h := h.2 _ rfl
                        refine ⟨⟨fun hh => (by first | exact hh | trivial)⟩, ?_⟩
                        refine ⟨⟨fun hh => (by first | exact hh | trivial)⟩, ?_⟩
                        refine ⟨⟨fun _ => c45⟩, ?_⟩
                        refine ⟨⟨fun _ => hb44⟩, ?_⟩
                        refine ⟨⟨fun hh => (by first | exact hh | trivial)⟩, ?_⟩
                        refine ⟨⟨fun hh => (by first | exact hh | trivial)⟩, ?_⟩
                        refine ⟨⟨fun hh => (by first | exact hh | trivial)⟩, ?_⟩
                        refine ⟨⟨fun hh => (by first | exact hh | trivial)⟩, ?_⟩
                        refine ⟨⟨fun hh => (by first | exact hh | trivial)⟩, ?_⟩
                        refine ⟨⟨fun hh => (by first | exact hh | trivial)⟩, ?_⟩
                        refine ⟨⟨fun hh => (by first | exact hh | trivial)⟩, ?_⟩
                        refine ⟨⟨fun hh => (by first | exact hh | trivial)⟩, ?_⟩
                        refine ⟨⟨fun hh => (by first | exact hh | trivial)⟩, ?_⟩
                        refine ⟨⟨fun hh => (by first | exact hh | trivial)⟩, ?_⟩
                        refine ⟨⟨fun hh => (by first | exact hh | trivial)⟩, ?_⟩
                        refine ⟨⟨fun hh => (by first | exact hh | trivial)⟩, ?_⟩
                        refine ⟨⟨fun _ => c45⟩, ?_⟩
                        refine ⟨⟨fun _ => hb44⟩, ?_⟩
                        refine ⟨⟨fun hh => (by first | exact hh | trivial)⟩, ?_⟩
                        refine ⟨⟨fun hh => (by first | exact hh | trivial)⟩, ?_⟩
                        refine ⟨⟨fun hh => (by first | exact hh | trivial)⟩, ?_⟩
                        refine ⟨⟨fun hh => (by first | exact hh | trivial)⟩, ?_⟩
                        refine ⟨⟨fun hh => (by first | exact hh | trivial)⟩, ?_⟩
                        have c47 := h.1
                        refine ⟨c47, ?_⟩
                        replace h := h.2
                        have c48 := h.1
                        refine ⟨c48, ?_⟩
                        replace h := h.2
                        refine ⟨⟨fun hh => (by first | exact hh | trivial)⟩, ?_⟩
                        refine ⟨⟨fun hh => (by first | exact hh | trivial)⟩, ?_⟩
                        refine ⟨⟨fun hh => (by first | exact hh | trivial)⟩, ?_⟩
                        refine ⟨⟨fun hh => (by first | exact hh | trivial)⟩, ?_⟩
                        refine ⟨⟨fun hh => (by first | exact hh | trivial)⟩, ?_⟩
                        have c49 := h.1
                        refine ⟨c49, ?_⟩
                        replace h := h.2
                        refine ⟨⟨fun hh => (by first | exact hh | trivial)⟩, ?_⟩
                        refine ⟨fun hb50 => ?_, fun hb50 => ?_⟩
                        · replace h := h.t hb50
                          have h : _ = row := h
                          subst h
                          repeat' (first | exact trivial | exact rfl | refine And.intro ?_ ?_)
                        · replace h := h.f hb50
                          obtain ⟨I, μ, h0, hI⟩ := h
                          refine LoopW.inv (fun R R' s h k => RCode.wp_mono _ R R' s h k) (fun p : Int => (fun (i27 : Int) => (⟨[.c (.sl [.int .i64, .int .i64] x1), .u, .u, .u, .u, .ptr 0 0, .u, .u, .c (.sl [.int .i64] l16), .gr 2, .c (.int .i64 i18), .c (.sl [.int .i64, .int .i64, .int .i64] l20), .u, .gr 3, .c (.int .i64 i24), .u, .u, .c (.int .i64 i27), .u, .u, .u, .u, .u, .u, .u, .u, .u, .u, .u, .u, .u, .u, .u, .u, .u, .u, .u, .u, .u, .u, .u, .u, .u, .u, .u, .u, .u, .u, .u, .u, .u, .u, .u, .u, .u, .u, .u, .u, .u, .u, .u, .u, .u, .u, .u, .u, .u, .u, .u, .u, .u, .u, .u, .u, .u, .u, .u, .u, .u, .u, .u, .u, .u, .u, .u, .u, .u, .u, .u, .u, .u, .u, .u, .u, .u, .u, .u, .u, .u, .u, .u, .u, .u, .u, .u, .u, .u, .u, .u, .u, .u, .u, .u, .u, .u, .u, .u, .u, .u, .u, .u, .u, .u, .u, .u, .u, .u, .u, .u, .u, .u, .u, .u, .u, .u, .u, .u, .u, .u, .u, .u, .u, .u, .u, .u, .u, .u, .u, .u, .u, .u, .u, .u, .u, .u, .u, .u, .u, .u, .u, .u, .u, .u, .u, .u, .u, .u, .u, .u, .u, .u, .u, .u, .u, .u, .u, .u, .u, .u, .u, .u, .u, .u, .u, .u, .u, .u, .u, .u, .u, .u, .u, .u, .u, .u, .u, .u, .u, .u, .u, .u, .u, .u, .u, .u, .u, .u, .u, .u, .u, .u, .u, .u, .u, .u, .u, .u, .u, .u, .u, .u, .u, .u, .u, .u, .u, .u, .u, .u], [.box 64 [.c (.sl [.int .i64, .int .i64] x1), .map 1, .c (.int .i64 i7), .c (.int .i64 i8)], .mp .i64 true [.int .i64, .int .i64, .int .i64, .int .i64, .int .i64] m6, .arr 3 [.int .i64] l22, .arr 3 [.int .i64] l23]⟩ : St)) p) (fun p => I p) (fun p => μ p) _ h0 ?_ ?_
                          · refine GSt.ren [0, 1, 2, 3] rfl rfl rfl (fun i hi => absurd hi (Nat.not_lt_zero i)) (Nat.zero_le _) ?_ ?_
                            all_goals (repeat' (first | exact trivial | exact Or.inl rfl | exact Or.inr rfl | refine And.intro ?_ ?_))
                          · rintro i27 h
                            replace h := hI i27 h
                            cbv
                            refine ⟨fun hb51 => ?_, fun hb51 => ?_⟩
                            · replace h := h.t hb51
                              have c52 := h.1
                              refine ⟨c52, ?_⟩
                              replace h := h.2
                              refine ⟨hb51, ?_⟩
                              refine ⟨c45, ?_⟩
                              refine ⟨hb44, ?_⟩
                              refine ⟨fun hb53 => ?_, fun hb53 => ?_⟩
                              · replace h := h.t hb53
                                have h : _ = row := h
                                subst h
                                repeat' (first | exact trivial | exact rfl | refine And.intro ?_ ?_)
                              · replace h := h.f hb53
                                refine ⟨_, h.1, GSt.ren [0, 1, 2, 3] rfl rfl rfl (fun i hi => absurd hi (Nat.not_lt_zero i)) (Nat.zero_le _) ?_ ?_, h.2⟩
                                all_goals (repeat' (first | exact trivial | exact Or.inl rfl | exact Or.inr rfl | refine And.intro ?_ ?_))
                            · replace h := h.f hb51
                              refine ⟨c45, ?_⟩
                              refine ⟨hb44, ?_⟩
                              have c54 := h.1
                              refine ⟨c54, ?_⟩
                              replace h := h.2
                              refine ⟨c45, ?_⟩
                              refine ⟨hb44, ?_⟩
                              have c55 := h.1
                              refine ⟨c55, ?_⟩
                              replace h := h.2
                              refine ⟨(_, _, _), h.1, GSt.ren [0, 1, 5, 7] rfl rfl rfl (fun i hi => absurd hi (Nat.not_lt_zero i)) (Nat.zero_le _) ?_ ?_, h.2⟩
                              all_goals (repeat' (first | exact trivial | exact Or.inl rfl | exact Or.inr rfl | refine And.intro ?_ ?_))
                      · replace h := h.f hb44
                        have c56 := h.1
                        refine ⟨c56, ?_⟩
                        replace h := h.2 _ rfl
                        refine ⟨⟨fun hh => (by first | exact hh | trivial)⟩, ?_⟩
                        refine ⟨⟨fun hh => (by first | exact hh | trivial)⟩, ?_⟩
                        refine ⟨⟨fun hh => (by first | exact hh | trivial)⟩, ?_⟩
                        refine ⟨⟨fun hh => (by first | exact hh | trivial)⟩, ?_⟩
                        have c57 := h.1
                        refine ⟨c57, ?_⟩
                        replace h := h.2
                        refine ⟨⟨fun hh => (by first | exact hh | trivial)⟩, ?_⟩
                        refine ⟨⟨fun hh => (by first | exact hh | trivial)⟩, ?_⟩
                        refine ⟨⟨fun hh => (by first | exact hh | trivial)⟩, ?_⟩
                        refine ⟨⟨fun hh => (by first | exact hh | trivial)⟩, ?_⟩
                        refine ⟨⟨fun hh => (by first | exact hh | trivial)⟩, ?_⟩
                        refine ⟨⟨fun hh => (by first | exact hh | trivial)⟩, ?_⟩
                        refine ⟨⟨fun hh => (by first | exact hh | trivial)⟩, ?_⟩
                        have c58 := h.1
                        refine ⟨c58, ?_⟩
                        replace h := h.2
                        have c59 := h.1
                        refine ⟨c59, ?_⟩
                        replace h := h.2
                        refine ⟨⟨fun hh => (by first | exact hh | trivial)⟩, ?_⟩
                        refine ⟨⟨fun hh => (by first | exact hh | trivial)⟩, ?_⟩
                        refine ⟨⟨fun hh => (by first | exact hh | trivial)⟩, ?_⟩
                        refine ⟨⟨fun hh => (by first | exact hh | trivial)⟩, ?_⟩
                        refine ⟨⟨fun hh => (by first | exact hh | trivial)⟩, ?_⟩
                        have c60 := h.1
                        refine ⟨c60, ?_⟩
                        replace h := h.2
                        refine ⟨⟨fun hh => (by first | exact hh | trivial)⟩, ?_⟩
                        have c61 := h.1
                        refine ⟨c61, ?_⟩
                        replace h := h.2
                        refine ⟨⟨fun hh => (by first | exact hh | trivial)⟩, ?_⟩
                        refine ⟨fun hb62 => ?_, fun hb62 => ?_⟩
                        · replace h := h.t hb62
                          have h : _ = row := h
                          subst h
                          repeat' (first | exact trivial | exact rfl | refine And.intro ?_ ?_)
                        · replace h := h.f hb62
                          refine ⟨(_, _), h.1, GSt.ren [0, 1, 2] rfl rfl rfl (fun i hi => absurd hi (Nat.not_lt_zero i)) (Nat.zero_le _) ?_ ?_, h.2⟩
                          all_goals (repeat' (first | exact trivial | exact Or.inl rfl | exact Or.inr rfl | refine And.intro ?_ ?_))
                · replace h := h.f hb39
                  have c63 := h.1
                  refine ⟨c63, ?_⟩
                  replace h := h.2 _ rfl
                  have h : _ = row := h
                  subst h
                  repeat' (first | exact trivial | exact rfl | refine And.intro ?_ ?_)
end Go.Proofs.Ytniijahjfbgfpaa.V
