/- Warehouses: the walk of what is said of them: empties. No conditions. -/
import Derived.Test.YtniijahjfbgfpaaGB
set_option linter.unusedVariables false
set_option linter.unusedSimpArgs false
namespace Go.Proofs.Ytniijahjfbgfpaa.V
open Go Go.Eng
set_option maxRecDepth 1000000
set_option maxHeartbeats 4000000
/-- papermill papermilllaw54.StoreEmpties -/
def rf6 : RFn := ⟨(.seq (.ops 0 [⟨(some 6), (.v (.mv (.k (.c (.bool false))))), none, []⟩]) (.seq (.seq (.ops 0 [⟨(some 25), (.v (.mv (.t 0))), none, []⟩, ⟨(some 26), (.v (.lenS (.t 25))), none, []⟩, ⟨(some 27), (.v (.bin .gtr (.t 26) (.k (.c (.int .i64 40))))), none, []⟩, ⟨(some 28), (.v (.mv (.t 27))), none, []⟩, ⟨(some 29), (.v (.mv (.t 1))), (some ⟨28, false⟩), [(.t 1)]⟩, ⟨(some 30), (.v (.lenS (.t 29))), (some ⟨28, false⟩), [(.t 29)]⟩, ⟨(some 31), (.v (.bin .gtr (.t 30) (.k (.c (.int .i64 120))))), (some ⟨28, false⟩), [(.t 30), (.k (.c (.int .i64 120)))]⟩, ⟨(some 32), (.v (.pick (.t 28) (.k (.c (.bool true))) (.t 31))), none, []⟩]) (.cond (.t 32) (.seq (.ops 0 [⟨(some 33), (.v (.det 11 [⟨false, [.bool]⟩] [])), none, []⟩, ⟨(some 6), (.v (.mv (.t 33))), none, []⟩]) .ret) .skip)) (.seq (.ops 0 [⟨(some 35), (.v (.mv (.t 0))), none, []⟩, ⟨(some 36), (.h (.call 24 [(.t 35)])), none, []⟩, ⟨(some 34), (.v (.mv (.t 36))), none, []⟩, ⟨(some 37), (.v (.ext (.t 34) 0)), none, []⟩, ⟨(some 38), (.v (.ext (.t 34) 1)), none, []⟩, ⟨(some 7), (.v (.mv (.t 37))), none, []⟩, ⟨(some 8), (.v (.mv (.t 38))), none, []⟩]) (.seq (.seq (.ops 0 [⟨(some 39), (.v (.mv (.t 8))), none, []⟩, ⟨(some 40), (.v (.bin .neq (.t 39) (.k (.c (.int .i64 0))))), none, []⟩, ⟨(some 41), (.v (.mv (.t 40))), none, []⟩, ⟨(some 42), (.v (.mv (.t 7))), (some ⟨41, false⟩), [(.t 7)]⟩, ⟨(some 43), (.v (.eqn 1 false (.t 42))), (some ⟨41, false⟩), [(.t 42), (.k .np)]⟩, ⟨(some 44), (.v (.pick (.t 41) (.k (.c (.bool true))) (.t 43))), none, []⟩, ⟨(some 45), (.v (.mv (.t 44))), none, []⟩, ⟨(some 46), (.v (.mv (.t 0))), (some ⟨45, false⟩), [(.t 0)]⟩, ⟨(some 47), (.v (.lenS (.t 46))), (some ⟨45, false⟩), [(.t 46)]⟩, ⟨(some 48), (.v (.bin .eql (.t 47) (.k (.c (.int .i64 0))))), (some ⟨45, false⟩), [(.t 47), (.k (.c (.int .i64 0)))]⟩, ⟨(some 49), (.v (.pick (.t 45) (.k (.c (.bool true))) (.t 48))), none, []⟩]) (.cond (.t 49) (.seq (.ops 0 [⟨(some 50), (.v (.mv (.t 8))), none, []⟩, ⟨(some 51), (.v (.bin .neq (.t 50) (.k (.c (.int .i64 0))))), none, []⟩, ⟨(some 52), (.v (.mv (.t 51))), none, []⟩, ⟨(some 53), (.v (.mv (.t 7))), (some ⟨52, true⟩), [(.t 7)]⟩, ⟨(some 54), (.v (.eqn 1 false (.t 53))), (some ⟨52, true⟩), [(.t 53), (.k .np)]⟩, ⟨(some 55), (.v (.pick (.t 52) (.t 54) (.k (.c (.bool false))))), none, []⟩, ⟨(some 56), (.v (.mv (.t 55))), none, []⟩, ⟨(some 57), (.v (.det 11 [⟨false, [.bool]⟩] [])), (some ⟨56, true⟩), [(.k (.fn 11 []))]⟩, ⟨(some 58), (.v (.pick (.t 56) (.t 57) (.k (.c (.bool false))))), none, []⟩, ⟨(some 6), (.v (.mv (.t 58))), none, []⟩]) .ret) .skip)) (.seq (.seq (.ops 0 [⟨(some 9), (.v (.mv (.k (.c (.int .i64 0))))), none, []⟩]) (.block 0 (.loop (.seq (.seq (.ops 0 [⟨(some 59), (.v (.mv (.t 9))), none, []⟩, ⟨(some 60), (.v (.mv (.t 1))), none, []⟩, ⟨(some 61), (.v (.lenS (.t 60))), none, []⟩, ⟨(some 62), (.v (.bin .lss (.t 59) (.t 61))), none, []⟩]) (.cond (.t 62) .skip (.exit 0))) (.seq (.block 1 (.ops 0 [⟨(some 65), (.v (.mv (.t 7))), none, []⟩, ⟨(some 66), (.v (.mv (.t 1))), none, []⟩, ⟨(some 67), (.v (.mv (.t 9))), none, []⟩, ⟨(some 68), (.v (.ia 5 (.t 66) (.t 67))), none, []⟩, ⟨(some 69), (.v (.lda 5 (.t 68))), none, []⟩, ⟨(some 70), (.h (.call 12 [(.t 65), (.t 69)])), none, []⟩])) (.ops 0 [⟨(some 63), (.v (.mv (.t 9))), none, []⟩, ⟨(some 64), (.v (.bin .add (.t 63) (.k (.c (.int .i64 1))))), none, []⟩, ⟨(some 9), (.v (.mv (.t 64))), none, []⟩])))))) (.seq (.ops 0 [⟨(some 71), (.v (.mv (.t 2))), none, []⟩, ⟨(some 72), (.v (.cv .i64 (.t 71))), none, []⟩, ⟨(some 73), (.v (.mv (.t 0))), none, []⟩, ⟨(some 74), (.v (.lenS (.t 73))), none, []⟩, ⟨(some 75), (.v (.bin .rem (.t 72) (.t 74))), none, []⟩, ⟨(some 10), (.v (.mv (.t 75))), none, []⟩]) (.seq (.ops 0 [⟨(some 77), (.v (.mv (.t 7))), none, []⟩, ⟨(some 78), (.v (.mv (.t 10))), none, []⟩, ⟨(some 79), (.h (.call 17 [(.t 77), (.t 78)])), none, []⟩, ⟨(some 76), (.v (.mv (.t 79))), none, []⟩, ⟨(some 80), (.v (.ext (.t 76) 0)), none, []⟩, ⟨(some 81), (.v (.ext (.t 76) 1)), none, []⟩, ⟨(some 11), (.v (.mv (.t 80))), none, []⟩, ⟨(some 12), (.v (.mv (.t 81))), none, []⟩]) (.seq (.seq (.ops 0 [⟨(some 82), (.v (.mv (.t 12))), none, []⟩, ⟨(some 83), (.v (.bin .neq (.t 82) (.k (.c (.int .i64 0))))), none, []⟩, ⟨(some 84), (.v (.mv (.t 83))), none, []⟩, ⟨(some 85), (.v (.mv (.t 11))), (some ⟨84, false⟩), [(.t 11)]⟩, ⟨(some 86), (.v (.lenS (.t 85))), (some ⟨84, false⟩), [(.t 85)]⟩, ⟨(some 87), (.v (.bin .gtr (.t 86) (.k (.c (.int .i64 200))))), (some ⟨84, false⟩), [(.t 86), (.k (.c (.int .i64 200)))]⟩, ⟨(some 88), (.v (.pick (.t 84) (.k (.c (.bool true))) (.t 87))), none, []⟩]) (.cond (.t 88) (.seq (.ops 0 [⟨(some 6), (.v (.mv (.k (.c (.bool false))))), none, []⟩]) .ret) .skip)) (.seq (.ops 0 [⟨(some 13), (.v (.mv (.k (.c .nil)))), none, []⟩]) (.seq (.seq (.ops 0 [⟨(some 14), (.v (.mv (.k (.c (.int .i64 0))))), none, []⟩]) (.block 2 (.loop (.seq (.seq (.ops 0 [⟨(some 89), (.v (.mv (.t 14))), none, []⟩, ⟨(some 90), (.v (.mv (.t 11))), none, []⟩, ⟨(some 91), (.v (.lenS (.t 90))), none, []⟩, ⟨(some 92), (.v (.bin .lss (.t 89) (.t 91))), none, []⟩]) (.cond (.t 92) .skip (.exit 2))) (.seq (.block 3 (.ops 2 [⟨(some 95), (.v (.mv (.t 13))), none, []⟩, ⟨(some 96), (.v (.mv (.t 11))), none, []⟩, ⟨(some 97), (.v (.mv (.t 11))), none, []⟩, ⟨(some 98), (.v (.lenS (.t 97))), none, []⟩, ⟨(some 99), (.v (.bin .sub (.t 98) (.k (.c (.int .i64 1))))), none, []⟩, ⟨(some 100), (.v (.mv (.t 14))), none, []⟩, ⟨(some 101), (.v (.bin .sub (.t 99) (.t 100))), none, []⟩, ⟨(some 102), (.v (.ia 3 (.t 96) (.t 101))), none, []⟩, ⟨(some 103), (.v (.fa 0 (.t 102))), none, []⟩, ⟨(some 104), (.v (.ld (.t 103))), none, []⟩, ⟨(some 105), (.v (.bsl 0 3 [(.int .i64)] [(.t 104)])), none, []⟩, ⟨(some 106), (.v (.app 1 3 [(.int .i64)] 17592186044416 (.t 95) (.t 105))), none, []⟩, ⟨(some 13), (.v (.mv (.t 106))), none, []⟩])) (.ops 0 [⟨(some 93), (.v (.mv (.t 14))), none, []⟩, ⟨(some 94), (.v (.bin .add (.t 93) (.k (.c (.int .i64 1))))), none, []⟩, ⟨(some 14), (.v (.mv (.t 94))), none, []⟩])))))) (.seq (.seq (.ops 0 [⟨(some 15), (.v (.mv (.k (.c (.int .i64 0))))), none, []⟩]) (.block 4 (.loop (.seq (.seq (.ops 0 [⟨(some 107), (.v (.mv (.t 15))), none, []⟩, ⟨(some 108), (.v (.mv (.t 11))), none, []⟩, ⟨(some 109), (.v (.lenS (.t 108))), none, []⟩, ⟨(some 110), (.v (.bin .lss (.t 107) (.t 109))), none, []⟩]) (.cond (.t 110) .skip (.exit 4))) (.seq (.block 5 (.seq (.ops 0 [⟨(some 114), (.v (.mv (.t 7))), none, []⟩, ⟨(some 115), (.v (.mv (.t 13))), none, []⟩, ⟨(some 116), (.v (.det 22 [⟨false, [(.int .i64)]⟩, ⟨false, [(.int .i64)]⟩] [(.t 114), (.t 115)])), none, []⟩, ⟨(some 113), (.v (.mv (.t 116))), none, []⟩, ⟨(some 117), (.v (.ext (.t 113) 0)), none, []⟩, ⟨(some 118), (.v (.ext (.t 113) 1)), none, []⟩, ⟨(some 16), (.v (.mv (.t 117))), none, []⟩, ⟨(some 17), (.v (.mv (.t 118))), none, []⟩]) (.seq (.ops 0 [⟨(some 120), (.v (.mv (.t 7))), none, []⟩, ⟨(some 121), (.v (.mv (.t 16))), none, []⟩, ⟨(some 122), (.h (.call 25 [(.t 120), (.t 121)])), none, []⟩, ⟨(some 119), (.v (.mv (.t 122))), none, []⟩, ⟨(some 123), (.v (.ext (.t 119) 0)), none, []⟩, ⟨(some 124), (.v (.ext (.t 119) 1)), none, []⟩, ⟨(some 18), (.v (.mv (.t 123))), none, []⟩, ⟨(some 19), (.v (.mv (.t 124))), none, []⟩]) (.seq (.seq (.ops 0 [⟨(some 125), (.v (.mv (.t 17))), none, []⟩, ⟨(some 126), (.v (.bin .neq (.t 125) (.k (.c (.int .i64 0))))), none, []⟩, ⟨(some 127), (.v (.mv (.t 126))), none, []⟩, ⟨(some 128), (.v (.mv (.t 19))), (some ⟨127, false⟩), [(.t 19)]⟩, ⟨(some 129), (.v (.bin .neq (.t 128) (.k (.c (.int .i64 0))))), (some ⟨127, false⟩), [(.t 128), (.k (.c (.int .i64 0)))]⟩, ⟨(some 130), (.v (.pick (.t 127) (.k (.c (.bool true))) (.t 129))), none, []⟩, ⟨(some 131), (.v (.mv (.t 130))), none, []⟩, ⟨(some 132), (.v (.mv (.t 16))), (some ⟨131, false⟩), [(.t 16)]⟩, ⟨(some 133), (.v (.mv (.t 11))), (some ⟨131, false⟩), [(.t 11)]⟩, ⟨(some 134), (.v (.mv (.t 15))), (some ⟨131, false⟩), [(.t 15)]⟩, ⟨(some 135), (.v (.ia 3 (.t 133) (.t 134))), (some ⟨131, false⟩), [(.t 133), (.t 134)]⟩, ⟨(some 136), (.v (.fa 0 (.t 135))), (some ⟨131, false⟩), [(.t 135)]⟩, ⟨(some 137), (.v (.ld (.t 136))), (some ⟨131, false⟩), [(.t 136)]⟩, ⟨(some 138), (.v (.bin .neq (.t 132) (.t 137))), (some ⟨131, false⟩), [(.t 132), (.t 137)]⟩, ⟨(some 139), (.v (.pick (.t 131) (.k (.c (.bool true))) (.t 138))), none, []⟩, ⟨(some 140), (.v (.mv (.t 139))), none, []⟩, ⟨(some 141), (.v (.mv (.t 18))), (some ⟨140, false⟩), [(.t 18)]⟩, ⟨(some 142), (.v (.mv (.t 10))), (some ⟨140, false⟩), [(.t 10)]⟩, ⟨(some 143), (.v (.bin .neq (.t 141) (.t 142))), (some ⟨140, false⟩), [(.t 141), (.t 142)]⟩, ⟨(some 144), (.v (.pick (.t 140) (.k (.c (.bool true))) (.t 143))), none, []⟩]) (.cond (.t 144) (.seq (.ops 0 [⟨(some 6), (.v (.mv (.k (.c (.bool false))))), none, []⟩]) .ret) .skip)) (.seq (.ops 1 [⟨(some 146), (.v (.mv (.t 7))), none, []⟩, ⟨(some 147), (.v (.mv (.t 16))), none, []⟩, ⟨(some 148), (.v (.det 20 [⟨true, [(.int .i64), (.int .i64), (.int .i64)]⟩, ⟨false, [.bool]⟩] [(.t 146), (.t 147)])), none, []⟩, ⟨(some 145), (.v (.mv (.t 148))), none, []⟩, ⟨(some 149), (.v (.ext (.t 145) 0)), none, []⟩, ⟨(some 150), (.v (.ext (.t 145) 1)), none, []⟩, ⟨(some 20), (.v (.alloc 0 44 [(.c (.int .i64 0)), (.c (.int .i64 0)), (.c (.int .i64 0))])), none, []⟩, ⟨none, (.v (.st 3 (.t 20) (.t 149))), none, []⟩, ⟨(some 21), (.v (.mv (.t 150))), none, []⟩]) (.seq (.ops 0 [⟨(some 151), (.v (.mv (.t 21))), none, []⟩]) (.cond (.t 151) (.seq (.ops 0 [⟨(some 6), (.v (.mv (.k (.c (.bool false))))), none, []⟩]) .ret) .skip))))))) (.ops 0 [⟨(some 111), (.v (.mv (.t 15))), none, []⟩, ⟨(some 112), (.v (.bin .add (.t 111) (.k (.c (.int .i64 1))))), none, []⟩, ⟨(some 15), (.v (.mv (.t 112))), none, []⟩])))))) (.seq (.ops 0 [⟨(some 153), (.v (.mv (.t 7))), none, []⟩, ⟨(some 154), (.v (.mv (.t 10))), none, []⟩, ⟨(some 155), (.h (.call 17 [(.t 153), (.t 154)])), none, []⟩, ⟨(some 152), (.v (.mv (.t 155))), none, []⟩, ⟨(some 156), (.v (.ext (.t 152) 0)), none, []⟩, ⟨(some 157), (.v (.ext (.t 152) 1)), none, []⟩, ⟨(some 22), (.v (.mv (.t 156))), none, []⟩, ⟨(some 23), (.v (.mv (.t 157))), none, []⟩]) (.seq (.ops 0 [⟨(some 158), (.v (.mv (.t 7))), none, []⟩, ⟨(some 159), (.h (.call 15 [(.t 158)])), none, []⟩, ⟨(some 24), (.v (.mv (.t 159))), none, []⟩]) (.seq (.any 0 [⟨0, ⟨[], ⟨(some 160), (.v (.mv (.t 23))), none, []⟩⟩⟩, ⟨1, ⟨[0], ⟨(some 161), (.v (.bin .eql (.t 160) (.k (.c (.int .i64 0))))), none, []⟩⟩⟩, ⟨2, ⟨[1, 0], ⟨(some 162), (.v (.mv (.t 161))), none, []⟩⟩⟩, ⟨3, ⟨[2, 1, 0], ⟨(some 163), (.v (.mv (.t 22))), (some ⟨162, true⟩), [(.t 22)]⟩⟩⟩, ⟨4, ⟨[3, 2, 1, 0], ⟨(some 164), (.v (.lenS (.t 163))), (some ⟨162, true⟩), [(.t 163)]⟩⟩⟩, ⟨5, ⟨[4, 3, 2, 1, 0], ⟨(some 165), (.v (.bin .eql (.t 164) (.k (.c (.int .i64 0))))), (some ⟨162, true⟩), [(.t 164), (.k (.c (.int .i64 0)))]⟩⟩⟩, ⟨6, ⟨[5, 4, 3, 2, 1, 0], ⟨(some 166), (.v (.pick (.t 162) (.t 165) (.k (.c (.bool false))))), none, []⟩⟩⟩, ⟨7, ⟨[6, 5, 4, 3, 2, 1, 0], ⟨(some 167), (.v (.mv (.t 166))), none, []⟩⟩⟩, ⟨8, ⟨[7, 6, 5, 4, 3, 2, 1, 0], ⟨(some 168), (.v (.mv (.t 24))), (some ⟨167, true⟩), [(.t 24)]⟩⟩⟩, ⟨9, ⟨[8, 7, 6, 5, 4, 3, 2, 1, 0], ⟨(some 169), (.v (.lenS (.t 168))), (some ⟨167, true⟩), [(.t 168)]⟩⟩⟩, ⟨10, ⟨[7, 6, 5, 4, 3, 2, 1, 0], ⟨(some 170), (.v (.mv (.t 0))), (some ⟨167, true⟩), [(.t 0)]⟩⟩⟩, ⟨11, ⟨[10, 7, 6, 5, 4, 3, 2, 1, 0], ⟨(some 171), (.v (.lenS (.t 170))), (some ⟨167, true⟩), [(.t 170)]⟩⟩⟩, ⟨12, ⟨[9, 8, 11, 10, 7, 6, 5, 4, 3, 2, 1, 0], ⟨(some 172), (.v (.bin .eql (.t 169) (.t 171))), (some ⟨167, true⟩), [(.t 169), (.t 171)]⟩⟩⟩, ⟨13, ⟨[12, 9, 8, 11, 10, 7, 6, 5, 4, 3, 2, 1, 0], ⟨(some 173), (.v (.pick (.t 167) (.t 172) (.k (.c (.bool false))))), none, []⟩⟩⟩, ⟨14, ⟨[13, 12, 9, 8, 11, 10, 7, 6, 5, 4, 3, 2, 1, 0], ⟨(some 174), (.v (.mv (.t 173))), none, []⟩⟩⟩, ⟨15, ⟨[14, 13, 12, 9, 8, 11, 10, 7, 6, 5, 4, 3, 2, 1, 0], ⟨(some 175), (.v (.mv (.t 24))), (some ⟨174, true⟩), [(.t 24)]⟩⟩⟩, ⟨16, ⟨[14, 13, 12, 9, 8, 11, 10, 7, 6, 5, 4, 3, 2, 1, 0], ⟨(some 176), (.v (.mv (.t 10))), (some ⟨174, true⟩), [(.t 10)]⟩⟩⟩, ⟨17, ⟨[15, 16, 14, 13, 12, 9, 8, 11, 10, 7, 6, 5, 4, 3, 2, 1, 0], ⟨(some 177), (.v (.ia 1 (.t 175) (.t 176))), (some ⟨174, true⟩), [(.t 175), (.t 176)]⟩⟩⟩, ⟨18, ⟨[17, 15, 16, 14, 13, 12, 9, 8, 11, 10, 7, 6, 5, 4, 3, 2, 1, 0], ⟨(some 178), (.v (.ld (.t 177))), (some ⟨174, true⟩), [(.t 177)]⟩⟩⟩, ⟨19, ⟨[14, 13, 12, 9, 8, 11, 10, 7, 6, 5, 4, 3, 2, 1, 0], ⟨(some 179), (.v (.mv (.t 0))), (some ⟨174, true⟩), [(.t 0)]⟩⟩⟩, ⟨20, ⟨[14, 13, 12, 9, 8, 11, 10, 7, 6, 5, 4, 3, 2, 1, 0], ⟨(some 180), (.v (.mv (.t 10))), (some ⟨174, true⟩), [(.t 10)]⟩⟩⟩, ⟨21, ⟨[19, 20, 14, 13, 12, 9, 8, 11, 10, 7, 6, 5, 4, 3, 2, 1, 0], ⟨(some 181), (.v (.ia 2 (.t 179) (.t 180))), (some ⟨174, true⟩), [(.t 179), (.t 180)]⟩⟩⟩, ⟨22, ⟨[21, 19, 20, 14, 13, 12, 9, 8, 11, 10, 7, 6, 5, 4, 3, 2, 1, 0], ⟨(some 182), (.v (.fa 0 (.t 181))), (some ⟨174, true⟩), [(.t 181)]⟩⟩⟩, ⟨23, ⟨[22, 21, 19, 20, 14, 13, 12, 9, 8, 11, 10, 7, 6, 5, 4, 3, 2, 1, 0], ⟨(some 183), (.v (.ld (.t 182))), (some ⟨174, true⟩), [(.t 182)]⟩⟩⟩, ⟨24, ⟨[18, 17, 15, 16, 23, 22, 21, 19, 20, 14, 13, 12, 9, 8, 11, 10, 7, 6, 5, 4, 3, 2, 1, 0], ⟨(some 184), (.v (.bin .eql (.t 178) (.t 183))), (some ⟨174, true⟩), [(.t 178), (.t 183)]⟩⟩⟩, ⟨25, ⟨[24, 18, 17, 15, 16, 23, 22, 21, 19, 20, 14, 13, 12, 9, 8, 11, 10, 7, 6, 5, 4, 3, 2, 1, 0], ⟨(some 185), (.v (.pick (.t 174) (.t 184) (.k (.c (.bool false))))), none, []⟩⟩⟩, ⟨26, ⟨[25, 24, 18, 17, 15, 16, 23, 22, 21, 19, 20, 14, 13, 12, 9, 8, 11, 10, 7, 6, 5, 4, 3, 2, 1, 0], ⟨(some 186), (.v (.mv (.t 185))), none, []⟩⟩⟩, ⟨27, ⟨[26, 25, 24, 18, 17, 15, 16, 23, 22, 21, 19, 20, 14, 13, 12, 9, 8, 11, 10, 7, 6, 5, 4, 3, 2, 1, 0], ⟨(some 187), (.v (.det 11 [⟨false, [.bool]⟩] [])), (some ⟨186, true⟩), [(.k (.fn 11 []))]⟩⟩⟩, ⟨28, ⟨[27, 26, 25, 24, 18, 17, 15, 16, 23, 22, 21, 19, 20, 14, 13, 12, 9, 8, 11, 10, 7, 6, 5, 4, 3, 2, 1, 0], ⟨(some 188), (.v (.pick (.t 186) (.t 187) (.k (.c (.bool false))))), none, []⟩⟩⟩, ⟨29, ⟨[28, 27, 26, 25, 24, 18, 17, 15, 16, 23, 22, 21, 19, 20, 14, 13, 12, 9, 8, 11, 10, 7, 6, 5, 4, 3, 2, 1, 0], ⟨(some 6), (.v (.mv (.t 188))), none, []⟩⟩⟩]) .ret)))))))))))))), 189, [(.t 6)]⟩
theorem h6 : fnR Try.prog DD 6 = some rf6 := by kernel_rfl
def vc6 (E : Env) (x1 : List (List C)) (x2 : List (List C)) (x3 : Int) (Q : List C → Prop) : Prop :=
  Br (E.bite (E.lt 40 (E.len x1)) true (E.lt 120 (E.len x2)))
  ((E.pok 11 [(false, [.bool])] []) ∧ (∀ r4 : Nat → C, r4 = E.res 11 [] → 
    (Q [.bool (E.gb (r4 0))])))
  (spNew (x1) (fun (i5 : Int) => 
    Br (E.bite (E.bite (E.not (E.eq i5 0)) true true) true (E.eq (E.len x1) 0))
      ((Imp (E.bite (E.not (E.eq i5 0)) true false) (E.pok 11 [(false, [.bool])] [])) ∧ (∀ r6 : Nat → C, r6 = E.res 11 [] → 
        (Q [.bool (E.bite (E.bite (E.not (E.eq i5 0)) true false) (E.gb (r6 0)) false)])))
      (False)) (
    Br (E.bite (E.bite (E.not (E.eq 0 0)) true false) true (E.eq (E.len x1) 0))
      ((Imp (E.bite (E.not (E.eq 0 0)) false false) (E.pok 11 [(false, [.bool])] [])) ∧ (∀ r7 : Nat → C, r7 = E.res 11 [] → 
        (Q [.bool (E.bite (E.bite (E.not (E.eq 0 0)) false false) (E.gb (r7 0)) false)])))
      (LoopP4 (fun (m8 : List (Int × List C)) (i9 : Int) (i10 : Int) (i11 : Int) (K12 : (List (Int × List C)) → (Int) → (Int) → (Int) → Prop) =>
        Br (E.lt i11 (E.len x2))
          (((E.le 0 i11) = true) ∧ 
            (spDo (x1) (m8) (i9) (i10) ((E.gi (E.cell x2 i11 0))) ((E.gi (E.cell x2 i11 1))) ((E.gi (E.cell x2 i11 2))) ((E.gi (E.cell x2 i11 3))) ((E.gi (E.cell x2 i11 4))) (fun (m13 : List (Int × List C)) (i14 : Int) (i15 : Int) (i16 : Int) (i17 : Int) => 
            K12 (m13) (i14) (i15) ((E.add .i64 i11 1)))))
          (((E.eq (E.len x1) 0) = false) ∧ 
            (spBay (x1) (m8) (i9) (i10) ((E.rem .i64 (E.wrap .i64 x3) (E.len x1))) (fun (l18 : List (List C)) (i19 : Int) => 
            Br (E.bite (E.not (E.eq i19 0)) true (E.lt 200 (E.len l18)))
              (Q [.bool false])
              (LoopP2 (fun (l20 : List (List C)) (i21 : Int) (K22 : (List (List C)) → (Int) → Prop) =>
                Br (E.lt i21 (E.len l18))
                  (((E.le 0 (E.sub .i64 (E.sub .i64 (E.len l18) 1) i21)) = true) ∧ ((E.lt (E.sub .i64 (E.sub .i64 (E.len l18) 1) i21) (E.len l18)) = true) ∧ 
                    (((E.le (E.pl (E.len l20) (E.len [[.int .i64 (E.gi (E.cell l18 (E.sub .i64 (E.sub .i64 (E.len l18) 1) i21) 0))]])) 17592186044416) = true) ∧ 
                    (K22 ((E.cat l20 [[.int .i64 (E.gi (E.cell l18 (E.sub .i64 (E.sub .i64 (E.len l18) 1) i21) 0))]])) ((E.add .i64 i21 1)))))
                  (LoopP4 (fun (m23 : List (Int × List C)) (i24 : Int) (i25 : Int) (i26 : Int) (K27 : (List (Int × List C)) → (Int) → (Int) → (Int) → Prop) =>
                    Br (E.lt i26 (E.len l18))
                      ((E.pok 22 [(false, [.int .i64]), (false, [.int .i64])] [.el [.sl [.int .i64, .int .i64], .mp .i64 true [.int .i64, .int .i64, .int .i64, .int .i64, .int .i64], .int .i64, .int .i64] [[.sl [.int .i64, .int .i64] x1, .mp .i64 true [.int .i64, .int .i64, .int .i64, .int .i64, .int .i64] m23, .int .i64 i24, .int .i64 i25]] 0 0, .c (.sl [.int .i64] l20)]) ∧ (∀ r28 : Nat → C, r28 = E.res 22 [.el [.sl [.int .i64, .int .i64], .mp .i64 true [.int .i64, .int .i64, .int .i64, .int .i64, .int .i64], .int .i64, .int .i64] [[.sl [.int .i64, .int .i64] x1, .mp .i64 true [.int .i64, .int .i64, .int .i64, .int .i64, .int .i64] m23, .int .i64 i24, .int .i64 i25]] 0 0, .c (.sl [.int .i64] l20)] → 
                        (spTake (x1) (m23) (i24) (i25) ((E.gi (r28 0))) (fun (m29 : List (Int × List C)) (i30 : Int) (i31 : Int) (i32 : Int) (i33 : Int) => 
                        (Imp (E.not (E.bite (E.not (E.eq (E.gi (r28 1)) 0)) true (E.not (E.eq i33 0)))) ((E.le 0 i26) = true)) ∧ 
                          (Br (E.bite (E.bite (E.bite (E.not (E.eq (E.gi (r28 1)) 0)) true (E.not (E.eq i33 0))) true (E.not (E.eq (E.gi (r28 0)) (E.gi (E.cell l18 i26 0))))) true (E.not (E.eq i32 (E.rem .i64 (E.wrap .i64 x3) (E.len x1)))))
                          (Q [.bool false])
                          ((E.pok 20 [(true, [.int .i64, .int .i64, .int .i64]), (false, [.bool])] [.el [.sl [.int .i64, .int .i64], .mp .i64 true [.int .i64, .int .i64, .int .i64, .int .i64, .int .i64], .int .i64, .int .i64] [[.sl [.int .i64, .int .i64] x1, .mp .i64 true [.int .i64, .int .i64, .int .i64, .int .i64, .int .i64] m29, .int .i64 i30, .int .i64 i31]] 0 0, .c (.int .i64 (E.gi (r28 0)))]) ∧ (∀ r34 : Nat → C, r34 = E.res 20 [.el [.sl [.int .i64, .int .i64], .mp .i64 true [.int .i64, .int .i64, .int .i64, .int .i64, .int .i64], .int .i64, .int .i64] [[.sl [.int .i64, .int .i64] x1, .mp .i64 true [.int .i64, .int .i64, .int .i64, .int .i64, .int .i64] m29, .int .i64 i30, .int .i64 i31]] 0 0, .c (.int .i64 (E.gi (r28 0)))] → 
                            (Br (E.gb (r34 3))
                            (Q [.bool false])
                            (K27 (m29) (i30) (i31) ((E.add .i64 i26 1)))))))))))
                      (spBay (x1) (m23) (i24) (i25) ((E.rem .i64 (E.wrap .i64 x3) (E.len x1))) (fun (l35 : List (List C)) (i36 : Int) => 
                        spFree (x1) (m23) (i24) (i25) (fun (l37 : List (List C)) => 
                          (Imp (E.bite (E.bite (E.eq i36 0) (E.eq (E.len l35) 0) false) (E.eq (E.len l37) (E.len x1)) false) ((E.le 0 (E.rem .i64 (E.wrap .i64 x3) (E.len x1))) = true)) ∧ (Imp (E.bite (E.bite (E.eq i36 0) (E.eq (E.len l35) 0) false) (E.eq (E.len l37) (E.len x1)) false) ((E.lt (E.rem .i64 (E.wrap .i64 x3) (E.len x1)) (E.len l37)) = true)) ∧ 
                            ((Imp (E.bite (E.bite (E.eq i36 0) (E.eq (E.len l35) 0) false) (E.eq (E.len l37) (E.len x1)) false) ((E.lt (E.rem .i64 (E.wrap .i64 x3) (E.len x1)) (E.len x1)) = true)) ∧ 
                            ((Imp (E.bite (E.bite (E.bite (E.eq i36 0) (E.eq (E.len l35) 0) false) (E.eq (E.len l37) (E.len x1)) false) (E.eq (E.gi (E.cell l37 (E.rem .i64 (E.wrap .i64 x3) (E.len x1)) 0)) (E.gi (E.cell x1 (E.rem .i64 (E.wrap .i64 x3) (E.len x1)) 0))) false) (E.pok 11 [(false, [.bool])] [])) ∧ (∀ r38 : Nat → C, r38 = E.res 11 [] → 
                            (Q [.bool (E.bite (E.bite (E.bite (E.bite (E.eq i36 0) (E.eq (E.len l35) 0) false) (E.eq (E.len l37) (E.len x1)) false) (E.eq (E.gi (E.cell l37 (E.rem .i64 (E.wrap .i64 x3) (E.len x1)) 0)) (E.gi (E.cell x1 (E.rem .i64 (E.wrap .i64 x3) (E.len x1)) 0))) false) (E.gb (r38 0)) false)]))))))))
                    (m8) (i9) (i10) (0)))
                ([]) (0))))))
        ([]) (0) (0) (0))))
theorem w6 {P : Program} {tbl : FuncId → List A → List C} (ce12 : DoC P 12) (ce15 : FreeC P 15) (ce17 : BayC P 17) (ce24 : NewC P 24) (ce25 : TakeC P 25) {x1 : List (List C)} {x2 : List (List C)} {x3 : Int} {row : List C} (h : vc6 (stdE P tbl) x1 x2 x3 fun c => c = row) : WPg P tbl rf6 [(false, [.bool])] row [.c (.sl [.int .i64, .int .i64] x1), .c (.sl [.int .i64, .int .i64, .int .i64, .int .i64, .int .i64] x2), .c (.int .u8 x3)] := by
  refine ⟨?_⟩
  revert h
  generalize hE : stdE P tbl = E
  intro h
  unfold vc6 at h
  cbv
  refine ⟨⟨fun hh => hh⟩, ?_⟩
  refine ⟨⟨fun hh => hh⟩, ?_⟩
  refine ⟨⟨fun hh => hh⟩, ?_⟩
  refine ⟨fun hb39 => ?_, fun hb39 => ?_⟩
  · replace h := h.t hb39
    have c40 := h.1
    refine ⟨c40, ?_⟩
    replace h := h.2 _ rfl
    have h : _ = row := h
    subst h
    repeat' (first | exact trivial | exact rfl | refine And.intro ?_ ?_)
  · replace h := h.f hb39
    refine HCall.mk ce24.1 ((ACalls.frame (ce24.2 _ _ _ h) (H := _) (tgt := []) rfl (by decide) ?_).mono fun r H' hq => ?_)
    · intro i o ho
      cases ho
    obtain ⟨r1, H1', hd, _, hr1, hr2⟩ := hq
    rcases hd with ⟨i5, h, rfl, rfl⟩ | ⟨h, rfl, rfl⟩
    · subst hr1 hr2
      cbv
      refine ⟨⟨fun hh => hh⟩, ?_⟩
      refine ⟨⟨fun hh => hh⟩, ?_⟩
      refine ⟨⟨fun hh => hh⟩, ?_⟩
      refine ⟨⟨fun hh => hh⟩, ?_⟩
      refine ⟨⟨fun hh => hh⟩, ?_⟩
      refine ⟨fun hb41 => ?_, fun hb41 => ?_⟩
      · replace h := h.t hb41
        refine ⟨⟨fun hh => hh⟩, ?_⟩
        refine ⟨⟨fun hh => hh⟩, ?_⟩
        have c42 := h.1
        refine ⟨c42, ?_⟩
        replace h := h.2 _ rfl
        refine ⟨⟨fun hh => hh⟩, ?_⟩
        have h : _ = row := h
        subst h
        repeat' (first | exact trivial | exact rfl | refine And.intro ?_ ?_)
      · replace h := h.f hb41
        exact h.elim
    · subst hr1 hr2
      cbv
      refine ⟨⟨fun hh => hh⟩, ?_⟩
      refine ⟨⟨fun hh => hh⟩, ?_⟩
      refine ⟨⟨fun hh => hh⟩, ?_⟩
      refine ⟨⟨fun hh => hh⟩, ?_⟩
      refine ⟨⟨fun hh => hh⟩, ?_⟩
      refine ⟨fun hb43 => ?_, fun hb43 => ?_⟩
      · replace h := h.t hb43
        refine ⟨⟨fun hh => hh⟩, ?_⟩
        refine ⟨⟨fun hh => hh⟩, ?_⟩
        have c44 := h.1
        refine ⟨c44, ?_⟩
        replace h := h.2 _ rfl
        refine ⟨⟨fun hh => hh⟩, ?_⟩
        have h : _ = row := h
        subst h
        repeat' (first | exact trivial | exact rfl | refine And.intro ?_ ?_)
      · replace h := h.f hb43
        obtain ⟨I, μ, h0, hI⟩ := h
        refine LoopW.inv (fun R R' s h k => RCode.wp_mono _ R R' s h k) (fun p : List (Int × List C) × Int × Int × Int => (fun (m8 : List (Int × List C)) (i9 : Int) (i10 : Int) (i11 : Int) => (⟨[.c (.sl [.int .i64, .int .i64] x1), .c (.sl [.int .i64, .int .i64, .int .i64, .int .i64, .int .i64] x2), .c (.int .u8 x3), .u, .u, .u, .u, .ptr 0 0, .u, .c (.int .i64 i11), .u, .u, .u, .u, .u, .u, .u, .u, .u, .u, .u, .u, .u, .u, .u, .u, .u, .u, .u, .u, .u, .u, .u, .u, .u, .u, .u, .u, .u, .u, .u, .u, .u, .u, .u, .u, .u, .u, .u, .u, .u, .u, .u, .u, .u, .u, .u, .u, .u, .u, .u, .u, .u, .u, .u, .u, .u, .u, .u, .u, .u, .u, .u, .u, .u, .u, .u, .u, .u, .u, .u, .u, .u, .u, .u, .u, .u, .u, .u, .u, .u, .u, .u, .u, .u, .u, .u, .u, .u, .u, .u, .u, .u, .u, .u, .u, .u, .u, .u, .u, .u, .u, .u, .u, .u, .u, .u, .u, .u, .u, .u, .u, .u, .u, .u, .u, .u, .u, .u, .u, .u, .u, .u, .u, .u, .u, .u, .u, .u, .u, .u, .u, .u, .u, .u, .u, .u, .u, .u, .u, .u, .u, .u, .u, .u, .u, .u, .u, .u, .u, .u, .u, .u, .u, .u, .u, .u, .u, .u, .u, .u, .u, .u, .u, .u, .u, .u, .u, .u, .u, .u, .u, .u, .u, .u, .u, .u, .u, .u], [.box 64 [.c (.sl [.int .i64, .int .i64] x1), .map 1, .c (.int .i64 i9), .c (.int .i64 i10)], .mp .i64 true [.int .i64, .int .i64, .int .i64, .int .i64, .int .i64] m8]⟩ : St)) p.1 p.2.1 p.2.2.1 p.2.2.2) (fun p => I p.1 p.2.1 p.2.2.1 p.2.2.2) (fun p => μ p.1 p.2.1 p.2.2.1 p.2.2.2) (_, _, _, _) h0 ?_ ?_
        · refine GSt.ren [0, 1] rfl rfl rfl (fun i hi => absurd hi (Nat.not_lt_zero i)) (Nat.zero_le _) ?_ ?_
          all_goals (repeat' (first | exact trivial | exact Or.inl rfl | exact Or.inr rfl | refine And.intro ?_ ?_))
        · rintro ⟨m8, i9, i10, i11⟩ h
          replace h := hI m8 i9 i10 i11 h
          cbv
          refine ⟨fun hb45 => ?_, fun hb45 => ?_⟩
          · replace h := h.t hb45
            have c46 := h.1
            refine ⟨c46, ?_⟩
            replace h := h.2
            refine ⟨hb45, ?_⟩
            refine HCall.mk ce12.1 ((ACalls.frame (ce12.2.1 _ _ _ _ _ _ _ _ _ _ h) (H := _) (tgt := [0, 1]) rfl (by decide) ?_).mono fun r H' hq => ?_)
            · intro i o ho
              match i, ho with
              | 0, ho => cases ho; rfl
              | 1, ho => cases ho; rfl
            obtain ⟨r1, H1', ⟨m13, i14, i15, i16, i17, h, rfl, rfl⟩, _, rfl, rfl⟩ := hq
            cbv
            refine ⟨(_, _, _, _), h.1, GSt.ren [0, 1] rfl rfl rfl (fun i hi => absurd hi (Nat.not_lt_zero i)) (Nat.zero_le _) ?_ ?_, h.2⟩
            all_goals (repeat' (first | exact trivial | exact Or.inl rfl | exact Or.inr rfl | refine And.intro ?_ ?_))
          · replace h := h.f hb45
            have c47 := h.1
            refine ⟨c47, ?_⟩
            replace h := h.2
            refine HCall.mk ce17.1 ((ACalls.frame (ce17.2.1 _ _ _ _ _ _ h) (H := _) (tgt := [0, 1]) rfl (by decide) ?_).mono fun r H' hq => ?_)
            · intro i o ho
              match i, ho with
              | 0, ho => cases ho; rfl
              | 1, ho => cases ho; rfl
            obtain ⟨r1, H1', ⟨l18, i19, h, rfl, rfl⟩, _, rfl, rfl⟩ := hq
            cbv
            refine ⟨⟨fun hh => hh⟩, ?_⟩
            refine ⟨⟨fun hh => hh⟩, ?_⟩
            refine ⟨⟨fun hh => hh⟩, ?_⟩
            refine ⟨fun hb48 => ?_, fun hb48 => ?_⟩
            · replace h := h.t hb48
              have h : _ = row := h
              subst h
              repeat' (first | exact trivial | exact rfl | refine And.intro ?_ ?_)
            · replace h := h.f hb48
              obtain ⟨I, μ, h0, hI⟩ := h
              refine LoopW.inv (fun R R' s h k => RCode.wp_mono _ R R' s h k) (fun p : List (List C) × Int => (fun (l20 : List (List C)) (i21 : Int) => (⟨[.c (.sl [.int .i64, .int .i64] x1), .u, .u, .u, .u, .u, .u, .ptr 0 0, .u, .u, .c (.int .i64 (E.rem .i64 (E.wrap .i64 x3) (E.len x1))), .c (.sl [.int .i64, .int .i64, .int .i64] l18), .u, .gr 2, .c (.int .i64 i21), .u, .u, .u, .u, .u, .u, .u, .u, .u, .u, .u, .u, .u, .u, .u, .u, .u, .u, .u, .u, .u, .u, .u, .u, .u, .u, .u, .u, .u, .u, .u, .u, .u, .u, .u, .u, .u, .u, .u, .u, .u, .u, .u, .u, .u, .u, .u, .u, .u, .u, .u, .u, .u, .u, .u, .u, .u, .u, .u, .u, .u, .u, .u, .u, .u, .u, .u, .u, .u, .u, .u, .u, .u, .u, .u, .u, .u, .u, .u, .u, .u, .u, .u, .u, .u, .u, .u, .u, .u, .u, .u, .u, .u, .u, .u, .u, .u, .u, .u, .u, .u, .u, .u, .u, .u, .u, .u, .u, .u, .u, .u, .u, .u, .u, .u, .u, .u, .u, .u, .u, .u, .u, .u, .u, .u, .u, .u, .u, .u, .u, .u, .u, .u, .u, .u, .u, .u, .u, .u, .u, .u, .u, .u, .u, .u, .u, .u, .u, .u, .u, .u, .u, .u, .u, .u, .u, .u, .u, .u, .u, .u, .u, .u, .u, .u, .u, .u, .u, .u, .u, .u, .u, .u, .u], [.box 64 [.c (.sl [.int .i64, .int .i64] x1), .map 1, .c (.int .i64 i9), .c (.int .i64 i10)], .mp .i64 true [.int .i64, .int .i64, .int .i64, .int .i64, .int .i64] m8, .arr 3 [.int .i64] l20]⟩ : St)) p.1 p.2) (fun p => I p.1 p.2) (fun p => μ p.1 p.2) (_, _) h0 ?_ ?_
              · refine GSt.trans (GSt.nil 13 3 [.int .i64] rfl) (GSt.ren [0, 1, 2] rfl rfl rfl (fun i hi => absurd hi (Nat.not_lt_zero i)) (Nat.zero_le _) ?_ ?_)
                all_goals (repeat' (first | exact trivial | exact Or.inl rfl | exact Or.inr rfl | refine And.intro ?_ ?_))
              · rintro ⟨l20, i21⟩ h
                replace h := hI l20 i21 h
                cbv
                refine ⟨fun hb49 => ?_, fun hb49 => ?_⟩
                · replace h := h.t hb49
                  have c50 := h.1
                  refine ⟨c50, ?_⟩
                  replace h := h.2
                  have c51 := h.1
                  refine ⟨c51, ?_⟩
                  replace h := h.2
                  have c52 := h.1
                  refine ⟨c52, ?_⟩
                  replace h := h.2
                  refine ⟨(_, _), h.1, GSt.ren [0, 1, 4] rfl rfl rfl (fun i hi => absurd hi (Nat.not_lt_zero i)) (Nat.zero_le _) ?_ ?_, h.2⟩
                  all_goals (repeat' (first | exact trivial | exact Or.inl rfl | exact Or.inr rfl | refine And.intro ?_ ?_))
                · replace h := h.f hb49
                  obtain ⟨I, μ, h0, hI⟩ := h
                  refine LoopW.inv (fun R R' s h k => RCode.wp_mono _ R R' s h k) (fun p : List (Int × List C) × Int × Int × Int => (fun (m23 : List (Int × List C)) (i24 : Int) (i25 : Int) (i26 : Int) => (⟨[.c (.sl [.int .i64, .int .i64] x1), .u, .u, .u, .u, .u, .u, .ptr 0 0, .u, .u, .c (.int .i64 (E.rem .i64 (E.wrap .i64 x3) (E.len x1))), .c (.sl [.int .i64, .int .i64, .int .i64] l18), .u, .gr 2, .u, .c (.int .i64 i26), .u, .u, .u, .u, .u, .u, .u, .u, .u, .u, .u, .u, .u, .u, .u, .u, .u, .u, .u, .u, .u, .u, .u, .u, .u, .u, .u, .u, .u, .u, .u, .u, .u, .u, .u, .u, .u, .u, .u, .u, .u, .u, .u, .u, .u, .u, .u, .u, .u, .u, .u, .u, .u, .u, .u, .u, .u, .u, .u, .u, .u, .u, .u, .u, .u, .u, .u, .u, .u, .u, .u, .u, .u, .u, .u, .u, .u, .u, .u, .u, .u, .u, .u, .u, .u, .u, .u, .u, .u, .u, .u, .u, .u, .u, .u, .u, .u, .u, .u, .u, .u, .u, .u, .u, .u, .u, .u, .u, .u, .u, .u, .u, .u, .u, .u, .u, .u, .u, .u, .u, .u, .u, .u, .u, .u, .u, .u, .u, .u, .u, .u, .u, .u, .u, .u, .u, .u, .u, .u, .u, .u, .u, .u, .u, .u, .u, .u, .u, .u, .u, .u, .u, .u, .u, .u, .u, .u, .u, .u, .u, .u, .u, .u, .u, .u, .u, .u, .u, .u, .u, .u, .u, .u], [.box 64 [.c (.sl [.int .i64, .int .i64] x1), .map 1, .c (.int .i64 i24), .c (.int .i64 i25)], .mp .i64 true [.int .i64, .int .i64, .int .i64, .int .i64, .int .i64] m23, .arr 3 [.int .i64] l20]⟩ : St)) p.1 p.2.1 p.2.2.1 p.2.2.2) (fun p => I p.1 p.2.1 p.2.2.1 p.2.2.2) (fun p => μ p.1 p.2.1 p.2.2.1 p.2.2.2) (_, _, _, _) h0 ?_ ?_
                  · refine GSt.ren [0, 1, 2] rfl rfl rfl (fun i hi => absurd hi (Nat.not_lt_zero i)) (Nat.zero_le _) ?_ ?_
                    all_goals (repeat' (first | exact trivial | exact Or.inl rfl | exact Or.inr rfl | refine And.intro ?_ ?_))
                  · rintro ⟨m23, i24, i25, i26⟩ h
                    replace h := hI m23 i24 i25 i26 h
                    cbv
                    refine ⟨fun hb53 => ?_, fun hb53 => ?_⟩
                    · replace h := h.t hb53
                      have c54 := h.1
                      refine ⟨c54, ?_⟩
                      replace h := h.2 _ rfl
                      refine HCall.mk ce25.1 ((ACalls.frame (ce25.2.1 _ _ _ _ _ _ h) (H := _) (tgt := [0, 1]) rfl (by decide) ?_).mono fun r H' hq => ?_)
                      · intro i o ho
                        match i, ho with
                        | 0, ho => cases ho; rfl
                        | 1, ho => cases ho; rfl
                      obtain ⟨r1, H1', ⟨m29, i30, i31, i32, i33, h, rfl, rfl⟩, _, rfl, rfl⟩ := hq
                      cbv
                      refine ⟨⟨fun hh => hh⟩, ?_⟩
                      refine ⟨⟨fun hh => hh⟩, ?_⟩
                      refine ⟨⟨fun hh => hh⟩, ?_⟩
                      refine ⟨⟨fun hh => hh⟩, ?_⟩
                      have c55 := h.1
                      refine ⟨c55, ?_⟩
                      replace h := h.2
                      refine ⟨⟨fun _ => hb53⟩, ?_⟩
                      refine ⟨⟨fun hh => hh⟩, ?_⟩
                      refine ⟨⟨fun hh => hh⟩, ?_⟩
                      refine ⟨⟨fun hh => hh⟩, ?_⟩
                      refine ⟨⟨fun hh => hh⟩, ?_⟩
                      refine ⟨⟨fun hh => hh⟩, ?_⟩
                      refine ⟨⟨fun hh => hh⟩, ?_⟩
                      refine ⟨⟨fun hh => hh⟩, ?_⟩
                      refine ⟨⟨fun hh => hh⟩, ?_⟩
                      refine ⟨fun hb56 => ?_, fun hb56 => ?_⟩
                      · replace h := h.t hb56
                        have h : _ = row := h
                        subst h
                        repeat' (first | exact trivial | exact rfl | refine And.intro ?_ ?_)
                      · replace h := h.f hb56
                        have c57 := h.1
                        refine ⟨c57, ?_⟩
                        replace h := h.2 _ rfl
                        refine ⟨fun hb58 => ?_, fun hb58 => ?_⟩
                        · replace h := h.t hb58
                          have h : _ = row := h
                          subst h
                          repeat' (first | exact trivial | exact rfl | refine And.intro ?_ ?_)
                        · replace h := h.f hb58
                          refine ⟨(_, _, _, _), h.1, GSt.ren [0, 1, 2] rfl rfl rfl (fun i hi => absurd hi (Nat.not_lt_zero i)) (Nat.zero_le _) ?_ ?_, h.2⟩
                          all_goals (repeat' (first | exact trivial | exact Or.inl rfl | exact Or.inr rfl | refine And.intro ?_ ?_))
                    · replace h := h.f hb53
                      refine HCall.mk ce17.1 ((ACalls.frame (ce17.2.1 _ _ _ _ _ _ h) (H := _) (tgt := [0, 1]) rfl (by decide) ?_).mono fun r H' hq => ?_)
                      · intro i o ho
                        match i, ho with
                        | 0, ho => cases ho; rfl
                        | 1, ho => cases ho; rfl
                      obtain ⟨r1, H1', ⟨l35, i36, h, rfl, rfl⟩, _, rfl, rfl⟩ := hq
                      cbv
                      refine HCall.mk ce15.1 ((ACalls.frame (ce15.2.1 _ _ _ _ _ h) (H := _) (tgt := [0, 1]) rfl (by decide) ?_).mono fun r H' hq => ?_)
                      · intro i o ho
                        match i, ho with
                        | 0, ho => cases ho; rfl
                        | 1, ho => cases ho; rfl
                      obtain ⟨r1, H1', ⟨l37, h, rfl, rfl⟩, _, rfl, rfl⟩ := hq
                      cbv
                      refine ⟨⟨fun hh => hh⟩, ?_⟩
                      refine ⟨⟨fun hh => hh⟩, ?_⟩
                      refine ⟨⟨fun hh => hh⟩, ?_⟩
                      refine ⟨⟨fun hh => hh⟩, ?_⟩
                      refine ⟨⟨fun hh => hh⟩, ?_⟩
                      refine ⟨⟨fun hh => hh⟩, ?_⟩
                      refine ⟨⟨fun hh => hh⟩, ?_⟩
                      refine ⟨⟨fun hh => hh⟩, ?_⟩
                      refine ⟨⟨fun hh => hh⟩, ?_⟩
                      refine ⟨⟨fun hh => hh⟩, ?_⟩
                      have c59 := h.1
                      refine ⟨c59, ?_⟩
                      replace h := h.2
                      have c60 := h.1
                      refine ⟨c60, ?_⟩
                      replace h := h.2
                      refine ⟨⟨fun hh => hh⟩, ?_⟩
                      refine ⟨⟨fun hh => hh⟩, ?_⟩
                      refine ⟨⟨fun hh => hh⟩, ?_⟩
                      refine ⟨c59, ?_⟩
                      have c61 := h.1
                      refine ⟨c61, ?_⟩
                      replace h := h.2
                      refine ⟨⟨fun hh => hh⟩, ?_⟩
                      refine ⟨⟨fun hh => hh⟩, ?_⟩
                      refine ⟨⟨fun hh => hh⟩, ?_⟩
                      refine ⟨⟨fun hh => hh⟩, ?_⟩
                      refine ⟨⟨fun hh => hh⟩, ?_⟩
                      have c62 := h.1
                      refine ⟨c62, ?_⟩
                      replace h := h.2 _ rfl
                      refine ⟨⟨fun hh => hh⟩, ?_⟩
                      have h : _ = row := h
                      subst h
                      repeat' (first | exact trivial | exact rfl | refine And.intro ?_ ?_)
end Go.Proofs.Ytniijahjfbgfpaa.V
