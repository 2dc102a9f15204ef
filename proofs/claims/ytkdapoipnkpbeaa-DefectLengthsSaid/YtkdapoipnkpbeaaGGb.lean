/- Defects: the walk of DefectLengths. No conditions. -/
import Derived.Test.YtkdapoipnkpbeaaPairs
set_option linter.unusedVariables false
set_option linter.unusedSimpArgs false
namespace Go.Proofs.Ytkdapoipnkpbeaa.V
open Go Go.Eng
set_option maxRecDepth 1000000
set_option maxHeartbeats 1000000
/-- papermill papermilllaw36.DefectLengths -/
def rf4 : RFn := ⟨(.seq (.ops 0 [⟨(some 4), (.v (.mv (.k (.c (.bool false))))), none, []⟩]) (.seq (.seq (.ops 0 [⟨(some 17), (.v (.mv (.t 0))), none, []⟩, ⟨(some 18), (.v (.lenS (.t 17))), none, []⟩, ⟨(some 19), (.v (.bin .gtr (.t 18) (.k (.c (.int .i64 60))))), none, []⟩]) (.cond (.t 19) (.seq (.ops 0 [⟨(some 20), (.v (.det 10 [⟨false, [.bool]⟩] [])), none, []⟩, ⟨(some 4), (.v (.mv (.t 20))), none, []⟩]) .ret) .skip)) (.seq (.ops 0 [⟨(some 22), (.v (.mv (.t 0))), none, []⟩, ⟨(some 23), (.v (.det 16 [⟨false, [(.sl [(.int .i64), (.int .i64)])]⟩, ⟨false, [(.int .i64)]⟩] [(.t 22)])), none, []⟩, ⟨(some 21), (.v (.mv (.t 23))), none, []⟩, ⟨(some 24), (.v (.ext (.t 21) 0)), none, []⟩, ⟨(some 25), (.v (.ext (.t 21) 1)), none, []⟩, ⟨(some 5), (.v (.mv (.t 24))), none, []⟩, ⟨(some 6), (.v (.mv (.t 25))), none, []⟩]) (.seq (.seq (.ops 0 [⟨(some 26), (.v (.mv (.t 6))), none, []⟩, ⟨(some 27), (.v (.bin .neq (.t 26) (.k (.c (.int .i64 0))))), none, []⟩]) (.cond (.t 27) (.seq (.ops 0 [⟨(some 28), (.v (.mv (.t 5))), none, []⟩, ⟨(some 29), (.v (.lenS (.t 28))), none, []⟩, ⟨(some 30), (.v (.bin .eql (.t 29) (.k (.c (.int .i64 0))))), none, []⟩, ⟨(some 31), (.v (.mv (.t 30))), none, []⟩, ⟨(some 32), (.v (.det 10 [⟨false, [.bool]⟩] [])), (some ⟨31, true⟩), [(.k (.fn 10 []))]⟩, ⟨(some 33), (.v (.pick (.t 31) (.t 32) (.k (.c (.bool false))))), none, []⟩, ⟨(some 4), (.v (.mv (.t 33))), none, []⟩]) .ret) .skip)) (.seq (.ops 0 [⟨(some 7), (.v (.mv (.k (.c (.bool false))))), none, []⟩, ⟨(some 8), (.v (.mv (.k (.c (.bool false))))), none, []⟩]) (.seq (.seq (.ops 0 [⟨(some 9), (.v (.mv (.k (.c (.int .i64 0))))), none, []⟩]) (.block 0 (.loop (.seq (.seq (.ops 0 [⟨(some 34), (.v (.mv (.t 9))), none, []⟩, ⟨(some 35), (.v (.mv (.t 5))), none, []⟩, ⟨(some 36), (.v (.lenS (.t 35))), none, []⟩, ⟨(some 37), (.v (.bin .lss (.t 34) (.t 36))), none, []⟩]) (.cond (.t 37) .skip (.exit 0))) (.seq (.block 1 (.seq (.ops 0 [⟨(some 40), (.v (.mv (.t 7))), none, []⟩, ⟨(some 41), (.v (.mv (.t 40))), none, []⟩, ⟨(some 42), (.v (.mv (.t 5))), (some ⟨41, false⟩), [(.t 5)]⟩, ⟨(some 43), (.v (.mv (.t 9))), (some ⟨41, false⟩), [(.t 9)]⟩, ⟨(some 44), (.v (.ia 2 (.t 42) (.t 43))), (some ⟨41, false⟩), [(.t 42), (.t 43)]⟩, ⟨(some 45), (.v (.fa 0 (.t 44))), (some ⟨41, false⟩), [(.t 44)]⟩, ⟨(some 46), (.v (.ld (.t 45))), (some ⟨41, false⟩), [(.t 45)]⟩, ⟨(some 47), (.v (.mv (.t 1))), (some ⟨41, false⟩), [(.t 1)]⟩, ⟨(some 48), (.v (.bin .leq (.t 46) (.t 47))), (some ⟨41, false⟩), [(.t 46), (.t 47)]⟩, ⟨(some 49), (.v (.mv (.t 48))), (some ⟨41, false⟩), [(.t 48)]⟩, ⟨(some 50), (.v (.mv (.t 1))), (some ⟨49, true⟩), [(.t 1)]⟩, ⟨(some 51), (.v (.mv (.t 5))), (some ⟨49, true⟩), [(.t 5)]⟩, ⟨(some 52), (.v (.mv (.t 9))), (some ⟨49, true⟩), [(.t 9)]⟩, ⟨(some 53), (.v (.ia 2 (.t 51) (.t 52))), (some ⟨49, true⟩), [(.t 51), (.t 52)]⟩, ⟨(some 54), (.v (.fa 1 (.t 53))), (some ⟨49, true⟩), [(.t 53)]⟩, ⟨(some 55), (.v (.ld (.t 54))), (some ⟨49, true⟩), [(.t 54)]⟩, ⟨(some 56), (.v (.bin .lss (.t 50) (.t 55))), (some ⟨49, true⟩), [(.t 50), (.t 55)]⟩, ⟨(some 57), (.v (.pick (.t 49) (.t 56) (.k (.c (.bool false))))), (some ⟨41, false⟩), [(.t 49), (.t 56), (.k (.c (.bool false)))]⟩, ⟨(some 58), (.v (.pick (.t 41) (.k (.c (.bool true))) (.t 57))), none, []⟩, ⟨(some 7), (.v (.mv (.t 58))), none, []⟩]) (.seq (.any 0 [⟨0, ⟨[], ⟨(some 59), (.v (.mv (.t 5))), none, []⟩⟩⟩, ⟨1, ⟨[], ⟨(some 60), (.v (.mv (.t 9))), none, []⟩⟩⟩, ⟨2, ⟨[0, 1], ⟨(some 61), (.v (.ia 2 (.t 59) (.t 60))), none, []⟩⟩⟩, ⟨3, ⟨[2, 0, 1], ⟨(some 62), (.v (.fa 0 (.t 61))), none, []⟩⟩⟩, ⟨4, ⟨[3, 2, 0, 1], ⟨(some 63), (.v (.ld (.t 62))), none, []⟩⟩⟩, ⟨5, ⟨[], ⟨(some 64), (.v (.mv (.t 5))), none, []⟩⟩⟩, ⟨6, ⟨[], ⟨(some 65), (.v (.mv (.t 9))), none, []⟩⟩⟩, ⟨7, ⟨[5, 6], ⟨(some 66), (.v (.ia 2 (.t 64) (.t 65))), none, []⟩⟩⟩, ⟨8, ⟨[7, 5, 6], ⟨(some 67), (.v (.fa 1 (.t 66))), none, []⟩⟩⟩, ⟨9, ⟨[8, 7, 5, 6], ⟨(some 68), (.v (.ld (.t 67))), none, []⟩⟩⟩, ⟨10, ⟨[4, 3, 2, 0, 1, 9, 8, 7, 5, 6], ⟨(some 69), (.v (.bin .geq (.t 63) (.t 68))), none, []⟩⟩⟩, ⟨11, ⟨[10, 4, 3, 2, 0, 1, 9, 8, 7, 5, 6], ⟨(some 70), (.v (.mv (.t 69))), none, []⟩⟩⟩, ⟨12, ⟨[11, 10, 4, 3, 2, 0, 1, 9, 8, 7, 5, 6], ⟨(some 71), (.v (.mv (.t 9))), (some ⟨70, false⟩), [(.t 9)]⟩⟩⟩, ⟨13, ⟨[12, 11, 10, 4, 3, 2, 0, 1, 9, 8, 7, 5, 6], ⟨(some 72), (.v (.bin .gtr (.t 71) (.k (.c (.int .i64 0))))), (some ⟨70, false⟩), [(.t 71), (.k (.c (.int .i64 0)))]⟩⟩⟩, ⟨14, ⟨[13, 12, 11, 10, 4, 3, 2, 0, 1, 9, 8, 7, 5, 6], ⟨(some 73), (.v (.mv (.t 72))), (some ⟨70, false⟩), [(.t 72)]⟩⟩⟩, ⟨15, ⟨[14, 13, 12, 11, 10, 4, 3, 2, 0, 1, 9, 8, 7, 5, 6], ⟨(some 74), (.v (.mv (.t 5))), (some ⟨73, true⟩), [(.t 5)]⟩⟩⟩, ⟨16, ⟨[14, 13, 12, 11, 10, 4, 3, 2, 0, 1, 9, 8, 7, 5, 6], ⟨(some 75), (.v (.mv (.t 9))), (some ⟨73, true⟩), [(.t 9)]⟩⟩⟩, ⟨17, ⟨[15, 16, 14, 13, 12, 11, 10, 4, 3, 2, 0, 1, 9, 8, 7, 5, 6], ⟨(some 76), (.v (.ia 2 (.t 74) (.t 75))), (some ⟨73, true⟩), [(.t 74), (.t 75)]⟩⟩⟩, ⟨18, ⟨[17, 15, 16, 14, 13, 12, 11, 10, 4, 3, 2, 0, 1, 9, 8, 7, 5, 6], ⟨(some 77), (.v (.fa 0 (.t 76))), (some ⟨73, true⟩), [(.t 76)]⟩⟩⟩, ⟨19, ⟨[18, 17, 15, 16, 14, 13, 12, 11, 10, 4, 3, 2, 0, 1, 9, 8, 7, 5, 6], ⟨(some 78), (.v (.ld (.t 77))), (some ⟨73, true⟩), [(.t 77)]⟩⟩⟩, ⟨20, ⟨[14, 13, 12, 11, 10, 4, 3, 2, 0, 1, 9, 8, 7, 5, 6], ⟨(some 79), (.v (.mv (.t 5))), (some ⟨73, true⟩), [(.t 5)]⟩⟩⟩, ⟨21, ⟨[14, 13, 12, 11, 10, 4, 3, 2, 0, 1, 9, 8, 7, 5, 6], ⟨(some 80), (.v (.mv (.t 9))), (some ⟨73, true⟩), [(.t 9)]⟩⟩⟩, ⟨22, ⟨[21, 14, 13, 12, 11, 10, 4, 3, 2, 0, 1, 9, 8, 7, 5, 6], ⟨(some 81), (.v (.bin .sub (.t 80) (.k (.c (.int .i64 1))))), (some ⟨73, true⟩), [(.t 80), (.k (.c (.int .i64 1)))]⟩⟩⟩, ⟨23, ⟨[20, 22, 21, 14, 13, 12, 11, 10, 4, 3, 2, 0, 1, 9, 8, 7, 5, 6], ⟨(some 82), (.v (.ia 2 (.t 79) (.t 81))), (some ⟨73, true⟩), [(.t 79), (.t 81)]⟩⟩⟩, ⟨24, ⟨[23, 20, 22, 21, 14, 13, 12, 11, 10, 4, 3, 2, 0, 1, 9, 8, 7, 5, 6], ⟨(some 83), (.v (.fa 1 (.t 82))), (some ⟨73, true⟩), [(.t 82)]⟩⟩⟩, ⟨25, ⟨[24, 23, 20, 22, 21, 14, 13, 12, 11, 10, 4, 3, 2, 0, 1, 9, 8, 7, 5, 6], ⟨(some 84), (.v (.ld (.t 83))), (some ⟨73, true⟩), [(.t 83)]⟩⟩⟩, ⟨26, ⟨[19, 18, 17, 15, 16, 25, 24, 23, 20, 22, 21, 14, 13, 12, 11, 10, 4, 3, 2, 0, 1, 9, 8, 7, 5, 6], ⟨(some 85), (.v (.bin .leq (.t 78) (.t 84))), (some ⟨73, true⟩), [(.t 78), (.t 84)]⟩⟩⟩, ⟨27, ⟨[26, 19, 18, 17, 15, 16, 25, 24, 23, 20, 22, 21, 14, 13, 12, 11, 10, 4, 3, 2, 0, 1, 9, 8, 7, 5, 6], ⟨(some 86), (.v (.pick (.t 73) (.t 85) (.k (.c (.bool false))))), (some ⟨70, false⟩), [(.t 73), (.t 85), (.k (.c (.bool false)))]⟩⟩⟩, ⟨28, ⟨[27, 26, 19, 18, 17, 15, 16, 25, 24, 23, 20, 22, 21, 14, 13, 12, 11, 10, 4, 3, 2, 0, 1, 9, 8, 7, 5, 6], ⟨(some 87), (.v (.pick (.t 70) (.k (.c (.bool true))) (.t 86))), none, []⟩⟩⟩]) (.cond (.t 87) (.seq (.ops 0 [⟨(some 4), (.v (.mv (.k (.c (.bool false))))), none, []⟩]) .ret) .skip)))) (.ops 0 [⟨(some 38), (.v (.mv (.t 9))), none, []⟩, ⟨(some 39), (.v (.bin .add (.t 38) (.k (.c (.int .i64 1))))), none, []⟩, ⟨(some 9), (.v (.mv (.t 39))), none, []⟩])))))) (.seq (.seq (.ops 0 [⟨(some 10), (.v (.mv (.k (.c (.int .i64 0))))), none, []⟩]) (.block 2 (.loop (.seq (.seq (.ops 0 [⟨(some 88), (.v (.mv (.t 10))), none, []⟩, ⟨(some 89), (.v (.mv (.t 0))), none, []⟩, ⟨(some 90), (.v (.lenS (.t 89))), none, []⟩, ⟨(some 91), (.v (.bin .lss (.t 88) (.t 90))), none, []⟩]) (.cond (.t 91) .skip (.exit 2))) (.seq (.block 3 (.ops 0 [⟨(some 94), (.v (.mv (.t 8))), none, []⟩, ⟨(some 95), (.v (.mv (.t 94))), none, []⟩, ⟨(some 96), (.v (.mv (.t 0))), (some ⟨95, false⟩), [(.t 0)]⟩, ⟨(some 97), (.v (.mv (.t 10))), (some ⟨95, false⟩), [(.t 10)]⟩, ⟨(some 98), (.v (.ia 6 (.t 96) (.t 97))), (some ⟨95, false⟩), [(.t 96), (.t 97)]⟩, ⟨(some 99), (.v (.fa 0 (.t 98))), (some ⟨95, false⟩), [(.t 98)]⟩, ⟨(some 100), (.v (.fa 2 (.t 99))), (some ⟨95, false⟩), [(.t 99)]⟩, ⟨(some 101), (.v (.ld (.t 100))), (some ⟨95, false⟩), [(.t 100)]⟩, ⟨(some 102), (.v (.mv (.t 1))), (some ⟨95, false⟩), [(.t 1)]⟩, ⟨(some 103), (.v (.bin .leq (.t 101) (.t 102))), (some ⟨95, false⟩), [(.t 101), (.t 102)]⟩, ⟨(some 104), (.v (.mv (.t 103))), (some ⟨95, false⟩), [(.t 103)]⟩, ⟨(some 105), (.v (.mv (.t 1))), (some ⟨104, true⟩), [(.t 1)]⟩, ⟨(some 106), (.v (.mv (.t 0))), (some ⟨104, true⟩), [(.t 0)]⟩, ⟨(some 107), (.v (.mv (.t 10))), (some ⟨104, true⟩), [(.t 10)]⟩, ⟨(some 108), (.v (.ia 6 (.t 106) (.t 107))), (some ⟨104, true⟩), [(.t 106), (.t 107)]⟩, ⟨(some 109), (.v (.fa 0 (.t 108))), (some ⟨104, true⟩), [(.t 108)]⟩, ⟨(some 110), (.v (.fa 3 (.t 109))), (some ⟨104, true⟩), [(.t 109)]⟩, ⟨(some 111), (.v (.ld (.t 110))), (some ⟨104, true⟩), [(.t 110)]⟩, ⟨(some 112), (.v (.bin .lss (.t 105) (.t 111))), (some ⟨104, true⟩), [(.t 105), (.t 111)]⟩, ⟨(some 113), (.v (.pick (.t 104) (.t 112) (.k (.c (.bool false))))), (some ⟨95, false⟩), [(.t 104), (.t 112), (.k (.c (.bool false)))]⟩, ⟨(some 114), (.v (.pick (.t 95) (.k (.c (.bool true))) (.t 113))), none, []⟩, ⟨(some 8), (.v (.mv (.t 114))), none, []⟩])) (.ops 0 [⟨(some 92), (.v (.mv (.t 10))), none, []⟩, ⟨(some 93), (.v (.bin .add (.t 92) (.k (.c (.int .i64 1))))), none, []⟩, ⟨(some 10), (.v (.mv (.t 93))), none, []⟩])))))) (.seq (.ops 0 [⟨(some 116), (.v (.mv (.t 0))), none, []⟩, ⟨(some 117), (.v (.det 17 [⟨false, [(.int .i64)]⟩, ⟨false, [(.int .i64)]⟩] [(.t 116), (.k (.c (.int .i64 0)))])), none, []⟩, ⟨(some 115), (.v (.mv (.t 117))), none, []⟩, ⟨(some 118), (.v (.ext (.t 115) 0)), none, []⟩, ⟨(some 119), (.v (.ext (.t 115) 1)), none, []⟩, ⟨(some 11), (.v (.mv (.t 118))), none, []⟩, ⟨(some 12), (.v (.mv (.t 119))), none, []⟩]) (.seq (.ops 0 [⟨(some 13), (.v (.mv (.k (.c (.int .i64 0))))), none, []⟩]) (.seq (.seq (.ops 0 [⟨(some 14), (.v (.mv (.k (.c (.int .i64 1))))), none, []⟩]) (.block 4 (.loop (.seq (.seq (.ops 0 [⟨(some 120), (.v (.mv (.t 14))), none, []⟩, ⟨(some 121), (.v (.bin .leq (.t 120) (.k (.c (.int .i64 16))))), none, []⟩]) (.cond (.t 121) .skip (.exit 4))) (.seq (.block 5 (.seq (.ops 0 [⟨(some 125), (.v (.mv (.t 0))), none, []⟩, ⟨(some 126), (.v (.mv (.t 14))), none, []⟩, ⟨(some 127), (.v (.det 17 [⟨false, [(.int .i64)]⟩, ⟨false, [(.int .i64)]⟩] [(.t 125), (.t 126)])), none, []⟩, ⟨(some 124), (.v (.mv (.t 127))), none, []⟩, ⟨(some 128), (.v (.ext (.t 124) 0)), none, []⟩, ⟨(some 129), (.v (.ext (.t 124) 1)), none, []⟩, ⟨(some 15), (.v (.mv (.t 128))), none, []⟩, ⟨(some 16), (.v (.mv (.t 129))), none, []⟩]) (.seq (.seq (.ops 0 [⟨(some 130), (.v (.mv (.t 16))), none, []⟩, ⟨(some 131), (.v (.bin .neq (.t 130) (.k (.c (.int .i64 0))))), none, []⟩, ⟨(some 132), (.v (.mv (.t 131))), none, []⟩, ⟨(some 133), (.v (.mv (.t 15))), (some ⟨132, false⟩), [(.t 15)]⟩, ⟨(some 134), (.v (.bin .lss (.t 133) (.k (.c (.int .i64 0))))), (some ⟨132, false⟩), [(.t 133), (.k (.c (.int .i64 0)))]⟩, ⟨(some 135), (.v (.pick (.t 132) (.k (.c (.bool true))) (.t 134))), none, []⟩, ⟨(some 136), (.v (.mv (.t 135))), none, []⟩, ⟨(some 137), (.v (.mv (.t 15))), (some ⟨136, false⟩), [(.t 15)]⟩, ⟨(some 138), (.v (.mv (.t 11))), (some ⟨136, false⟩), [(.t 11)]⟩, ⟨(some 139), (.v (.bin .gtr (.t 137) (.t 138))), (some ⟨136, false⟩), [(.t 137), (.t 138)]⟩, ⟨(some 140), (.v (.pick (.t 136) (.k (.c (.bool true))) (.t 139))), none, []⟩]) (.cond (.t 140) (.seq (.ops 0 [⟨(some 4), (.v (.mv (.k (.c (.bool false))))), none, []⟩]) .ret) .skip)) (.ops 0 [⟨(some 141), (.v (.mv (.t 13))), none, []⟩, ⟨(some 142), (.v (.mv (.t 15))), none, []⟩, ⟨(some 143), (.v (.bin .add (.t 141) (.t 142))), none, []⟩, ⟨(some 13), (.v (.mv (.t 143))), none, []⟩])))) (.ops 0 [⟨(some 122), (.v (.mv (.t 14))), none, []⟩, ⟨(some 123), (.v (.bin .add (.t 122) (.k (.c (.int .i64 1))))), none, []⟩, ⟨(some 14), (.v (.mv (.t 123))), none, []⟩])))))) (.seq (.ops 0 [⟨(some 144), (.v (.mv (.t 7))), none, []⟩, ⟨(some 145), (.v (.mv (.t 8))), none, []⟩, ⟨(some 146), (.v (.eqb false (.t 144) (.t 145))), none, []⟩, ⟨(some 147), (.v (.mv (.t 146))), none, []⟩, ⟨(some 148), (.v (.mv (.t 12))), (some ⟨147, true⟩), [(.t 12)]⟩, ⟨(some 149), (.v (.bin .eql (.t 148) (.k (.c (.int .i64 0))))), (some ⟨147, true⟩), [(.t 148), (.k (.c (.int .i64 0)))]⟩, ⟨(some 150), (.v (.pick (.t 147) (.t 149) (.k (.c (.bool false))))), none, []⟩, ⟨(some 151), (.v (.mv (.t 150))), none, []⟩, ⟨(some 152), (.v (.mv (.t 11))), (some ⟨151, true⟩), [(.t 11)]⟩, ⟨(some 153), (.v (.mv (.t 13))), (some ⟨151, true⟩), [(.t 13)]⟩, ⟨(some 154), (.v (.bin .leq (.t 152) (.t 153))), (some ⟨151, true⟩), [(.t 152), (.t 153)]⟩, ⟨(some 155), (.v (.pick (.t 151) (.t 154) (.k (.c (.bool false))))), none, []⟩, ⟨(some 156), (.v (.mv (.t 155))), none, []⟩, ⟨(some 157), (.v (.det 10 [⟨false, [.bool]⟩] [])), (some ⟨156, true⟩), [(.k (.fn 10 []))]⟩, ⟨(some 158), (.v (.pick (.t 156) (.t 157) (.k (.c (.bool false))))), none, []⟩, ⟨(some 4), (.v (.mv (.t 158))), none, []⟩]) .ret))))))))))), 159, [(.t 4)]⟩
theorem h4 : fnR Try.prog DD 4 = some rf4 := by kernel_rfl
def vc4 (E : Env) (x1 : List (List C)) (x2 : Int) (Q : List C → Prop) : Prop :=
  Br (E.lt 60 (E.len x1))
  ((E.pok 10 [(false, [.bool])] []) ∧ (∀ r3 : Nat → C, r3 = E.res 10 [] → 
    (Q [.bool (E.gb (r3 0))])))
  ((E.pok 16 [(false, [.sl [.int .i64, .int .i64]]), (false, [.int .i64])] [.c (.sl [.int .i64, .int .i64, .int .i64, .int .i64, .int .i64, .int .i64] x1)]) ∧ (∀ r4 : Nat → C, r4 = E.res 16 [.c (.sl [.int .i64, .int .i64, .int .i64, .int .i64, .int .i64, .int .i64] x1)] → 
    (Br (E.not (E.eq (E.gi (r4 1)) 0))
    ((Imp (E.eq (E.len (E.gl (r4 0))) 0) (E.pok 10 [(false, [.bool])] [])) ∧ (∀ r5 : Nat → C, r5 = E.res 10 [] → 
      (Q [.bool (E.bite (E.eq (E.len (E.gl (r4 0))) 0) (E.gb (r5 0)) false)])))
    (LoopP2 (fun (b6 : Bool) (i7 : Int) (K8 : (Bool) → (Int) → Prop) =>
      Br (E.lt i7 (E.len (E.gl (r4 0))))
        ((Imp (E.not b6) ((E.le 0 i7) = true)) ∧ 
          ((Imp (E.and (E.not b6) (E.le (E.gi (E.cell (E.gl (r4 0)) i7 0)) x2)) ((E.le 0 i7) = true)) ∧ 
          ((Imp (E.not b6) (Imp (E.le (E.gi (E.cell (E.gl (r4 0)) i7 0)) x2) ((E.and (E.not b6) (E.le (E.gi (E.cell (E.gl (r4 0)) i7 0)) x2)) = true))) ∧ 
          (((E.le 0 i7) = true) ∧ 
          ((Imp (E.and (E.not (E.le (E.gi (E.cell (E.gl (r4 0)) i7 1)) (E.gi (E.cell (E.gl (r4 0)) i7 0)))) (E.lt 0 i7)) ((E.le 0 (E.sub .i64 i7 1)) = true)) ∧ (Imp (E.and (E.not (E.le (E.gi (E.cell (E.gl (r4 0)) i7 1)) (E.gi (E.cell (E.gl (r4 0)) i7 0)))) (E.lt 0 i7)) ((E.lt (E.sub .i64 i7 1) (E.len (E.gl (r4 0)))) = true)) ∧ 
          ((Imp (E.not (E.le (E.gi (E.cell (E.gl (r4 0)) i7 1)) (E.gi (E.cell (E.gl (r4 0)) i7 0)))) (Imp (E.lt 0 i7) ((E.and (E.not (E.le (E.gi (E.cell (E.gl (r4 0)) i7 1)) (E.gi (E.cell (E.gl (r4 0)) i7 0)))) (E.lt 0 i7)) = true))) ∧ 
          (Br (E.bite (E.le (E.gi (E.cell (E.gl (r4 0)) i7 1)) (E.gi (E.cell (E.gl (r4 0)) i7 0))) true (E.bite (E.lt 0 i7) (E.le (E.gi (E.cell (E.gl (r4 0)) i7 0)) (E.gi (E.cell (E.gl (r4 0)) (E.sub .i64 i7 1) 1))) false))
          (Q [.bool false])
          (K8 ((E.bite b6 true (E.bite (E.le (E.gi (E.cell (E.gl (r4 0)) i7 0)) x2) (E.lt x2 (E.gi (E.cell (E.gl (r4 0)) i7 1))) false))) ((E.add .i64 i7 1))))))))))
        (LoopP2 (fun (b9 : Bool) (i10 : Int) (K11 : (Bool) → (Int) → Prop) =>
          Br (E.lt i10 (E.len x1))
            ((Imp (E.not b9) ((E.le 0 i10) = true)) ∧ 
              ((Imp (E.and (E.not b9) (E.le (E.gi (E.cell x1 i10 2)) x2)) ((E.le 0 i10) = true)) ∧ 
              ((Imp (E.not b9) (Imp (E.le (E.gi (E.cell x1 i10 2)) x2) ((E.and (E.not b9) (E.le (E.gi (E.cell x1 i10 2)) x2)) = true))) ∧ 
              (K11 ((E.bite b9 true (E.bite (E.le (E.gi (E.cell x1 i10 2)) x2) (E.lt x2 (E.gi (E.cell x1 i10 3))) false))) ((E.add .i64 i10 1))))))
            ((E.pok 17 [(false, [.int .i64]), (false, [.int .i64])] [.c (.sl [.int .i64, .int .i64, .int .i64, .int .i64, .int .i64, .int .i64] x1), .c (.int .i64 0)]) ∧ (∀ r12 : Nat → C, r12 = E.res 17 [.c (.sl [.int .i64, .int .i64, .int .i64, .int .i64, .int .i64, .int .i64] x1), .c (.int .i64 0)] → 
              (LoopP2 (fun (i13 : Int) (i14 : Int) (K15 : (Int) → (Int) → Prop) =>
              Br (E.le i14 16)
                ((E.pok 17 [(false, [.int .i64]), (false, [.int .i64])] [.c (.sl [.int .i64, .int .i64, .int .i64, .int .i64, .int .i64, .int .i64] x1), .c (.int .i64 i14)]) ∧ (∀ r16 : Nat → C, r16 = E.res 17 [.c (.sl [.int .i64, .int .i64, .int .i64, .int .i64, .int .i64, .int .i64] x1), .c (.int .i64 i14)] → 
                  (Br (E.bite (E.bite (E.not (E.eq (E.gi (r16 1)) 0)) true (E.lt (E.gi (r16 0)) 0)) true (E.lt (E.gi (r12 0)) (E.gi (r16 0))))
                  (Q [.bool false])
                  (K15 ((E.add .i64 i13 (E.gi (r16 0)))) ((E.add .i64 i14 1))))))
                ((Imp (E.bite (E.bite (E.beq b6 b9) (E.eq (E.gi (r12 1)) 0) false) (E.le (E.gi (r12 0)) i13) false) (E.pok 10 [(false, [.bool])] [])) ∧ (∀ r17 : Nat → C, r17 = E.res 10 [] → 
                  (Q [.bool (E.bite (E.bite (E.bite (E.beq b6 b9) (E.eq (E.gi (r12 1)) 0) false) (E.le (E.gi (r12 0)) i13) false) (E.gb (r17 0)) false)]))))
              (0) (1)))))
          (false) (0)))
      (false) (0)))))
theorem w4 {P : Program} {tbl : FuncId → List A → List C}  {x1 : List (List C)} {x2 : Int} {row : List C} (h : vc4 (stdE P tbl) x1 x2 fun c => c = row) : WPg P tbl rf4 [(false, [.bool])] row [.c (.sl [.int .i64, .int .i64, .int .i64, .int .i64, .int .i64, .int .i64] x1), .c (.int .i64 x2)] := by
  refine ⟨?_⟩
  revert h
  generalize hE : stdE P tbl = E
  intro h
  unfold vc4 at h
  cbv
  refine ⟨fun hb18 => ?_, fun hb18 => ?_⟩
  · replace h := h.t hb18
    have c19 := h.1
    refine ⟨c19, ?_⟩
    replace h := h.2 _ rfl
    have h : _ = row := h
    subst h
    repeat' (first | exact trivial | exact rfl | refine And.intro ?_ ?_)
  · replace h := h.f hb18
    have c20 := h.1
    refine ⟨c20, ?_⟩
    replace h := h.2 _ rfl
    refine ⟨fun hb21 => ?_, fun hb21 => ?_⟩
    · replace h := h.t hb21
      have c22 := h.1
      refine ⟨c22, ?_⟩
      replace h := h.2 _ rfl
      refine ⟨⟨fun hh => hh⟩, ?_⟩
      have h : _ = row := h
      subst h
      repeat' (first | exact trivial | exact rfl | refine And.intro ?_ ?_)
    · replace h := h.f hb21
      obtain ⟨I, μ, h0, hI⟩ := h
      refine LoopW.inv (fun R R' s h k => RCode.wp_mono _ R R' s h k) (fun p : Bool × Int => (fun (b6 : Bool) (i7 : Int) => (⟨[.c (.sl [.int .i64, .int .i64, .int .i64, .int .i64, .int .i64, .int .i64] x1), .c (.int .i64 x2), .u, .u, .u, .c (.sl [.int .i64, .int .i64] (E.gl ((E.res 16 [.c (.sl [.int .i64, .int .i64, .int .i64, .int .i64, .int .i64, .int .i64] x1)]) 0))), .u, .c (.bool b6), .c (.bool false), .c (.int .i64 i7), .u, .u, .u, .u, .u, .u, .u, .u, .u, .u, .u, .u, .u, .u, .u, .u, .u, .u, .u, .u, .u, .u, .u, .u, .u, .u, .u, .u, .u, .u, .u, .u, .u, .u, .u, .u, .u, .u, .u, .u, .u, .u, .u, .u, .u, .u, .u, .u, .u, .u, .u, .u, .u, .u, .u, .u, .u, .u, .u, .u, .u, .u, .u, .u, .u, .u, .u, .u, .u, .u, .u, .u, .u, .u, .u, .u, .u, .u, .u, .u, .u, .u, .u, .u, .u, .u, .u, .u, .u, .u, .u, .u, .u, .u, .u, .u, .u, .u, .u, .u, .u, .u, .u, .u, .u, .u, .u, .u, .u, .u, .u, .u, .u, .u, .u, .u, .u, .u, .u, .u, .u, .u, .u, .u, .u, .u, .u, .u, .u, .u, .u, .u, .u, .u, .u, .u, .u, .u, .u, .u, .u, .u, .u, .u, .u, .u, .u, .u, .u], []⟩ : St)) p.1 p.2) (fun p => I p.1 p.2) (fun p => μ p.1 p.2) (_, _) h0 ?_ ?_
      · refine GSt.ren [] rfl rfl rfl (fun i hi => absurd hi (Nat.not_lt_zero i)) (Nat.zero_le _) ?_ ?_
        all_goals (repeat' (first | exact trivial | exact Or.inl rfl | exact Or.inr rfl | refine And.intro ?_ ?_))
      · rintro ⟨b6, i7⟩ h
        replace h := hI b6 i7 h
        cbv
        refine ⟨fun hb23 => ?_, fun hb23 => ?_⟩
        · replace h := h.t hb23
          refine ⟨⟨fun hh => hh⟩, ?_⟩
          refine ⟨⟨fun hh => hh⟩, ?_⟩
          have c24 := h.1
          refine ⟨c24, ?_⟩
          replace h := h.2
          refine ⟨⟨fun _ => hb23⟩, ?_⟩
          refine ⟨⟨fun hh => hh⟩, ?_⟩
          refine ⟨⟨fun hh => hh⟩, ?_⟩
          refine ⟨⟨fun hh => hh⟩, ?_⟩
          refine ⟨⟨fun hh => hh⟩, ?_⟩
          refine ⟨⟨fun hh => hh⟩, ?_⟩
          refine ⟨⟨fun hh => hh⟩, ?_⟩
          refine ⟨⟨fun hh => hh⟩, ?_⟩
          have c25 := h.1
          refine ⟨c25, ?_⟩
          replace h := h.2
          refine ⟨⟨fun _ => hb23⟩, ?_⟩
          refine ⟨⟨fun hh => hh⟩, ?_⟩
          refine ⟨⟨fun hh => hh⟩, ?_⟩
          refine ⟨⟨fun hh => hh⟩, ?_⟩
          refine ⟨⟨fun hh => hh⟩, ?_⟩
          refine ⟨⟨fun hh => hh⟩, ?_⟩
          have c26 := h.1
          refine ⟨c26, ?_⟩
          replace h := h.2
          refine ⟨⟨fun hh => hh⟩, ?_⟩
          have c27 := h.1
          refine ⟨c27, ?_⟩
          replace h := h.2
          refine ⟨hb23, ?_⟩
          refine ⟨c27, ?_⟩
          refine ⟨hb23, ?_⟩
          refine ⟨⟨fun hh => hh⟩, ?_⟩
          refine ⟨⟨fun hh => hh⟩, ?_⟩
          refine ⟨⟨fun hh => hh⟩, ?_⟩
          refine ⟨⟨fun hh => hh⟩, ?_⟩
          refine ⟨⟨fun _ => c27⟩, ?_⟩
          refine ⟨⟨fun _ => hb23⟩, ?_⟩
          refine ⟨⟨fun hh => hh⟩, ?_⟩
          refine ⟨⟨fun hh => hh⟩, ?_⟩
          refine ⟨⟨fun hh => hh⟩, ?_⟩
          refine ⟨⟨fun hh => hh⟩, ?_⟩
          refine ⟨⟨fun hh => hh⟩, ?_⟩
          have c28 := h.1
          refine ⟨c28, ?_⟩
          replace h := h.2
          have c29 := h.1
          refine ⟨c29, ?_⟩
          replace h := h.2
          refine ⟨⟨fun hh => hh⟩, ?_⟩
          refine ⟨⟨fun hh => hh⟩, ?_⟩
          refine ⟨⟨fun hh => hh⟩, ?_⟩
          refine ⟨⟨fun hh => hh⟩, ?_⟩
          refine ⟨⟨fun hh => hh⟩, ?_⟩
          have c30 := h.1
          refine ⟨c30, ?_⟩
          replace h := h.2
          refine ⟨⟨fun hh => hh⟩, ?_⟩
          refine ⟨fun hb31 => ?_, fun hb31 => ?_⟩
          · replace h := h.t hb31
            have h : _ = row := h
            subst h
            repeat' (first | exact trivial | exact rfl | refine And.intro ?_ ?_)
          · replace h := h.f hb31
            refine ⟨(_, _), h.1, GSt.ren [] rfl rfl rfl (fun i hi => absurd hi (Nat.not_lt_zero i)) (Nat.zero_le _) ?_ ?_, h.2⟩
            all_goals (repeat' (first | exact trivial | exact Or.inl rfl | exact Or.inr rfl | refine And.intro ?_ ?_))
        · replace h := h.f hb23
          obtain ⟨I, μ, h0, hI⟩ := h
          refine LoopW.inv (fun R R' s h k => RCode.wp_mono _ R R' s h k) (fun p : Bool × Int => (fun (b9 : Bool) (i10 : Int) => (⟨[.c (.sl [.int .i64, .int .i64, .int .i64, .int .i64, .int .i64, .int .i64] x1), .c (.int .i64 x2), .u, .u, .u, .u, .u, .c (.bool b6), .c (.bool b9), .u, .c (.int .i64 i10), .u, .u, .u, .u, .u, .u, .u, .u, .u, .u, .u, .u, .u, .u, .u, .u, .u, .u, .u, .u, .u, .u, .u, .u, .u, .u, .u, .u, .u, .u, .u, .u, .u, .u, .u, .u, .u, .u, .u, .u, .u, .u, .u, .u, .u, .u, .u, .u, .u, .u, .u, .u, .u, .u, .u, .u, .u, .u, .u, .u, .u, .u, .u, .u, .u, .u, .u, .u, .u, .u, .u, .u, .u, .u, .u, .u, .u, .u, .u, .u, .u, .u, .u, .u, .u, .u, .u, .u, .u, .u, .u, .u, .u, .u, .u, .u, .u, .u, .u, .u, .u, .u, .u, .u, .u, .u, .u, .u, .u, .u, .u, .u, .u, .u, .u, .u, .u, .u, .u, .u, .u, .u, .u, .u, .u, .u, .u, .u, .u, .u, .u, .u, .u, .u, .u, .u, .u, .u, .u, .u, .u, .u, .u, .u, .u, .u, .u, .u], []⟩ : St)) p.1 p.2) (fun p => I p.1 p.2) (fun p => μ p.1 p.2) (_, _) h0 ?_ ?_
          · refine GSt.ren [] rfl rfl rfl (fun i hi => absurd hi (Nat.not_lt_zero i)) (Nat.zero_le _) ?_ ?_
            all_goals (repeat' (first | exact trivial | exact Or.inl rfl | exact Or.inr rfl | refine And.intro ?_ ?_))
          · rintro ⟨b9, i10⟩ h
            replace h := hI b9 i10 h
            cbv
            refine ⟨fun hb32 => ?_, fun hb32 => ?_⟩
            · replace h := h.t hb32
              refine ⟨⟨fun hh => hh⟩, ?_⟩
              refine ⟨⟨fun hh => hh⟩, ?_⟩
              have c33 := h.1
              refine ⟨c33, ?_⟩
              replace h := h.2
              refine ⟨⟨fun _ => hb32⟩, ?_⟩
              refine ⟨⟨fun hh => hh⟩, ?_⟩
              refine ⟨⟨fun hh => hh⟩, ?_⟩
              refine ⟨⟨fun hh => hh⟩, ?_⟩
              refine ⟨⟨fun hh => hh⟩, ?_⟩
              refine ⟨⟨fun hh => hh⟩, ?_⟩
              refine ⟨⟨fun hh => hh⟩, ?_⟩
              refine ⟨⟨fun hh => hh⟩, ?_⟩
              refine ⟨⟨fun hh => hh⟩, ?_⟩
              have c34 := h.1
              refine ⟨c34, ?_⟩
              replace h := h.2
              refine ⟨⟨fun _ => hb32⟩, ?_⟩
              refine ⟨⟨fun hh => hh⟩, ?_⟩
              refine ⟨⟨fun hh => hh⟩, ?_⟩
              refine ⟨⟨fun hh => hh⟩, ?_⟩
              refine ⟨⟨fun hh => hh⟩, ?_⟩
              refine ⟨⟨fun hh => hh⟩, ?_⟩
              refine ⟨⟨fun hh => hh⟩, ?_⟩
              have c35 := h.1
              refine ⟨c35, ?_⟩
              replace h := h.2
              refine ⟨⟨fun hh => hh⟩, ?_⟩
              refine ⟨(_, _), h.1, GSt.ren [] rfl rfl rfl (fun i hi => absurd hi (Nat.not_lt_zero i)) (Nat.zero_le _) ?_ ?_, h.2⟩
              all_goals (repeat' (first | exact trivial | exact Or.inl rfl | exact Or.inr rfl | refine And.intro ?_ ?_))
            · replace h := h.f hb32
              have c36 := h.1
              refine ⟨c36, ?_⟩
              replace h := h.2 _ rfl
              obtain ⟨I, μ, h0, hI⟩ := h
              refine LoopW.inv (fun R R' s h k => RCode.wp_mono _ R R' s h k) (fun p : Int × Int => (fun (i13 : Int) (i14 : Int) => (⟨[.c (.sl [.int .i64, .int .i64, .int .i64, .int .i64, .int .i64, .int .i64] x1), .u, .u, .u, .u, .u, .u, .c (.bool b6), .c (.bool b9), .u, .u, .c (.int .i64 (E.gi ((E.res 17 [.c (.sl [.int .i64, .int .i64, .int .i64, .int .i64, .int .i64, .int .i64] x1), .c (.int .i64 0)]) 0))), .c (.int .i64 (E.gi ((E.res 17 [.c (.sl [.int .i64, .int .i64, .int .i64, .int .i64, .int .i64, .int .i64] x1), .c (.int .i64 0)]) 1))), .c (.int .i64 i13), .c (.int .i64 i14), .u, .u, .u, .u, .u, .u, .u, .u, .u, .u, .u, .u, .u, .u, .u, .u, .u, .u, .u, .u, .u, .u, .u, .u, .u, .u, .u, .u, .u, .u, .u, .u, .u, .u, .u, .u, .u, .u, .u, .u, .u, .u, .u, .u, .u, .u, .u, .u, .u, .u, .u, .u, .u, .u, .u, .u, .u, .u, .u, .u, .u, .u, .u, .u, .u, .u, .u, .u, .u, .u, .u, .u, .u, .u, .u, .u, .u, .u, .u, .u, .u, .u, .u, .u, .u, .u, .u, .u, .u, .u, .u, .u, .u, .u, .u, .u, .u, .u, .u, .u, .u, .u, .u, .u, .u, .u, .u, .u, .u, .u, .u, .u, .u, .u, .u, .u, .u, .u, .u, .u, .u, .u, .u, .u, .u, .u, .u, .u, .u, .u, .u, .u, .u, .u, .u, .u, .u, .u, .u, .u, .u, .u, .u, .u], []⟩ : St)) p.1 p.2) (fun p => I p.1 p.2) (fun p => μ p.1 p.2) (_, _) h0 ?_ ?_
              · refine GSt.ren [] rfl rfl rfl (fun i hi => absurd hi (Nat.not_lt_zero i)) (Nat.zero_le _) ?_ ?_
                all_goals (repeat' (first | exact trivial | exact Or.inl rfl | exact Or.inr rfl | refine And.intro ?_ ?_))
              · rintro ⟨i13, i14⟩ h
                replace h := hI i13 i14 h
                cbv
                refine ⟨fun hb37 => ?_, fun hb37 => ?_⟩
                · replace h := h.t hb37
                  have c38 := h.1
                  refine ⟨c38, ?_⟩
                  replace h := h.2 _ rfl
                  refine ⟨⟨fun hh => hh⟩, ?_⟩
                  refine ⟨⟨fun hh => hh⟩, ?_⟩
                  refine ⟨⟨fun hh => hh⟩, ?_⟩
                  refine ⟨⟨fun hh => hh⟩, ?_⟩
                  refine ⟨⟨fun hh => hh⟩, ?_⟩
                  refine ⟨fun hb39 => ?_, fun hb39 => ?_⟩
                  · replace h := h.t hb39
                    have h : _ = row := h
                    subst h
                    repeat' (first | exact trivial | exact rfl | refine And.intro ?_ ?_)
                  · replace h := h.f hb39
                    refine ⟨(_, _), h.1, GSt.ren [] rfl rfl rfl (fun i hi => absurd hi (Nat.not_lt_zero i)) (Nat.zero_le _) ?_ ?_, h.2⟩
                    all_goals (repeat' (first | exact trivial | exact Or.inl rfl | exact Or.inr rfl | refine And.intro ?_ ?_))
                · replace h := h.f hb37
                  refine ⟨⟨fun hh => hh⟩, ?_⟩
                  refine ⟨⟨fun hh => hh⟩, ?_⟩
                  refine ⟨⟨fun hh => hh⟩, ?_⟩
                  refine ⟨⟨fun hh => hh⟩, ?_⟩
                  refine ⟨⟨fun hh => hh⟩, ?_⟩
                  have c40 := h.1
                  refine ⟨c40, ?_⟩
                  replace h := h.2 _ rfl
                  refine ⟨⟨fun hh => hh⟩, ?_⟩
                  have h : _ = row := h
                  subst h
                  repeat' (first | exact trivial | exact rfl | refine And.intro ?_ ?_)
end Go.Proofs.Ytkdapoipnkpbeaa.V
