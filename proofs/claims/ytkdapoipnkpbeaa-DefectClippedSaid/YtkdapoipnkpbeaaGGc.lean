/- Defects: the walk of DefectClipped. No conditions. -/
import Derived.Test.YtkdapoipnkpbeaaPairs
set_option linter.unusedVariables false
set_option linter.unusedSimpArgs false
namespace Go.Proofs.Ytkdapoipnkpbeaa.V
open Go Go.Eng
set_option maxRecDepth 1000000
set_option maxHeartbeats 1000000
/-- papermill papermilllaw36.DefectClipped -/
def rf9 : RFn := ⟨(.seq (.ops 1 [⟨(some 3), (.v (.box 0 36 (.t 1))), none, []⟩, ⟨(some 4), (.v (.mv (.k (.c (.bool false))))), none, []⟩]) (.seq (.seq (.ops 0 [⟨(some 23), (.v (.mv (.t 0))), none, []⟩, ⟨(some 24), (.v (.lenS (.t 23))), none, []⟩, ⟨(some 25), (.v (.bin .gtr (.t 24) (.k (.c (.int .i64 60))))), none, []⟩]) (.cond (.t 25) (.seq (.ops 0 [⟨(some 26), (.v (.det 10 [⟨false, [.bool]⟩] [])), none, []⟩, ⟨(some 4), (.v (.mv (.t 26))), none, []⟩]) .ret) .skip)) (.seq (.ops 0 [⟨(some 28), (.v (.mv (.t 0))), none, []⟩, ⟨(some 29), (.v (.build [(.c (.int .i64 0)), (.c (.int .i64 0)), (.c (.int .i64 0)), (.c (.int .i64 0))] [⟨1, ⟨1, (.k (.c (.int .i64 12000)))⟩⟩, ⟨3, ⟨1, (.k (.c (.int .i64 17179869184)))⟩⟩])), none, []⟩, ⟨(some 30), (.v (.det 27 [⟨false, [(.sl [(.int .i64), (.int .i64), (.int .i64), (.int .i64), (.int .i64), (.int .i64)])]⟩, ⟨false, [(.int .i64)]⟩] [(.t 28), (.t 29)])), none, []⟩, ⟨(some 27), (.v (.mv (.t 30))), none, []⟩, ⟨(some 31), (.v (.ext (.t 27) 0)), none, []⟩, ⟨(some 32), (.v (.ext (.t 27) 1)), none, []⟩, ⟨(some 5), (.v (.mv (.t 31))), none, []⟩, ⟨(some 6), (.v (.mv (.t 32))), none, []⟩]) (.seq (.ops 0 [⟨(some 34), (.v (.mv (.t 0))), none, []⟩, ⟨(some 35), (.v (.lda 4 (.t 3))), none, []⟩, ⟨(some 36), (.v (.det 27 [⟨false, [(.sl [(.int .i64), (.int .i64), (.int .i64), (.int .i64), (.int .i64), (.int .i64)])]⟩, ⟨false, [(.int .i64)]⟩] [(.t 34), (.t 35)])), none, []⟩, ⟨(some 33), (.v (.mv (.t 36))), none, []⟩, ⟨(some 37), (.v (.ext (.t 33) 0)), none, []⟩, ⟨(some 38), (.v (.ext (.t 33) 1)), none, []⟩, ⟨(some 7), (.v (.mv (.t 37))), none, []⟩, ⟨(some 8), (.v (.mv (.t 38))), none, []⟩]) (.seq (.ops 0 [⟨(some 40), (.v (.mv (.t 0))), none, []⟩, ⟨(some 41), (.v (.det 18 [⟨false, [(.sl [(.int .i64), (.int .i64), (.int .i64), (.int .i64), (.int .i64), (.int .i64)])]⟩, ⟨false, [(.int .i64)]⟩] [(.t 40), (.k (.c (.int .i64 0))), (.k (.c (.int .i64 1)))])), none, []⟩, ⟨(some 39), (.v (.mv (.t 41))), none, []⟩, ⟨(some 42), (.v (.ext (.t 39) 0)), none, []⟩, ⟨(some 43), (.v (.ext (.t 39) 1)), none, []⟩, ⟨(some 9), (.v (.mv (.t 42))), none, []⟩, ⟨(some 10), (.v (.mv (.t 43))), none, []⟩]) (.seq (.seq (.ops 0 [⟨(some 44), (.v (.mv (.t 6))), none, []⟩, ⟨(some 45), (.v (.mv (.t 10))), none, []⟩, ⟨(some 46), (.v (.bin .neq (.t 44) (.t 45))), none, []⟩, ⟨(some 47), (.v (.mv (.t 46))), none, []⟩, ⟨(some 48), (.v (.mv (.t 6))), (some ⟨47, false⟩), [(.t 6)]⟩, ⟨(some 49), (.v (.bin .eql (.t 48) (.k (.c (.int .i64 0))))), (some ⟨47, false⟩), [(.t 48), (.k (.c (.int .i64 0)))]⟩, ⟨(some 50), (.v (.mv (.t 49))), (some ⟨47, false⟩), [(.t 49)]⟩, ⟨(some 51), (.v (.mv (.t 5))), (some ⟨50, true⟩), [(.t 5)]⟩, ⟨(some 52), (.v (.mv (.t 0))), (some ⟨50, true⟩), [(.t 0)]⟩, ⟨(some 53), (.v (.det 15 [⟨false, [.bool]⟩] [(.t 51), (.t 52)])), (some ⟨50, true⟩), [(.k (.fn 15 [])), (.t 51), (.t 52)]⟩, ⟨(some 54), (.v (.un .not (.t 53))), (some ⟨50, true⟩), [(.t 53)]⟩, ⟨(some 55), (.v (.mv (.t 54))), (some ⟨50, true⟩), [(.t 54)]⟩, ⟨(some 56), (.v (.mv (.t 9))), (some ⟨55, false⟩), [(.t 9)]⟩, ⟨(some 57), (.v (.mv (.t 0))), (some ⟨55, false⟩), [(.t 0)]⟩, ⟨(some 58), (.v (.det 15 [⟨false, [.bool]⟩] [(.t 56), (.t 57)])), (some ⟨55, false⟩), [(.k (.fn 15 [])), (.t 56), (.t 57)]⟩, ⟨(some 59), (.v (.un .not (.t 58))), (some ⟨55, false⟩), [(.t 58)]⟩, ⟨(some 60), (.v (.pick (.t 55) (.k (.c (.bool true))) (.t 59))), (some ⟨50, true⟩), [(.t 55), (.k (.c (.bool true))), (.t 59)]⟩, ⟨(some 61), (.v (.pick (.t 50) (.t 60) (.k (.c (.bool false))))), (some ⟨47, false⟩), [(.t 50), (.t 60), (.k (.c (.bool false)))]⟩, ⟨(some 62), (.v (.pick (.t 47) (.k (.c (.bool true))) (.t 61))), none, []⟩]) (.cond (.t 62) (.seq (.ops 0 [⟨(some 4), (.v (.mv (.k (.c (.bool false))))), none, []⟩]) .ret) .skip)) (.seq (.seq (.ops 0 [⟨(some 63), (.v (.mv (.t 8))), none, []⟩, ⟨(some 64), (.v (.bin .neq (.t 63) (.k (.c (.int .i64 0))))), none, []⟩]) (.cond (.t 64) (.seq (.ops 0 [⟨(some 65), (.v (.mv (.t 7))), none, []⟩, ⟨(some 66), (.v (.lenS (.t 65))), none, []⟩, ⟨(some 67), (.v (.bin .eql (.t 66) (.k (.c (.int .i64 0))))), none, []⟩, ⟨(some 68), (.v (.mv (.t 67))), none, []⟩, ⟨(some 69), (.v (.det 10 [⟨false, [.bool]⟩] [])), (some ⟨68, true⟩), [(.k (.fn 10 []))]⟩, ⟨(some 70), (.v (.pick (.t 68) (.t 69) (.k (.c (.bool false))))), none, []⟩, ⟨(some 4), (.v (.mv (.t 70))), none, []⟩]) .ret) .skip)) (.seq (.ops 0 [⟨(some 11), (.v (.mv (.k (.c (.int .i64 0))))), none, []⟩]) (.seq (.seq (.ops 0 [⟨(some 12), (.v (.mv (.k (.c (.int .i64 0))))), none, []⟩]) (.block 0 (.loop (.seq (.seq (.ops 0 [⟨(some 71), (.v (.mv (.t 12))), none, []⟩, ⟨(some 72), (.v (.mv (.t 0))), none, []⟩, ⟨(some 73), (.v (.lenS (.t 72))), none, []⟩, ⟨(some 74), (.v (.bin .lss (.t 71) (.t 73))), none, []⟩]) (.cond (.t 74) .skip (.exit 0))) (.seq (.block 1 (.seq (.any 1 [⟨0, ⟨[], ⟨(some 78), (.v (.mv (.t 0))), none, []⟩⟩⟩, ⟨1, ⟨[], ⟨(some 79), (.v (.mv (.t 12))), none, []⟩⟩⟩, ⟨2, ⟨[0, 1], ⟨(some 80), (.v (.ia 6 (.t 78) (.t 79))), none, []⟩⟩⟩, ⟨3, ⟨[2, 0, 1], ⟨(some 81), (.v (.fa 0 (.t 80))), none, []⟩⟩⟩, ⟨4, ⟨[3, 2, 0, 1], ⟨(some 82), (.v (.lda 4 (.t 81))), none, []⟩⟩⟩, ⟨5, ⟨[], ⟨(some 83), (.v (.lda 4 (.t 3))), none, []⟩⟩⟩, ⟨6, ⟨[4, 3, 2, 0, 1, 5], ⟨(some 84), (.v (.det 29 [⟨true, [(.int .i64), (.int .i64), (.int .i64), (.int .i64)]⟩, ⟨false, [.bool]⟩] [(.t 82), (.t 83)])), none, []⟩⟩⟩, ⟨7, ⟨[6, 4, 3, 2, 0, 1, 5], ⟨(some 77), (.v (.mv (.t 84))), none, []⟩⟩⟩, ⟨8, ⟨[7, 6, 4, 3, 2, 0, 1, 5], ⟨(some 85), (.v (.ext (.t 77) 0)), none, []⟩⟩⟩, ⟨9, ⟨[7, 6, 4, 3, 2, 0, 1, 5], ⟨(some 86), (.v (.ext (.t 77) 1)), none, []⟩⟩⟩, ⟨10, ⟨[], ⟨(some 13), (.v (.alloc 0 36 [(.c (.int .i64 0)), (.c (.int .i64 0)), (.c (.int .i64 0)), (.c (.int .i64 0))])), none, []⟩⟩⟩, ⟨11, ⟨[8, 7, 6, 4, 3, 2, 0, 1, 5, 10], ⟨none, (.v (.st 4 (.t 13) (.t 85))), none, []⟩⟩⟩, ⟨12, ⟨[9, 11, 8, 7, 6, 4, 3, 2, 0, 1, 5, 10], ⟨(some 14), (.v (.mv (.t 86))), none, []⟩⟩⟩]) (.seq (.seq (.ops 0 [⟨(some 87), (.v (.mv (.t 14))), none, []⟩, ⟨(some 88), (.v (.un .not (.t 87))), none, []⟩]) (.cond (.t 88) (.exit 1) .skip)) (.seq (.seq (.any 0 [⟨0, ⟨[], ⟨(some 89), (.v (.mv (.t 11))), none, []⟩⟩⟩, ⟨1, ⟨[], ⟨(some 90), (.v (.mv (.t 7))), none, []⟩⟩⟩, ⟨2, ⟨[1], ⟨(some 91), (.v (.lenS (.t 90))), none, []⟩⟩⟩, ⟨3, ⟨[0, 2, 1], ⟨(some 92), (.v (.bin .geq (.t 89) (.t 91))), none, []⟩⟩⟩, ⟨4, ⟨[3, 0, 2, 1], ⟨(some 93), (.v (.mv (.t 92))), none, []⟩⟩⟩, ⟨5, ⟨[4, 3, 0, 2, 1], ⟨(some 94), (.v (.mv (.t 7))), (some ⟨93, false⟩), [(.t 7)]⟩⟩⟩, ⟨6, ⟨[4, 3, 0, 2, 1], ⟨(some 95), (.v (.mv (.t 11))), (some ⟨93, false⟩), [(.t 11)]⟩⟩⟩, ⟨7, ⟨[5, 6, 4, 3, 0, 2, 1], ⟨(some 96), (.v (.ia 6 (.t 94) (.t 95))), (some ⟨93, false⟩), [(.t 94), (.t 95)]⟩⟩⟩, ⟨8, ⟨[7, 5, 6, 4, 3, 0, 2, 1], ⟨(some 97), (.v (.lda 6 (.t 96))), (some ⟨93, false⟩), [(.t 96)]⟩⟩⟩, ⟨9, ⟨[4, 3, 0, 2, 1], ⟨(some 98), (.v (.lda 4 (.t 13))), (some ⟨93, false⟩), [(.t 13)]⟩⟩⟩, ⟨10, ⟨[4, 3, 0, 2, 1], ⟨(some 99), (.v (.mv (.t 0))), (some ⟨93, false⟩), [(.t 0)]⟩⟩⟩, ⟨11, ⟨[4, 3, 0, 2, 1], ⟨(some 100), (.v (.mv (.t 12))), (some ⟨93, false⟩), [(.t 12)]⟩⟩⟩, ⟨12, ⟨[10, 11, 4, 3, 0, 2, 1], ⟨(some 101), (.v (.ia 6 (.t 99) (.t 100))), (some ⟨93, false⟩), [(.t 99), (.t 100)]⟩⟩⟩, ⟨13, ⟨[12, 10, 11, 4, 3, 0, 2, 1], ⟨(some 102), (.v (.fa 4 (.t 101))), (some ⟨93, false⟩), [(.t 101)]⟩⟩⟩, ⟨14, ⟨[13, 12, 10, 11, 4, 3, 0, 2, 1], ⟨(some 103), (.v (.ld (.t 102))), (some ⟨93, false⟩), [(.t 102)]⟩⟩⟩, ⟨15, ⟨[4, 3, 0, 2, 1], ⟨(some 104), (.v (.mv (.t 0))), (some ⟨93, false⟩), [(.t 0)]⟩⟩⟩, ⟨16, ⟨[4, 3, 0, 2, 1], ⟨(some 105), (.v (.mv (.t 12))), (some ⟨93, false⟩), [(.t 12)]⟩⟩⟩, ⟨17, ⟨[15, 16, 4, 3, 0, 2, 1], ⟨(some 106), (.v (.ia 6 (.t 104) (.t 105))), (some ⟨93, false⟩), [(.t 104), (.t 105)]⟩⟩⟩, ⟨18, ⟨[17, 15, 16, 4, 3, 0, 2, 1], ⟨(some 107), (.v (.fa 5 (.t 106))), (some ⟨93, false⟩), [(.t 106)]⟩⟩⟩, ⟨19, ⟨[18, 17, 15, 16, 4, 3, 0, 2, 1], ⟨(some 108), (.v (.ld (.t 107))), (some ⟨93, false⟩), [(.t 107)]⟩⟩⟩, ⟨20, ⟨[9, 14, 13, 12, 10, 11, 19, 18, 17, 15, 16, 4, 3, 0, 2, 1], ⟨(some 109), (.v (.build [(.c (.int .i64 0)), (.c (.int .i64 0)), (.c (.int .i64 0)), (.c (.int .i64 0)), (.c (.int .i64 0)), (.c (.int .i64 0))] [⟨0, ⟨4, (.t 98)⟩⟩, ⟨4, ⟨1, (.t 103)⟩⟩, ⟨5, ⟨1, (.t 108)⟩⟩])), (some ⟨93, false⟩), [(.t 98), (.t 103), (.t 108)]⟩⟩⟩, ⟨21, ⟨[8, 7, 5, 6, 20, 9, 14, 13, 12, 10, 11, 19, 18, 17, 15, 16, 4, 3, 0, 2, 1], ⟨(some 110), (.v (.eqs [(.int .i64), (.int .i64), (.int .i64), (.int .i64), (.int .i64), (.int .i64)] true (.t 97) (.t 109))), (some ⟨93, false⟩), [(.t 97), (.t 109)]⟩⟩⟩, ⟨22, ⟨[21, 8, 7, 5, 6, 20, 9, 14, 13, 12, 10, 11, 19, 18, 17, 15, 16, 4, 3, 0, 2, 1], ⟨(some 111), (.v (.pick (.t 93) (.k (.c (.bool true))) (.t 110))), none, []⟩⟩⟩]) (.cond (.t 111) (.seq (.ops 0 [⟨(some 4), (.v (.mv (.k (.c (.bool false))))), none, []⟩]) .ret) .skip)) (.ops 0 [⟨(some 112), (.v (.mv (.t 11))), none, []⟩, ⟨(some 113), (.v (.bin .add (.t 112) (.k (.c (.int .i64 1))))), none, []⟩, ⟨(some 11), (.v (.mv (.t 113))), none, []⟩]))))) (.ops 0 [⟨(some 75), (.v (.mv (.t 12))), none, []⟩, ⟨(some 76), (.v (.bin .add (.t 75) (.k (.c (.int .i64 1))))), none, []⟩, ⟨(some 12), (.v (.mv (.t 76))), none, []⟩])))))) (.seq (.ops 0 [⟨(some 115), (.v (.mv (.t 0))), none, []⟩, ⟨(some 116), (.v (.det 20 [⟨false, [(.int .i64)]⟩, ⟨false, [(.int .i64)]⟩] [(.t 115)])), none, []⟩, ⟨(some 114), (.v (.mv (.t 116))), none, []⟩, ⟨(some 117), (.v (.ext (.t 114) 0)), none, []⟩, ⟨(some 118), (.v (.ext (.t 114) 1)), none, []⟩, ⟨(some 15), (.v (.mv (.t 117))), none, []⟩, ⟨(some 16), (.v (.mv (.t 118))), none, []⟩]) (.seq (.ops 0 [⟨(some 120), (.v (.mv (.t 7))), none, []⟩, ⟨(some 121), (.v (.det 20 [⟨false, [(.int .i64)]⟩, ⟨false, [(.int .i64)]⟩] [(.t 120)])), none, []⟩, ⟨(some 119), (.v (.mv (.t 121))), none, []⟩, ⟨(some 122), (.v (.ext (.t 119) 0)), none, []⟩, ⟨(some 123), (.v (.ext (.t 119) 1)), none, []⟩, ⟨(some 17), (.v (.mv (.t 122))), none, []⟩, ⟨(some 18), (.v (.mv (.t 123))), none, []⟩]) (.seq (.ops 0 [⟨(some 125), (.v (.mv (.t 0))), none, []⟩, ⟨(some 126), (.v (.det 17 [⟨false, [(.int .i64)]⟩, ⟨false, [(.int .i64)]⟩] [(.t 125), (.k (.c (.int .i64 0)))])), none, []⟩, ⟨(some 124), (.v (.mv (.t 126))), none, []⟩, ⟨(some 127), (.v (.ext (.t 124) 0)), none, []⟩, ⟨(some 128), (.v (.ext (.t 124) 1)), none, []⟩, ⟨(some 19), (.v (.mv (.t 127))), none, []⟩, ⟨(some 20), (.v (.mv (.t 128))), none, []⟩]) (.seq (.ops 0 [⟨(some 130), (.v (.mv (.t 7))), none, []⟩, ⟨(some 131), (.v (.det 17 [⟨false, [(.int .i64)]⟩, ⟨false, [(.int .i64)]⟩] [(.t 130), (.k (.c (.int .i64 0)))])), none, []⟩, ⟨(some 129), (.v (.mv (.t 131))), none, []⟩, ⟨(some 132), (.v (.ext (.t 129) 0)), none, []⟩, ⟨(some 133), (.v (.ext (.t 129) 1)), none, []⟩, ⟨(some 21), (.v (.mv (.t 132))), none, []⟩, ⟨(some 22), (.v (.mv (.t 133))), none, []⟩]) (.seq (.ops 0 [⟨(some 134), (.v (.mv (.t 11))), none, []⟩, ⟨(some 135), (.v (.mv (.t 7))), none, []⟩, ⟨(some 136), (.v (.lenS (.t 135))), none, []⟩, ⟨(some 137), (.v (.bin .eql (.t 134) (.t 136))), none, []⟩, ⟨(some 138), (.v (.mv (.t 137))), none, []⟩, ⟨(some 139), (.v (.mv (.t 16))), (some ⟨138, true⟩), [(.t 16)]⟩, ⟨(some 140), (.v (.bin .eql (.t 139) (.k (.c (.int .i64 0))))), (some ⟨138, true⟩), [(.t 139), (.k (.c (.int .i64 0)))]⟩, ⟨(some 141), (.v (.pick (.t 138) (.t 140) (.k (.c (.bool false))))), none, []⟩, ⟨(some 142), (.v (.mv (.t 141))), none, []⟩, ⟨(some 143), (.v (.mv (.t 18))), (some ⟨142, true⟩), [(.t 18)]⟩, ⟨(some 144), (.v (.bin .eql (.t 143) (.k (.c (.int .i64 0))))), (some ⟨142, true⟩), [(.t 143), (.k (.c (.int .i64 0)))]⟩, ⟨(some 145), (.v (.pick (.t 142) (.t 144) (.k (.c (.bool false))))), none, []⟩, ⟨(some 146), (.v (.mv (.t 145))), none, []⟩, ⟨(some 147), (.v (.mv (.t 20))), (some ⟨146, true⟩), [(.t 20)]⟩, ⟨(some 148), (.v (.bin .eql (.t 147) (.k (.c (.int .i64 0))))), (some ⟨146, true⟩), [(.t 147), (.k (.c (.int .i64 0)))]⟩, ⟨(some 149), (.v (.pick (.t 146) (.t 148) (.k (.c (.bool false))))), none, []⟩, ⟨(some 150), (.v (.mv (.t 149))), none, []⟩, ⟨(some 151), (.v (.mv (.t 22))), (some ⟨150, true⟩), [(.t 22)]⟩, ⟨(some 152), (.v (.bin .eql (.t 151) (.k (.c (.int .i64 0))))), (some ⟨150, true⟩), [(.t 151), (.k (.c (.int .i64 0)))]⟩, ⟨(some 153), (.v (.pick (.t 150) (.t 152) (.k (.c (.bool false))))), none, []⟩, ⟨(some 154), (.v (.mv (.t 153))), none, []⟩, ⟨(some 155), (.v (.mv (.t 17))), (some ⟨154, true⟩), [(.t 17)]⟩, ⟨(some 156), (.v (.mv (.t 15))), (some ⟨154, true⟩), [(.t 15)]⟩, ⟨(some 157), (.v (.bin .leq (.t 155) (.t 156))), (some ⟨154, true⟩), [(.t 155), (.t 156)]⟩, ⟨(some 158), (.v (.pick (.t 154) (.t 157) (.k (.c (.bool false))))), none, []⟩, ⟨(some 159), (.v (.mv (.t 158))), none, []⟩, ⟨(some 160), (.v (.mv (.t 21))), (some ⟨159, true⟩), [(.t 21)]⟩, ⟨(some 161), (.v (.mv (.t 19))), (some ⟨159, true⟩), [(.t 19)]⟩, ⟨(some 162), (.v (.bin .leq (.t 160) (.t 161))), (some ⟨159, true⟩), [(.t 160), (.t 161)]⟩, ⟨(some 163), (.v (.pick (.t 159) (.t 162) (.k (.c (.bool false))))), none, []⟩, ⟨(some 164), (.v (.mv (.t 163))), none, []⟩, ⟨(some 165), (.v (.det 10 [⟨false, [.bool]⟩] [])), (some ⟨164, true⟩), [(.k (.fn 10 []))]⟩, ⟨(some 166), (.v (.pick (.t 164) (.t 165) (.k (.c (.bool false))))), none, []⟩, ⟨(some 4), (.v (.mv (.t 166))), none, []⟩]) .ret)))))))))))))), 167, [(.t 4)]⟩
theorem h9 : fnR Try.prog DD 9 = some rf9 := by kernel_rfl
def vc9 (E : Env) (x1 : List (List C)) (x2 : Int) (x3 : Int) (x4 : Int) (x5 : Int) (Q : List C → Prop) : Prop :=
  Br (E.lt 60 (E.len x1))
  ((E.pok 10 [(false, [.bool])] []) ∧ (∀ r6 : Nat → C, r6 = E.res 10 [] → 
    (Q [.bool (E.gb (r6 0))])))
  ((E.pok 27 [(false, [.sl [.int .i64, .int .i64, .int .i64, .int .i64, .int .i64, .int .i64]]), (false, [.int .i64])] [.c (.sl [.int .i64, .int .i64, .int .i64, .int .i64, .int .i64, .int .i64] x1), .agg [.c (.int .i64 0), .c (.int .i64 12000), .c (.int .i64 0), .c (.int .i64 17179869184)]]) ∧ (∀ r7 : Nat → C, r7 = E.res 27 [.c (.sl [.int .i64, .int .i64, .int .i64, .int .i64, .int .i64, .int .i64] x1), .agg [.c (.int .i64 0), .c (.int .i64 12000), .c (.int .i64 0), .c (.int .i64 17179869184)]] → 
    ((E.pok 27 [(false, [.sl [.int .i64, .int .i64, .int .i64, .int .i64, .int .i64, .int .i64]]), (false, [.int .i64])] [.c (.sl [.int .i64, .int .i64, .int .i64, .int .i64, .int .i64, .int .i64] x1), .agg [.c (.int .i64 x2), .c (.int .i64 x3), .c (.int .i64 x4), .c (.int .i64 x5)]]) ∧ (∀ r8 : Nat → C, r8 = E.res 27 [.c (.sl [.int .i64, .int .i64, .int .i64, .int .i64, .int .i64, .int .i64] x1), .agg [.c (.int .i64 x2), .c (.int .i64 x3), .c (.int .i64 x4), .c (.int .i64 x5)]] → 
    ((E.pok 18 [(false, [.sl [.int .i64, .int .i64, .int .i64, .int .i64, .int .i64, .int .i64]]), (false, [.int .i64])] [.c (.sl [.int .i64, .int .i64, .int .i64, .int .i64, .int .i64, .int .i64] x1), .c (.int .i64 0), .c (.int .i64 1)]) ∧ (∀ r9 : Nat → C, r9 = E.res 18 [.c (.sl [.int .i64, .int .i64, .int .i64, .int .i64, .int .i64, .int .i64] x1), .c (.int .i64 0), .c (.int .i64 1)] → 
    ((Imp (E.and (E.not (E.not (E.eq (E.gi (r7 1)) (E.gi (r9 1))))) (E.eq (E.gi (r7 1)) 0)) (E.pok 15 [(false, [.bool])] [.c (.sl [.int .i64, .int .i64, .int .i64, .int .i64, .int .i64, .int .i64] (E.gl (r7 0))), .c (.sl [.int .i64, .int .i64, .int .i64, .int .i64, .int .i64, .int .i64] x1)])) ∧ (∀ r10 : Nat → C, r10 = E.res 15 [.c (.sl [.int .i64, .int .i64, .int .i64, .int .i64, .int .i64, .int .i64] (E.gl (r7 0))), .c (.sl [.int .i64, .int .i64, .int .i64, .int .i64, .int .i64, .int .i64] x1)] → 
    ((Imp (E.and (E.and (E.not (E.not (E.eq (E.gi (r7 1)) (E.gi (r9 1))))) (E.eq (E.gi (r7 1)) 0)) (E.not (E.not (E.gb (r10 0))))) (E.pok 15 [(false, [.bool])] [.c (.sl [.int .i64, .int .i64, .int .i64, .int .i64, .int .i64, .int .i64] (E.gl (r9 0))), .c (.sl [.int .i64, .int .i64, .int .i64, .int .i64, .int .i64, .int .i64] x1)])) ∧ (∀ r11 : Nat → C, r11 = E.res 15 [.c (.sl [.int .i64, .int .i64, .int .i64, .int .i64, .int .i64, .int .i64] (E.gl (r9 0))), .c (.sl [.int .i64, .int .i64, .int .i64, .int .i64, .int .i64, .int .i64] x1)] → 
    ((Imp (E.and (E.not (E.not (E.eq (E.gi (r7 1)) (E.gi (r9 1))))) (E.eq (E.gi (r7 1)) 0)) (Imp (E.not (E.not (E.gb (r10 0)))) ((E.and (E.and (E.not (E.not (E.eq (E.gi (r7 1)) (E.gi (r9 1))))) (E.eq (E.gi (r7 1)) 0)) (E.not (E.not (E.gb (r10 0))))) = true))) ∧ 
    ((Imp (E.not (E.not (E.eq (E.gi (r7 1)) (E.gi (r9 1))))) (Imp (E.eq (E.gi (r7 1)) 0) ((E.and (E.not (E.not (E.eq (E.gi (r7 1)) (E.gi (r9 1))))) (E.eq (E.gi (r7 1)) 0)) = true))) ∧ 
    (Br (E.bite (E.not (E.eq (E.gi (r7 1)) (E.gi (r9 1)))) true (E.bite (E.eq (E.gi (r7 1)) 0) (E.bite (E.not (E.gb (r10 0))) true (E.not (E.gb (r11 0)))) false))
    (Q [.bool false])
    (Br (E.not (E.eq (E.gi (r8 1)) 0))
      ((Imp (E.eq (E.len (E.gl (r8 0))) 0) (E.pok 10 [(false, [.bool])] [])) ∧ (∀ r12 : Nat → C, r12 = E.res 10 [] → 
        (Q [.bool (E.bite (E.eq (E.len (E.gl (r8 0))) 0) (E.gb (r12 0)) false)])))
      (LoopP2 (fun (i13 : Int) (i14 : Int) (K15 : (Int) → (Int) → Prop) =>
        Br (E.lt i14 (E.len x1))
          (((E.le 0 i14) = true) ∧ 
            ((E.pok 29 [(true, [.int .i64, .int .i64, .int .i64, .int .i64]), (false, [.bool])] [.agg [.c (.int .i64 (E.gi (E.cell x1 i14 0))), .c (.int .i64 (E.gi (E.cell x1 i14 1))), .c (.int .i64 (E.gi (E.cell x1 i14 2))), .c (.int .i64 (E.gi (E.cell x1 i14 3)))], .agg [.c (.int .i64 x2), .c (.int .i64 x3), .c (.int .i64 x4), .c (.int .i64 x5)]]) ∧ (∀ r16 : Nat → C, r16 = E.res 29 [.agg [.c (.int .i64 (E.gi (E.cell x1 i14 0))), .c (.int .i64 (E.gi (E.cell x1 i14 1))), .c (.int .i64 (E.gi (E.cell x1 i14 2))), .c (.int .i64 (E.gi (E.cell x1 i14 3)))], .agg [.c (.int .i64 x2), .c (.int .i64 x3), .c (.int .i64 x4), .c (.int .i64 x5)]] → 
            (Br (E.not (E.gb (r16 4)))
            (K15 (i13) ((E.add .i64 i14 1)))
            ((Imp (E.not (E.le (E.len (E.gl (r8 0))) i13)) ((E.le 0 i13) = true)) ∧ (Imp (E.not (E.le (E.len (E.gl (r8 0))) i13)) ((E.lt i13 (E.len (E.gl (r8 0)))) = true)) ∧ 
              (Br (E.bite (E.le (E.len (E.gl (r8 0))) i13) true (E.not (E.and (E.eq (E.gi (E.cell (E.gl (r8 0)) i13 0)) (E.gi (r16 0))) (E.and (E.eq (E.gi (E.cell (E.gl (r8 0)) i13 1)) (E.gi (r16 1))) (E.and (E.eq (E.gi (E.cell (E.gl (r8 0)) i13 2)) (E.gi (r16 2))) (E.and (E.eq (E.gi (E.cell (E.gl (r8 0)) i13 3)) (E.gi (r16 3))) (E.and (E.eq (E.gi (E.cell (E.gl (r8 0)) i13 4)) (E.gi (E.cell x1 i14 4))) (E.and (E.eq (E.gi (E.cell (E.gl (r8 0)) i13 5)) (E.gi (E.cell x1 i14 5))) true))))))))
              (Q [.bool false])
              (K15 ((E.add .i64 i13 1)) ((E.add .i64 i14 1)))))))))
          ((E.pok 20 [(false, [.int .i64]), (false, [.int .i64])] [.c (.sl [.int .i64, .int .i64, .int .i64, .int .i64, .int .i64, .int .i64] x1)]) ∧ (∀ r17 : Nat → C, r17 = E.res 20 [.c (.sl [.int .i64, .int .i64, .int .i64, .int .i64, .int .i64, .int .i64] x1)] → 
            ((E.pok 20 [(false, [.int .i64]), (false, [.int .i64])] [.c (.sl [.int .i64, .int .i64, .int .i64, .int .i64, .int .i64, .int .i64] (E.gl (r8 0)))]) ∧ (∀ r18 : Nat → C, r18 = E.res 20 [.c (.sl [.int .i64, .int .i64, .int .i64, .int .i64, .int .i64, .int .i64] (E.gl (r8 0)))] → 
            ((E.pok 17 [(false, [.int .i64]), (false, [.int .i64])] [.c (.sl [.int .i64, .int .i64, .int .i64, .int .i64, .int .i64, .int .i64] x1), .c (.int .i64 0)]) ∧ (∀ r19 : Nat → C, r19 = E.res 17 [.c (.sl [.int .i64, .int .i64, .int .i64, .int .i64, .int .i64, .int .i64] x1), .c (.int .i64 0)] → 
            ((E.pok 17 [(false, [.int .i64]), (false, [.int .i64])] [.c (.sl [.int .i64, .int .i64, .int .i64, .int .i64, .int .i64, .int .i64] (E.gl (r8 0))), .c (.int .i64 0)]) ∧ (∀ r20 : Nat → C, r20 = E.res 17 [.c (.sl [.int .i64, .int .i64, .int .i64, .int .i64, .int .i64, .int .i64] (E.gl (r8 0))), .c (.int .i64 0)] → 
            ((Imp (E.bite (E.bite (E.bite (E.bite (E.bite (E.bite (E.eq i13 (E.len (E.gl (r8 0)))) (E.eq (E.gi (r17 1)) 0) false) (E.eq (E.gi (r18 1)) 0) false) (E.eq (E.gi (r19 1)) 0) false) (E.eq (E.gi (r20 1)) 0) false) (E.le (E.gi (r18 0)) (E.gi (r17 0))) false) (E.le (E.gi (r20 0)) (E.gi (r19 0))) false) (E.pok 10 [(false, [.bool])] [])) ∧ (∀ r21 : Nat → C, r21 = E.res 10 [] → 
            (Q [.bool (E.bite (E.bite (E.bite (E.bite (E.bite (E.bite (E.bite (E.eq i13 (E.len (E.gl (r8 0)))) (E.eq (E.gi (r17 1)) 0) false) (E.eq (E.gi (r18 1)) 0) false) (E.eq (E.gi (r19 1)) 0) false) (E.eq (E.gi (r20 1)) 0) false) (E.le (E.gi (r18 0)) (E.gi (r17 0))) false) (E.le (E.gi (r20 0)) (E.gi (r19 0))) false) (E.gb (r21 0)) false)]))))))))))))
        (0) (0))))))))))))))))
theorem w9 {P : Program} {tbl : FuncId → List A → List C}  {x1 : List (List C)} {x2 : Int} {x3 : Int} {x4 : Int} {x5 : Int} {row : List C} (h : vc9 (stdE P tbl) x1 x2 x3 x4 x5 fun c => c = row) : WPg P tbl rf9 [(false, [.bool])] row [.c (.sl [.int .i64, .int .i64, .int .i64, .int .i64, .int .i64, .int .i64] x1), .agg [.c (.int .i64 x2), .c (.int .i64 x3), .c (.int .i64 x4), .c (.int .i64 x5)]] := by
  refine ⟨?_⟩
  revert h
  generalize hE : stdE P tbl = E
  intro h
  unfold vc9 at h
  cbv
  refine ⟨fun hb22 => ?_, fun hb22 => ?_⟩
  · replace h := h.t hb22
    have c23 := h.1
    refine ⟨c23, ?_⟩
    replace h := h.2 _ rfl
    have h : _ = row := h
    subst h
    repeat' (first | exact trivial | exact rfl | refine And.intro ?_ ?_)
  · replace h := h.f hb22
    have c24 := h.1
    refine ⟨c24, ?_⟩
    replace h := h.2 _ rfl
    have c25 := h.1
    refine ⟨c25, ?_⟩
    replace h := h.2 _ rfl
    have c26 := h.1
    refine ⟨c26, ?_⟩
    replace h := h.2 _ rfl
    refine ⟨⟨fun hh => hh⟩, ?_⟩
    refine ⟨⟨fun hh => hh⟩, ?_⟩
    refine ⟨⟨fun hh => hh⟩, ?_⟩
    refine ⟨⟨fun hh => hh⟩, ?_⟩
    have c27 := h.1
    refine ⟨c27, ?_⟩
    replace h := h.2 _ rfl
    refine ⟨⟨fun hh => hh⟩, ?_⟩
    refine ⟨⟨fun hh => hh⟩, ?_⟩
    refine ⟨⟨fun hh => hh⟩, ?_⟩
    refine ⟨⟨fun hh => hh⟩, ?_⟩
    have c28 := h.1
    refine ⟨c28, ?_⟩
    replace h := h.2 _ rfl
    refine ⟨⟨fun hh => hh⟩, ?_⟩
    refine ⟨⟨fun hh => hh⟩, ?_⟩
    have c29 := h.1
    refine ⟨c29, ?_⟩
    replace h := h.2
    refine ⟨⟨fun hh => hh⟩, ?_⟩
    have c30 := h.1
    refine ⟨c30, ?_⟩
    replace h := h.2
    refine ⟨⟨fun hh => hh⟩, ?_⟩
    refine ⟨fun hb31 => ?_, fun hb31 => ?_⟩
    · replace h := h.t hb31
      have h : _ = row := h
      subst h
      repeat' (first | exact trivial | exact rfl | refine And.intro ?_ ?_)
    · replace h := h.f hb31
      refine ⟨fun hb32 => ?_, fun hb32 => ?_⟩
      · replace h := h.t hb32
        have c33 := h.1
        refine ⟨c33, ?_⟩
        replace h := h.2 _ rfl
        refine ⟨⟨fun hh => hh⟩, ?_⟩
        have h : _ = row := h
        subst h
        repeat' (first | exact trivial | exact rfl | refine And.intro ?_ ?_)
      · replace h := h.f hb32
        obtain ⟨I, μ, h0, hI⟩ := h
        refine LoopW.inv (fun R R' s h k => RCode.wp_mono _ R R' s h k) (fun p : Int × Int => (fun (i13 : Int) (i14 : Int) => (⟨[.c (.sl [.int .i64, .int .i64, .int .i64, .int .i64, .int .i64, .int .i64] x1), .u, .u, .ptr 0 0, .u, .u, .u, .c (.sl [.int .i64, .int .i64, .int .i64, .int .i64, .int .i64, .int .i64] (E.gl ((E.res 27 [.c (.sl [.int .i64, .int .i64, .int .i64, .int .i64, .int .i64, .int .i64] x1), .agg [.c (.int .i64 x2), .c (.int .i64 x3), .c (.int .i64 x4), .c (.int .i64 x5)]]) 0))), .u, .u, .u, .c (.int .i64 i13), .c (.int .i64 i14), .u, .u, .u, .u, .u, .u, .u, .u, .u, .u, .u, .u, .u, .u, .u, .u, .u, .u, .u, .u, .u, .u, .u, .u, .u, .u, .u, .u, .u, .u, .u, .u, .u, .u, .u, .u, .u, .u, .u, .u, .u, .u, .u, .u, .u, .u, .u, .u, .u, .u, .u, .u, .u, .u, .u, .u, .u, .u, .u, .u, .u, .u, .u, .u, .u, .u, .u, .u, .u, .u, .u, .u, .u, .u, .u, .u, .u, .u, .u, .u, .u, .u, .u, .u, .u, .u, .u, .u, .u, .u, .u, .u, .u, .u, .u, .u, .u, .u, .u, .u, .u, .u, .u, .u, .u, .u, .u, .u, .u, .u, .u, .u, .u, .u, .u, .u, .u, .u, .u, .u, .u, .u, .u, .u, .u, .u, .u, .u, .u, .u, .u, .u, .u, .u, .u, .u, .u, .u, .u, .u, .u, .u, .u, .u, .u, .u, .u, .u, .u, .u, .u, .u, .u, .u], [.box 36 [.c (.int .i64 x2), .c (.int .i64 x3), .c (.int .i64 x4), .c (.int .i64 x5)]]⟩ : St)) p.1 p.2) (fun p => I p.1 p.2) (fun p => μ p.1 p.2) (_, _) h0 ?_ ?_
        · refine GSt.ren [0] rfl rfl rfl (fun i hi => absurd hi (Nat.not_lt_zero i)) (Nat.zero_le _) ?_ ?_
          all_goals (repeat' (first | exact trivial | exact Or.inl rfl | exact Or.inr rfl | refine And.intro ?_ ?_))
        · rintro ⟨i13, i14⟩ h
          replace h := hI i13 i14 h
          cbv
          refine ⟨fun hb34 => ?_, fun hb34 => ?_⟩
          · replace h := h.t hb34
            have c35 := h.1
            refine ⟨c35, ?_⟩
            replace h := h.2
            refine ⟨hb34, ?_⟩
            have c36 := h.1
            refine ⟨c36, ?_⟩
            replace h := h.2 _ rfl
            refine ⟨fun hb37 => ?_, fun hb37 => ?_⟩
            · replace h := h.t hb37
              refine ⟨(_, _), h.1, GSt.ren [0] rfl rfl rfl (fun i hi => absurd hi (Nat.not_lt_zero i)) (Nat.zero_le _) ?_ ?_, h.2⟩
              all_goals (repeat' (first | exact trivial | exact Or.inl rfl | exact Or.inr rfl | refine And.intro ?_ ?_))
            · replace h := h.f hb37
              refine ⟨⟨fun hh => hh⟩, ?_⟩
              refine ⟨⟨fun hh => hh⟩, ?_⟩
              have c38 := h.1
              refine ⟨c38, ?_⟩
              replace h := h.2
              have c39 := h.1
              refine ⟨c39, ?_⟩
              replace h := h.2
              refine ⟨⟨fun hh => hh⟩, ?_⟩
              refine ⟨⟨fun hh => hh⟩, ?_⟩
              refine ⟨⟨fun hh => hh⟩, ?_⟩
              refine ⟨⟨fun _ => c35⟩, ?_⟩
              refine ⟨⟨fun _ => hb34⟩, ?_⟩
              refine ⟨⟨fun hh => hh⟩, ?_⟩
              refine ⟨⟨fun hh => hh⟩, ?_⟩
              refine ⟨⟨fun hh => hh⟩, ?_⟩
              refine ⟨⟨fun hh => hh⟩, ?_⟩
              refine ⟨⟨fun _ => c35⟩, ?_⟩
              refine ⟨⟨fun _ => hb34⟩, ?_⟩
              refine ⟨⟨fun hh => hh⟩, ?_⟩
              refine ⟨⟨fun hh => hh⟩, ?_⟩
              refine ⟨⟨fun hh => hh⟩, ?_⟩
              refine ⟨⟨fun hh => hh⟩, ?_⟩
              refine ⟨⟨fun hh => hh⟩, ?_⟩
              refine ⟨⟨fun hh => hh⟩, ?_⟩
              refine ⟨⟨fun hh => hh⟩, ?_⟩
              refine ⟨⟨fun hh => hh⟩, ?_⟩
              refine ⟨fun hb40 => ?_, fun hb40 => ?_⟩
              · replace h := h.t hb40
                have h : _ = row := h
                subst h
                repeat' (first | exact trivial | exact rfl | refine And.intro ?_ ?_)
              · replace h := h.f hb40
                refine ⟨(_, _), h.1, GSt.ren [0] rfl rfl rfl (fun i hi => absurd hi (Nat.not_lt_zero i)) (Nat.zero_le _) ?_ ?_, h.2⟩
                all_goals (repeat' (first | exact trivial | exact Or.inl rfl | exact Or.inr rfl | refine And.intro ?_ ?_))
          · replace h := h.f hb34
            have c41 := h.1
            refine ⟨c41, ?_⟩
            replace h := h.2 _ rfl
            have c42 := h.1
            refine ⟨c42, ?_⟩
            replace h := h.2 _ rfl
            have c43 := h.1
            refine ⟨c43, ?_⟩
            replace h := h.2 _ rfl
            have c44 := h.1
            refine ⟨c44, ?_⟩
            replace h := h.2 _ rfl
            refine ⟨⟨fun hh => hh⟩, ?_⟩
            refine ⟨⟨fun hh => hh⟩, ?_⟩
            refine ⟨⟨fun hh => hh⟩, ?_⟩
            refine ⟨⟨fun hh => hh⟩, ?_⟩
            refine ⟨⟨fun hh => hh⟩, ?_⟩
            refine ⟨⟨fun hh => hh⟩, ?_⟩
            refine ⟨⟨fun hh => hh⟩, ?_⟩
            refine ⟨⟨fun hh => hh⟩, ?_⟩
            refine ⟨⟨fun hh => hh⟩, ?_⟩
            refine ⟨⟨fun hh => hh⟩, ?_⟩
            refine ⟨⟨fun hh => hh⟩, ?_⟩
            refine ⟨⟨fun hh => hh⟩, ?_⟩
            refine ⟨⟨fun hh => hh⟩, ?_⟩
            refine ⟨⟨fun hh => hh⟩, ?_⟩
            have c45 := h.1
            refine ⟨c45, ?_⟩
            replace h := h.2 _ rfl
            refine ⟨⟨fun hh => hh⟩, ?_⟩
            have h : _ = row := h
            subst h
            repeat' (first | exact trivial | exact rfl | refine And.intro ?_ ?_)
end Go.Proofs.Ytkdapoipnkpbeaa.V
