/- Rectangles and spans: the walks of their functions (3 of 3). No conditions. -/
import Derived.Test.YtjckgkhojjnkdaaClips
set_option linter.unusedVariables false
set_option linter.unusedSimpArgs false
namespace Go.Proofs.Ytjckgkhojjnkdaa.V
open Go Go.Eng
set_option maxRecDepth 1000000
set_option maxHeartbeats 1000000
/-- papermill/papermilllaw15.RectPoints -/
def rf10 : RFn := ⟨(.seq (.ops 2 [⟨(some 4), (.v (.box 0 24 (.t 1))), none, []⟩, ⟨(some 5), (.v (.box 1 45 (.t 2))), none, []⟩, ⟨(some 6), (.v (.mv (.k (.c (.bool false))))), none, []⟩]) (.seq (.seq (.ops 0 [⟨(some 19), (.v (.mv (.t 0))), none, []⟩, ⟨(some 20), (.v (.lenS (.t 19))), none, []⟩, ⟨(some 21), (.v (.bin .gtr (.t 20) (.k (.c (.int .i64 40))))), none, []⟩]) (.cond (.t 21) (.seq (.ops 0 [⟨(some 22), (.v (.det 11 [⟨false, [.bool]⟩] [])), none, []⟩, ⟨(some 6), (.v (.mv (.t 22))), none, []⟩]) .ret) .skip)) (.seq (.seq (.ops 0 [⟨(some 23), (.v (.mv (.t 0))), none, []⟩, ⟨(some 24), (.v (.lenS (.t 23))), none, []⟩, ⟨(some 25), (.v (.bin .gtr (.t 24) (.k (.c (.int .i64 1))))), none, []⟩]) (.cond (.t 25) (.seq (.any 1 [⟨0, ⟨[], ⟨(some 27), (.v (.mv (.t 0))), none, []⟩⟩⟩, ⟨1, ⟨[0], ⟨(some 28), (.v (.ia 4 (.t 27) (.k (.c (.int .i64 0))))), none, []⟩⟩⟩, ⟨2, ⟨[1, 0], ⟨(some 29), (.v (.lda 4 (.t 28))), none, []⟩⟩⟩, ⟨3, ⟨[], ⟨(some 30), (.v (.mv (.t 0))), none, []⟩⟩⟩, ⟨4, ⟨[3], ⟨(some 31), (.v (.ia 4 (.t 30) (.k (.c (.int .i64 1))))), none, []⟩⟩⟩, ⟨5, ⟨[4, 3], ⟨(some 32), (.v (.lda 4 (.t 31))), none, []⟩⟩⟩, ⟨6, ⟨[2, 1, 0, 5, 4, 3], ⟨(some 33), (.v (.det 28 [⟨true, [(.int .i64), (.int .i64), (.int .i64), (.int .i64)]⟩, ⟨false, [.bool]⟩] [(.t 29), (.t 32)])), none, []⟩⟩⟩, ⟨7, ⟨[6, 2, 1, 0, 5, 4, 3], ⟨(some 26), (.v (.mv (.t 33))), none, []⟩⟩⟩, ⟨8, ⟨[7, 6, 2, 1, 0, 5, 4, 3], ⟨(some 34), (.v (.ext (.t 26) 0)), none, []⟩⟩⟩, ⟨9, ⟨[7, 6, 2, 1, 0, 5, 4, 3], ⟨(some 35), (.v (.ext (.t 26) 1)), none, []⟩⟩⟩, ⟨10, ⟨[], ⟨(some 7), (.v (.alloc 0 24 [(.c (.int .i64 0)), (.c (.int .i64 0)), (.c (.int .i64 0)), (.c (.int .i64 0))])), none, []⟩⟩⟩, ⟨11, ⟨[8, 7, 6, 2, 1, 0, 5, 4, 3, 10], ⟨none, (.v (.st 4 (.t 7) (.t 34))), none, []⟩⟩⟩, ⟨12, ⟨[9, 11, 8, 7, 6, 2, 1, 0, 5, 4, 3, 10], ⟨(some 8), (.v (.mv (.t 35))), none, []⟩⟩⟩]) (.seq (.any 0 [⟨0, ⟨[], ⟨(some 36), (.v (.lda 4 (.t 7))), none, []⟩⟩⟩, ⟨1, ⟨[], ⟨(some 37), (.v (.lda 2 (.t 5))), none, []⟩⟩⟩, ⟨2, ⟨[0, 1], ⟨(some 38), (.v (.det 34 [⟨false, [.bool]⟩] [(.t 36), (.t 37)])), none, []⟩⟩⟩, ⟨3, ⟨[], ⟨(some 39), (.v (.mv (.t 0))), none, []⟩⟩⟩, ⟨4, ⟨[3], ⟨(some 40), (.v (.ia 4 (.t 39) (.k (.c (.int .i64 0))))), none, []⟩⟩⟩, ⟨5, ⟨[4, 3], ⟨(some 41), (.v (.lda 4 (.t 40))), none, []⟩⟩⟩, ⟨6, ⟨[], ⟨(some 42), (.v (.lda 2 (.t 5))), none, []⟩⟩⟩, ⟨7, ⟨[5, 4, 3, 6, 2, 0, 1], ⟨(some 43), (.v (.det 34 [⟨false, [.bool]⟩] [(.t 41), (.t 42)])), none, []⟩⟩⟩, ⟨8, ⟨[7, 5, 4, 3, 6, 2, 0, 1], ⟨(some 44), (.v (.mv (.t 43))), none, []⟩⟩⟩, ⟨9, ⟨[8, 7, 5, 4, 3, 6, 2, 0, 1], ⟨(some 45), (.v (.mv (.t 0))), (some ⟨44, true⟩), [(.t 0)]⟩⟩⟩, ⟨10, ⟨[9, 8, 7, 5, 4, 3, 6, 2, 0, 1], ⟨(some 46), (.v (.ia 4 (.t 45) (.k (.c (.int .i64 1))))), (some ⟨44, true⟩), [(.t 45), (.k (.c (.int .i64 1)))]⟩⟩⟩, ⟨11, ⟨[10, 9, 8, 7, 5, 4, 3, 6, 2, 0, 1], ⟨(some 47), (.v (.lda 4 (.t 46))), (some ⟨44, true⟩), [(.t 46)]⟩⟩⟩, ⟨12, ⟨[8, 7, 5, 4, 3, 6, 2, 0, 1], ⟨(some 48), (.v (.lda 2 (.t 5))), (some ⟨44, true⟩), [(.t 5)]⟩⟩⟩, ⟨13, ⟨[11, 10, 9, 12, 8, 7, 5, 4, 3, 6, 2, 0, 1], ⟨(some 49), (.v (.det 34 [⟨false, [.bool]⟩] [(.t 47), (.t 48)])), (some ⟨44, true⟩), [(.k (.fn 34 [])), (.t 47), (.t 48)]⟩⟩⟩, ⟨14, ⟨[13, 11, 10, 9, 12, 8, 7, 5, 4, 3, 6, 2, 0, 1], ⟨(some 50), (.v (.pick (.t 44) (.t 49) (.k (.c (.bool false))))), none, []⟩⟩⟩, ⟨15, ⟨[14, 13, 11, 10, 9, 12, 8, 7, 5, 4, 3, 6, 2, 0, 1], ⟨(some 51), (.v (.eqb true (.t 38) (.t 50))), none, []⟩⟩⟩]) (.cond (.t 51) (.seq (.ops 0 [⟨(some 6), (.v (.mv (.k (.c (.bool false))))), none, []⟩]) .ret) .skip))) .skip)) (.seq (.ops 0 [⟨(some 53), (.v (.mv (.t 0))), none, []⟩, ⟨(some 54), (.v (.lda 4 (.t 4))), none, []⟩, ⟨(some 55), (.v (.det 16 [⟨false, [(.sl [(.int .i64), (.int .i64), (.int .i64), (.int .i64)])]⟩, ⟨false, [(.int .i64)]⟩] [(.t 53), (.t 54)])), none, []⟩, ⟨(some 52), (.v (.mv (.t 55))), none, []⟩, ⟨(some 56), (.v (.ext (.t 52) 0)), none, []⟩, ⟨(some 57), (.v (.ext (.t 52) 1)), none, []⟩, ⟨(some 9), (.v (.mv (.t 56))), none, []⟩, ⟨(some 10), (.v (.mv (.t 57))), none, []⟩]) (.seq (.ops 0 [⟨(some 59), (.v (.mv (.t 0))), none, []⟩, ⟨(some 60), (.v (.det 19 [⟨false, [(.sl [(.int .i64), (.int .i64)])]⟩, ⟨false, [(.int .i64)]⟩] [(.t 59)])), none, []⟩, ⟨(some 58), (.v (.mv (.t 60))), none, []⟩, ⟨(some 61), (.v (.ext (.t 58) 0)), none, []⟩, ⟨(some 62), (.v (.ext (.t 58) 1)), none, []⟩, ⟨(some 11), (.v (.mv (.t 61))), none, []⟩, ⟨(some 12), (.v (.mv (.t 62))), none, []⟩]) (.seq (.ops 0 [⟨(some 64), (.v (.mv (.t 0))), none, []⟩, ⟨(some 65), (.v (.det 21 [⟨false, [(.sl [(.int .i64), (.int .i64)])]⟩, ⟨false, [(.int .i64)]⟩] [(.t 64)])), none, []⟩, ⟨(some 63), (.v (.mv (.t 65))), none, []⟩, ⟨(some 66), (.v (.ext (.t 63) 0)), none, []⟩, ⟨(some 67), (.v (.ext (.t 63) 1)), none, []⟩, ⟨(some 13), (.v (.mv (.t 66))), none, []⟩, ⟨(some 14), (.v (.mv (.t 67))), none, []⟩]) (.seq (.seq (.ops 0 [⟨(some 68), (.v (.mv (.t 10))), none, []⟩, ⟨(some 69), (.v (.bin .neq (.t 68) (.k (.c (.int .i64 0))))), none, []⟩, ⟨(some 70), (.v (.mv (.t 69))), none, []⟩, ⟨(some 71), (.v (.mv (.t 12))), (some ⟨70, false⟩), [(.t 12)]⟩, ⟨(some 72), (.v (.bin .neq (.t 71) (.k (.c (.int .i64 0))))), (some ⟨70, false⟩), [(.t 71), (.k (.c (.int .i64 0)))]⟩, ⟨(some 73), (.v (.pick (.t 70) (.k (.c (.bool true))) (.t 72))), none, []⟩, ⟨(some 74), (.v (.mv (.t 73))), none, []⟩, ⟨(some 75), (.v (.mv (.t 14))), (some ⟨74, false⟩), [(.t 14)]⟩, ⟨(some 76), (.v (.bin .neq (.t 75) (.k (.c (.int .i64 0))))), (some ⟨74, false⟩), [(.t 75), (.k (.c (.int .i64 0)))]⟩, ⟨(some 77), (.v (.pick (.t 74) (.k (.c (.bool true))) (.t 76))), none, []⟩]) (.cond (.t 77) (.seq (.ops 0 [⟨(some 78), (.v (.det 11 [⟨false, [.bool]⟩] [])), none, []⟩, ⟨(some 6), (.v (.mv (.t 78))), none, []⟩]) .ret) .skip)) (.seq (.ops 0 [⟨(some 15), (.v (.mv (.k (.c (.int .i64 0))))), none, []⟩, ⟨(some 16), (.v (.mv (.k (.c (.int .i64 0))))), none, []⟩]) (.seq (.seq (.ops 0 [⟨(some 17), (.v (.mv (.k (.c (.int .i64 0))))), none, []⟩]) (.block 0 (.loop (.seq (.seq (.ops 0 [⟨(some 79), (.v (.mv (.t 17))), none, []⟩, ⟨(some 80), (.v (.mv (.t 0))), none, []⟩, ⟨(some 81), (.v (.lenS (.t 80))), none, []⟩, ⟨(some 82), (.v (.bin .lss (.t 79) (.t 81))), none, []⟩]) (.cond (.t 82) .skip (.exit 0))) (.seq (.block 1 (.seq (.any 0 [⟨0, ⟨[], ⟨(some 85), (.v (.mv (.t 0))), none, []⟩⟩⟩, ⟨1, ⟨[], ⟨(some 86), (.v (.mv (.t 17))), none, []⟩⟩⟩, ⟨2, ⟨[0, 1], ⟨(some 87), (.v (.ia 4 (.t 85) (.t 86))), none, []⟩⟩⟩, ⟨3, ⟨[2, 0, 1], ⟨(some 88), (.v (.lda 4 (.t 87))), none, []⟩⟩⟩, ⟨4, ⟨[], ⟨(some 89), (.v (.lda 2 (.t 5))), none, []⟩⟩⟩, ⟨5, ⟨[3, 2, 0, 1, 4], ⟨(some 90), (.v (.det 34 [⟨false, [.bool]⟩] [(.t 88), (.t 89)])), none, []⟩⟩⟩]) (.cond (.t 90) (.ops 0 [⟨(some 91), (.v (.mv (.t 15))), none, []⟩, ⟨(some 92), (.v (.bin .add (.t 91) (.k (.c (.int .i64 1))))), none, []⟩, ⟨(some 15), (.v (.mv (.t 92))), none, []⟩]) .skip))) (.ops 0 [⟨(some 83), (.v (.mv (.t 17))), none, []⟩, ⟨(some 84), (.v (.bin .add (.t 83) (.k (.c (.int .i64 1))))), none, []⟩, ⟨(some 17), (.v (.mv (.t 84))), none, []⟩])))))) (.seq (.seq (.ops 0 [⟨(some 18), (.v (.mv (.k (.c (.int .i64 0))))), none, []⟩]) (.block 2 (.loop (.seq (.seq (.ops 0 [⟨(some 93), (.v (.mv (.t 18))), none, []⟩, ⟨(some 94), (.v (.mv (.t 9))), none, []⟩, ⟨(some 95), (.v (.lenS (.t 94))), none, []⟩, ⟨(some 96), (.v (.bin .lss (.t 93) (.t 95))), none, []⟩]) (.cond (.t 96) .skip (.exit 2))) (.seq (.block 3 (.seq (.any 0 [⟨0, ⟨[], ⟨(some 99), (.v (.mv (.t 9))), none, []⟩⟩⟩, ⟨1, ⟨[], ⟨(some 100), (.v (.mv (.t 18))), none, []⟩⟩⟩, ⟨2, ⟨[0, 1], ⟨(some 101), (.v (.ia 4 (.t 99) (.t 100))), none, []⟩⟩⟩, ⟨3, ⟨[2, 0, 1], ⟨(some 102), (.v (.lda 4 (.t 101))), none, []⟩⟩⟩, ⟨4, ⟨[], ⟨(some 103), (.v (.lda 2 (.t 5))), none, []⟩⟩⟩, ⟨5, ⟨[3, 2, 0, 1, 4], ⟨(some 104), (.v (.det 34 [⟨false, [.bool]⟩] [(.t 102), (.t 103)])), none, []⟩⟩⟩]) (.cond (.t 104) (.ops 0 [⟨(some 105), (.v (.mv (.t 16))), none, []⟩, ⟨(some 106), (.v (.bin .add (.t 105) (.k (.c (.int .i64 1))))), none, []⟩, ⟨(some 16), (.v (.mv (.t 106))), none, []⟩]) .skip))) (.ops 0 [⟨(some 97), (.v (.mv (.t 18))), none, []⟩, ⟨(some 98), (.v (.bin .add (.t 97) (.k (.c (.int .i64 1))))), none, []⟩, ⟨(some 18), (.v (.mv (.t 98))), none, []⟩])))))) (.seq (.seq (.ops 0 [⟨(some 107), (.v (.lda 4 (.t 4))), none, []⟩, ⟨(some 108), (.v (.lda 2 (.t 5))), none, []⟩, ⟨(some 109), (.v (.det 34 [⟨false, [.bool]⟩] [(.t 107), (.t 108)])), none, []⟩, ⟨(some 110), (.v (.mv (.t 109))), none, []⟩, ⟨(some 111), (.v (.mv (.t 15))), (some ⟨110, true⟩), [(.t 15)]⟩, ⟨(some 112), (.v (.mv (.t 16))), (some ⟨110, true⟩), [(.t 16)]⟩, ⟨(some 113), (.v (.bin .neq (.t 111) (.t 112))), (some ⟨110, true⟩), [(.t 111), (.t 112)]⟩, ⟨(some 114), (.v (.pick (.t 110) (.t 113) (.k (.c (.bool false))))), none, []⟩, ⟨(some 115), (.v (.mv (.t 114))), none, []⟩, ⟨(some 116), (.v (.lda 4 (.t 4))), (some ⟨115, false⟩), [(.t 4)]⟩, ⟨(some 117), (.v (.lda 2 (.t 5))), (some ⟨115, false⟩), [(.t 5)]⟩, ⟨(some 118), (.v (.det 34 [⟨false, [.bool]⟩] [(.t 116), (.t 117)])), (some ⟨115, false⟩), [(.k (.fn 34 [])), (.t 116), (.t 117)]⟩, ⟨(some 119), (.v (.un .not (.t 118))), (some ⟨115, false⟩), [(.t 118)]⟩, ⟨(some 120), (.v (.mv (.t 119))), (some ⟨115, false⟩), [(.t 119)]⟩, ⟨(some 121), (.v (.mv (.t 16))), (some ⟨120, true⟩), [(.t 16)]⟩, ⟨(some 122), (.v (.bin .neq (.t 121) (.k (.c (.int .i64 0))))), (some ⟨120, true⟩), [(.t 121), (.k (.c (.int .i64 0)))]⟩, ⟨(some 123), (.v (.pick (.t 120) (.t 122) (.k (.c (.bool false))))), (some ⟨115, false⟩), [(.t 120), (.t 122), (.k (.c (.bool false)))]⟩, ⟨(some 124), (.v (.pick (.t 115) (.k (.c (.bool true))) (.t 123))), none, []⟩]) (.cond (.t 124) (.seq (.ops 0 [⟨(some 6), (.v (.mv (.k (.c (.bool false))))), none, []⟩]) .ret) .skip)) (.seq (.ops 0 [⟨(some 125), (.v (.mv (.t 15))), none, []⟩, ⟨(some 126), (.v (.bin .eql (.t 125) (.k (.c (.int .i64 0))))), none, []⟩, ⟨(some 127), (.v (.mv (.t 126))), none, []⟩, ⟨(some 128), (.v (.mv (.t 11))), (some ⟨127, false⟩), [(.t 11)]⟩, ⟨(some 129), (.v (.fa 1 (.t 5))), (some ⟨127, false⟩), [(.t 5)]⟩, ⟨(some 130), (.v (.ld (.t 129))), (some ⟨127, false⟩), [(.t 129)]⟩, ⟨(some 131), (.v (.det 35 [⟨false, [.bool]⟩] [(.t 128), (.t 130)])), (some ⟨127, false⟩), [(.k (.fn 35 [])), (.t 128), (.t 130)]⟩, ⟨(some 132), (.v (.mv (.t 131))), (some ⟨127, false⟩), [(.t 131)]⟩, ⟨(some 133), (.v (.mv (.t 13))), (some ⟨132, true⟩), [(.t 13)]⟩, ⟨(some 134), (.v (.fa 0 (.t 5))), (some ⟨132, true⟩), [(.t 5)]⟩, ⟨(some 135), (.v (.ld (.t 134))), (some ⟨132, true⟩), [(.t 134)]⟩, ⟨(some 136), (.v (.det 35 [⟨false, [.bool]⟩] [(.t 133), (.t 135)])), (some ⟨132, true⟩), [(.k (.fn 35 [])), (.t 133), (.t 135)]⟩, ⟨(some 137), (.v (.pick (.t 132) (.t 136) (.k (.c (.bool false))))), (some ⟨127, false⟩), [(.t 132), (.t 136), (.k (.c (.bool false)))]⟩, ⟨(some 138), (.v (.pick (.t 127) (.k (.c (.bool true))) (.t 137))), none, []⟩, ⟨(some 139), (.v (.mv (.t 138))), none, []⟩, ⟨(some 140), (.v (.det 11 [⟨false, [.bool]⟩] [])), (some ⟨139, true⟩), [(.k (.fn 11 []))]⟩, ⟨(some 141), (.v (.pick (.t 139) (.t 140) (.k (.c (.bool false))))), none, []⟩, ⟨(some 6), (.v (.mv (.t 141))), none, []⟩]) .ret)))))))))))), 142, [(.t 6)]⟩
theorem h10 : fnR Try.prog DD 10 = some rf10 := by kernel_rfl
/-- papermill/papermilllaw15.in -/
def rf34 : RFn := ⟨(.seq (.ops 2 [⟨(some 2), (.v (.box 0 24 (.t 0))), none, []⟩, ⟨(some 3), (.v (.box 1 45 (.t 1))), none, []⟩, ⟨(some 4), (.v (.mv (.k (.c (.bool false))))), none, []⟩]) (.seq (.ops 0 [⟨(some 5), (.v (.fa 0 (.t 2))), none, []⟩, ⟨(some 6), (.v (.ld (.t 5))), none, []⟩, ⟨(some 7), (.v (.fa 0 (.t 3))), none, []⟩, ⟨(some 8), (.v (.ld (.t 7))), none, []⟩, ⟨(some 9), (.v (.bin .leq (.t 6) (.t 8))), none, []⟩, ⟨(some 10), (.v (.mv (.t 9))), none, []⟩, ⟨(some 11), (.v (.fa 0 (.t 3))), (some ⟨10, true⟩), [(.t 3)]⟩, ⟨(some 12), (.v (.ld (.t 11))), (some ⟨10, true⟩), [(.t 11)]⟩, ⟨(some 13), (.v (.fa 1 (.t 2))), (some ⟨10, true⟩), [(.t 2)]⟩, ⟨(some 14), (.v (.ld (.t 13))), (some ⟨10, true⟩), [(.t 13)]⟩, ⟨(some 15), (.v (.bin .lss (.t 12) (.t 14))), (some ⟨10, true⟩), [(.t 12), (.t 14)]⟩, ⟨(some 16), (.v (.pick (.t 10) (.t 15) (.k (.c (.bool false))))), none, []⟩, ⟨(some 17), (.v (.mv (.t 16))), none, []⟩, ⟨(some 18), (.v (.fa 2 (.t 2))), (some ⟨17, true⟩), [(.t 2)]⟩, ⟨(some 19), (.v (.ld (.t 18))), (some ⟨17, true⟩), [(.t 18)]⟩, ⟨(some 20), (.v (.fa 1 (.t 3))), (some ⟨17, true⟩), [(.t 3)]⟩, ⟨(some 21), (.v (.ld (.t 20))), (some ⟨17, true⟩), [(.t 20)]⟩, ⟨(some 22), (.v (.bin .leq (.t 19) (.t 21))), (some ⟨17, true⟩), [(.t 19), (.t 21)]⟩, ⟨(some 23), (.v (.pick (.t 17) (.t 22) (.k (.c (.bool false))))), none, []⟩, ⟨(some 24), (.v (.mv (.t 23))), none, []⟩, ⟨(some 25), (.v (.fa 1 (.t 3))), (some ⟨24, true⟩), [(.t 3)]⟩, ⟨(some 26), (.v (.ld (.t 25))), (some ⟨24, true⟩), [(.t 25)]⟩, ⟨(some 27), (.v (.fa 3 (.t 2))), (some ⟨24, true⟩), [(.t 2)]⟩, ⟨(some 28), (.v (.ld (.t 27))), (some ⟨24, true⟩), [(.t 27)]⟩, ⟨(some 29), (.v (.bin .lss (.t 26) (.t 28))), (some ⟨24, true⟩), [(.t 26), (.t 28)]⟩, ⟨(some 30), (.v (.pick (.t 24) (.t 29) (.k (.c (.bool false))))), none, []⟩, ⟨(some 4), (.v (.mv (.t 30))), none, []⟩]) .ret)), 31, [(.t 4)]⟩
theorem h34 : fnR Try.prog DD 34 = some rf34 := by kernel_rfl
/-- papermill/span.Has -/
def rf35 : RFn := ⟨(.seq (.ops 1 [⟨(some 3), (.v (.box 0 3 (.t 1))), none, []⟩, ⟨(some 4), (.v (.mv (.k (.c (.bool false))))), none, []⟩]) (.seq (.ops 0 [⟨(some 5), (.v (.mv (.t 0))), none, []⟩, ⟨(some 6), (.v (.mkf 48 [(.t 3)])), none, []⟩, ⟨(some 7), (.v (.det 47 [⟨false, [.bool]⟩] [(.t 5), (.t 6)])), none, []⟩, ⟨(some 4), (.v (.mv (.t 7))), none, []⟩]) .ret)), 8, [(.t 4)]⟩
theorem h35 : fnR Try.prog DD 35 = some rf35 := by kernel_rfl
/-- slices.ContainsFunc[[]papermill/api.Span,papermill/api.Span] -/
def rf47 : RFn := ⟨(.seq (.ops 0 [⟨(some 4), (.v (.mv (.k (.c (.bool false))))), none, []⟩]) (.seq (.ops 0 [⟨(some 5), (.v (.mv (.t 0))), none, []⟩, ⟨(some 6), (.v (.mv (.t 1))), none, []⟩, ⟨(some 7), (.v (.det 60 [⟨false, [(.int .i64)]⟩] [(.t 5), (.t 6)])), none, []⟩, ⟨(some 8), (.v (.bin .geq (.t 7) (.k (.c (.int .i64 0))))), none, []⟩, ⟨(some 4), (.v (.mv (.t 8))), none, []⟩]) .ret)), 9, [(.t 4)]⟩
theorem h47 : fnR Try.prog DD 47 = some rf47 := by kernel_rfl
/-- papermill/span.Has closure 1 -/
def rf48 : RFn := ⟨(.seq (.ops 1 [⟨(some 2), (.v (.box 0 50 (.t 0))), none, []⟩, ⟨(some 3), (.v (.mv (.k (.c (.bool false))))), none, []⟩]) (.seq (.ops 0 [⟨(some 4), (.v (.fa 0 (.t 2))), none, []⟩, ⟨(some 5), (.v (.ld (.t 4))), none, []⟩, ⟨(some 6), (.v (.ld (.t 1))), none, []⟩, ⟨(some 7), (.v (.bin .leq (.t 5) (.t 6))), none, []⟩, ⟨(some 8), (.v (.mv (.t 7))), none, []⟩, ⟨(some 9), (.v (.ld (.t 1))), (some ⟨8, true⟩), [(.t 1)]⟩, ⟨(some 10), (.v (.fa 1 (.t 2))), (some ⟨8, true⟩), [(.t 2)]⟩, ⟨(some 11), (.v (.ld (.t 10))), (some ⟨8, true⟩), [(.t 10)]⟩, ⟨(some 12), (.v (.bin .lss (.t 9) (.t 11))), (some ⟨8, true⟩), [(.t 9), (.t 11)]⟩, ⟨(some 13), (.v (.pick (.t 8) (.t 12) (.k (.c (.bool false))))), none, []⟩, ⟨(some 3), (.v (.mv (.t 13))), none, []⟩]) .ret)), 14, [(.t 3)]⟩
theorem h48 : fnR Try.prog DD 48 = some rf48 := by kernel_rfl
def vc10 (E : Env) (x1 : List (List C)) (x2 : Int) (x3 : Int) (x4 : Int) (x5 : Int) (x6 : Int) (x7 : Int) (Q : List C → Prop) : Prop :=
  Br (E.lt 40 (E.len x1))
  ((E.pok 11 [(false, [.bool])] []) ∧ (∀ r8 : Nat → C, r8 = E.res 11 [] → 
    (Q [.bool (E.gb (r8 0))])))
  (Br (E.lt 1 (E.len x1))
    (((E.le 0 0) = true) ∧ ((E.lt 0 (E.len x1)) = true) ∧ 
      (((E.le 0 1) = true) ∧ 
      ((E.pok 28 [(true, [.int .i64, .int .i64, .int .i64, .int .i64]), (false, [.bool])] [.agg [.c (.int .i64 (E.gi (E.cell x1 0 0))), .c (.int .i64 (E.gi (E.cell x1 0 1))), .c (.int .i64 (E.gi (E.cell x1 0 2))), .c (.int .i64 (E.gi (E.cell x1 0 3)))], .agg [.c (.int .i64 (E.gi (E.cell x1 1 0))), .c (.int .i64 (E.gi (E.cell x1 1 1))), .c (.int .i64 (E.gi (E.cell x1 1 2))), .c (.int .i64 (E.gi (E.cell x1 1 3)))]]) ∧ (∀ r9 : Nat → C, r9 = E.res 28 [.agg [.c (.int .i64 (E.gi (E.cell x1 0 0))), .c (.int .i64 (E.gi (E.cell x1 0 1))), .c (.int .i64 (E.gi (E.cell x1 0 2))), .c (.int .i64 (E.gi (E.cell x1 0 3)))], .agg [.c (.int .i64 (E.gi (E.cell x1 1 0))), .c (.int .i64 (E.gi (E.cell x1 1 1))), .c (.int .i64 (E.gi (E.cell x1 1 2))), .c (.int .i64 (E.gi (E.cell x1 1 3)))]] → 
      ((E.pok 34 [(false, [.bool])] [.agg [.c (.int .i64 (E.gi (r9 0))), .c (.int .i64 (E.gi (r9 1))), .c (.int .i64 (E.gi (r9 2))), .c (.int .i64 (E.gi (r9 3)))], .agg [.c (.int .i64 x6), .c (.int .i64 x7)]]) ∧ (∀ r10 : Nat → C, r10 = E.res 34 [.agg [.c (.int .i64 (E.gi (r9 0))), .c (.int .i64 (E.gi (r9 1))), .c (.int .i64 (E.gi (r9 2))), .c (.int .i64 (E.gi (r9 3)))], .agg [.c (.int .i64 x6), .c (.int .i64 x7)]] → 
      ((E.pok 34 [(false, [.bool])] [.agg [.c (.int .i64 (E.gi (E.cell x1 0 0))), .c (.int .i64 (E.gi (E.cell x1 0 1))), .c (.int .i64 (E.gi (E.cell x1 0 2))), .c (.int .i64 (E.gi (E.cell x1 0 3)))], .agg [.c (.int .i64 x6), .c (.int .i64 x7)]]) ∧ (∀ r11 : Nat → C, r11 = E.res 34 [.agg [.c (.int .i64 (E.gi (E.cell x1 0 0))), .c (.int .i64 (E.gi (E.cell x1 0 1))), .c (.int .i64 (E.gi (E.cell x1 0 2))), .c (.int .i64 (E.gi (E.cell x1 0 3)))], .agg [.c (.int .i64 x6), .c (.int .i64 x7)]] → 
      ((Imp (E.gb (r11 0)) (E.pok 34 [(false, [.bool])] [.agg [.c (.int .i64 (E.gi (E.cell x1 1 0))), .c (.int .i64 (E.gi (E.cell x1 1 1))), .c (.int .i64 (E.gi (E.cell x1 1 2))), .c (.int .i64 (E.gi (E.cell x1 1 3)))], .agg [.c (.int .i64 x6), .c (.int .i64 x7)]])) ∧ (∀ r12 : Nat → C, r12 = E.res 34 [.agg [.c (.int .i64 (E.gi (E.cell x1 1 0))), .c (.int .i64 (E.gi (E.cell x1 1 1))), .c (.int .i64 (E.gi (E.cell x1 1 2))), .c (.int .i64 (E.gi (E.cell x1 1 3)))], .agg [.c (.int .i64 x6), .c (.int .i64 x7)]] → 
      (Br (E.not (E.beq (E.gb (r10 0)) (E.bite (E.gb (r11 0)) (E.gb (r12 0)) false)))
      (Q [.bool false])
      ((E.pok 16 [(false, [.sl [.int .i64, .int .i64, .int .i64, .int .i64]]), (false, [.int .i64])] [.c (.sl [.int .i64, .int .i64, .int .i64, .int .i64] x1), .agg [.c (.int .i64 x2), .c (.int .i64 x3), .c (.int .i64 x4), .c (.int .i64 x5)]]) ∧ (∀ r13 : Nat → C, r13 = E.res 16 [.c (.sl [.int .i64, .int .i64, .int .i64, .int .i64] x1), .agg [.c (.int .i64 x2), .c (.int .i64 x3), .c (.int .i64 x4), .c (.int .i64 x5)]] → 
        ((E.pok 19 [(false, [.sl [.int .i64, .int .i64]]), (false, [.int .i64])] [.c (.sl [.int .i64, .int .i64, .int .i64, .int .i64] x1)]) ∧ (∀ r14 : Nat → C, r14 = E.res 19 [.c (.sl [.int .i64, .int .i64, .int .i64, .int .i64] x1)] → 
        ((E.pok 21 [(false, [.sl [.int .i64, .int .i64]]), (false, [.int .i64])] [.c (.sl [.int .i64, .int .i64, .int .i64, .int .i64] x1)]) ∧ (∀ r15 : Nat → C, r15 = E.res 21 [.c (.sl [.int .i64, .int .i64, .int .i64, .int .i64] x1)] → 
        (Br (E.bite (E.bite (E.not (E.eq (E.gi (r13 1)) 0)) true (E.not (E.eq (E.gi (r14 1)) 0))) true (E.not (E.eq (E.gi (r15 1)) 0)))
        ((E.pok 11 [(false, [.bool])] []) ∧ (∀ r16 : Nat → C, r16 = E.res 11 [] → 
          (Q [.bool (E.gb (r16 0))])))
        (LoopP2 (fun (i17 : Int) (i18 : Int) (K19 : (Int) → (Int) → Prop) =>
          Br (E.lt i18 (E.len x1))
            (((E.le 0 i18) = true) ∧ 
              ((E.pok 34 [(false, [.bool])] [.agg [.c (.int .i64 (E.gi (E.cell x1 i18 0))), .c (.int .i64 (E.gi (E.cell x1 i18 1))), .c (.int .i64 (E.gi (E.cell x1 i18 2))), .c (.int .i64 (E.gi (E.cell x1 i18 3)))], .agg [.c (.int .i64 x6), .c (.int .i64 x7)]]) ∧ (∀ r20 : Nat → C, r20 = E.res 34 [.agg [.c (.int .i64 (E.gi (E.cell x1 i18 0))), .c (.int .i64 (E.gi (E.cell x1 i18 1))), .c (.int .i64 (E.gi (E.cell x1 i18 2))), .c (.int .i64 (E.gi (E.cell x1 i18 3)))], .agg [.c (.int .i64 x6), .c (.int .i64 x7)]] → 
              (Br (E.gb (r20 0))
              (K19 ((E.add .i64 i17 1)) ((E.add .i64 i18 1)))
              (K19 (i17) ((E.add .i64 i18 1)))))))
            (LoopP2 (fun (i21 : Int) (i22 : Int) (K23 : (Int) → (Int) → Prop) =>
              Br (E.lt i22 (E.len (E.gl (r13 0))))
                (((E.le 0 i22) = true) ∧ 
                  ((E.pok 34 [(false, [.bool])] [.agg [.c (.int .i64 (E.gi (E.cell (E.gl (r13 0)) i22 0))), .c (.int .i64 (E.gi (E.cell (E.gl (r13 0)) i22 1))), .c (.int .i64 (E.gi (E.cell (E.gl (r13 0)) i22 2))), .c (.int .i64 (E.gi (E.cell (E.gl (r13 0)) i22 3)))], .agg [.c (.int .i64 x6), .c (.int .i64 x7)]]) ∧ (∀ r24 : Nat → C, r24 = E.res 34 [.agg [.c (.int .i64 (E.gi (E.cell (E.gl (r13 0)) i22 0))), .c (.int .i64 (E.gi (E.cell (E.gl (r13 0)) i22 1))), .c (.int .i64 (E.gi (E.cell (E.gl (r13 0)) i22 2))), .c (.int .i64 (E.gi (E.cell (E.gl (r13 0)) i22 3)))], .agg [.c (.int .i64 x6), .c (.int .i64 x7)]] → 
                  (Br (E.gb (r24 0))
                  (K23 ((E.add .i64 i21 1)) ((E.add .i64 i22 1)))
                  (K23 (i21) ((E.add .i64 i22 1)))))))
                ((E.pok 34 [(false, [.bool])] [.agg [.c (.int .i64 x2), .c (.int .i64 x3), .c (.int .i64 x4), .c (.int .i64 x5)], .agg [.c (.int .i64 x6), .c (.int .i64 x7)]]) ∧ (∀ r25 : Nat → C, r25 = E.res 34 [.agg [.c (.int .i64 x2), .c (.int .i64 x3), .c (.int .i64 x4), .c (.int .i64 x5)], .agg [.c (.int .i64 x6), .c (.int .i64 x7)]] → 
                  ((∀ r26 : Nat → C, r26 = E.res 34 [.agg [.c (.int .i64 x2), .c (.int .i64 x3), .c (.int .i64 x4), .c (.int .i64 x5)], .agg [.c (.int .i64 x6), .c (.int .i64 x7)]] → 
                  ((Imp (E.not (E.bite (E.gb (r25 0)) (E.not (E.eq i17 i21)) false)) (Imp (E.not (E.gb (r26 0))) ((E.and (E.not (E.bite (E.gb (r25 0)) (E.not (E.eq i17 i21)) false)) (E.not (E.gb (r26 0)))) = true))) ∧ 
                  (Br (E.bite (E.bite (E.gb (r25 0)) (E.not (E.eq i17 i21)) false) true (E.bite (E.not (E.gb (r26 0))) (E.not (E.eq i21 0)) false))
                  (Q [.bool false])
                  ((Imp (E.not (E.eq i17 0)) (E.pok 35 [(false, [.bool])] [.c (.sl [.int .i64, .int .i64] (E.gl (r14 0))), .c (.int .i64 x7)])) ∧ (∀ r27 : Nat → C, r27 = E.res 35 [.c (.sl [.int .i64, .int .i64] (E.gl (r14 0))), .c (.int .i64 x7)] → 
                    ((Imp (E.and (E.not (E.eq i17 0)) (E.gb (r27 0))) (E.pok 35 [(false, [.bool])] [.c (.sl [.int .i64, .int .i64] (E.gl (r15 0))), .c (.int .i64 x6)])) ∧ (∀ r28 : Nat → C, r28 = E.res 35 [.c (.sl [.int .i64, .int .i64] (E.gl (r15 0))), .c (.int .i64 x6)] → 
                    ((Imp (E.not (E.eq i17 0)) (Imp (E.gb (r27 0)) ((E.and (E.not (E.eq i17 0)) (E.gb (r27 0))) = true))) ∧ 
                    ((Imp (E.bite (E.eq i17 0) true (E.bite (E.gb (r27 0)) (E.gb (r28 0)) false)) (E.pok 11 [(false, [.bool])] [])) ∧ (∀ r29 : Nat → C, r29 = E.res 11 [] → 
                    (Q [.bool (E.bite (E.bite (E.eq i17 0) true (E.bite (E.gb (r27 0)) (E.gb (r28 0)) false)) (E.gb (r29 0)) false)])))))))))))))))
              (0) (0)))
          (0) (0))))))))))))))))))))
    ((E.pok 16 [(false, [.sl [.int .i64, .int .i64, .int .i64, .int .i64]]), (false, [.int .i64])] [.c (.sl [.int .i64, .int .i64, .int .i64, .int .i64] x1), .agg [.c (.int .i64 x2), .c (.int .i64 x3), .c (.int .i64 x4), .c (.int .i64 x5)]]) ∧ (∀ r30 : Nat → C, r30 = E.res 16 [.c (.sl [.int .i64, .int .i64, .int .i64, .int .i64] x1), .agg [.c (.int .i64 x2), .c (.int .i64 x3), .c (.int .i64 x4), .c (.int .i64 x5)]] → 
      ((E.pok 19 [(false, [.sl [.int .i64, .int .i64]]), (false, [.int .i64])] [.c (.sl [.int .i64, .int .i64, .int .i64, .int .i64] x1)]) ∧ (∀ r31 : Nat → C, r31 = E.res 19 [.c (.sl [.int .i64, .int .i64, .int .i64, .int .i64] x1)] → 
      ((E.pok 21 [(false, [.sl [.int .i64, .int .i64]]), (false, [.int .i64])] [.c (.sl [.int .i64, .int .i64, .int .i64, .int .i64] x1)]) ∧ (∀ r32 : Nat → C, r32 = E.res 21 [.c (.sl [.int .i64, .int .i64, .int .i64, .int .i64] x1)] → 
      (Br (E.bite (E.bite (E.not (E.eq (E.gi (r30 1)) 0)) true (E.not (E.eq (E.gi (r31 1)) 0))) true (E.not (E.eq (E.gi (r32 1)) 0)))
      ((E.pok 11 [(false, [.bool])] []) ∧ (∀ r33 : Nat → C, r33 = E.res 11 [] → 
        (Q [.bool (E.gb (r33 0))])))
      (LoopP2 (fun (i34 : Int) (i35 : Int) (K36 : (Int) → (Int) → Prop) =>
        Br (E.lt i35 (E.len x1))
          (((E.le 0 i35) = true) ∧ 
            ((E.pok 34 [(false, [.bool])] [.agg [.c (.int .i64 (E.gi (E.cell x1 i35 0))), .c (.int .i64 (E.gi (E.cell x1 i35 1))), .c (.int .i64 (E.gi (E.cell x1 i35 2))), .c (.int .i64 (E.gi (E.cell x1 i35 3)))], .agg [.c (.int .i64 x6), .c (.int .i64 x7)]]) ∧ (∀ r37 : Nat → C, r37 = E.res 34 [.agg [.c (.int .i64 (E.gi (E.cell x1 i35 0))), .c (.int .i64 (E.gi (E.cell x1 i35 1))), .c (.int .i64 (E.gi (E.cell x1 i35 2))), .c (.int .i64 (E.gi (E.cell x1 i35 3)))], .agg [.c (.int .i64 x6), .c (.int .i64 x7)]] → 
            (Br (E.gb (r37 0))
            (K36 ((E.add .i64 i34 1)) ((E.add .i64 i35 1)))
            (K36 (i34) ((E.add .i64 i35 1)))))))
          (LoopP2 (fun (i38 : Int) (i39 : Int) (K40 : (Int) → (Int) → Prop) =>
            Br (E.lt i39 (E.len (E.gl (r30 0))))
              (((E.le 0 i39) = true) ∧ 
                ((E.pok 34 [(false, [.bool])] [.agg [.c (.int .i64 (E.gi (E.cell (E.gl (r30 0)) i39 0))), .c (.int .i64 (E.gi (E.cell (E.gl (r30 0)) i39 1))), .c (.int .i64 (E.gi (E.cell (E.gl (r30 0)) i39 2))), .c (.int .i64 (E.gi (E.cell (E.gl (r30 0)) i39 3)))], .agg [.c (.int .i64 x6), .c (.int .i64 x7)]]) ∧ (∀ r41 : Nat → C, r41 = E.res 34 [.agg [.c (.int .i64 (E.gi (E.cell (E.gl (r30 0)) i39 0))), .c (.int .i64 (E.gi (E.cell (E.gl (r30 0)) i39 1))), .c (.int .i64 (E.gi (E.cell (E.gl (r30 0)) i39 2))), .c (.int .i64 (E.gi (E.cell (E.gl (r30 0)) i39 3)))], .agg [.c (.int .i64 x6), .c (.int .i64 x7)]] → 
                (Br (E.gb (r41 0))
                (K40 ((E.add .i64 i38 1)) ((E.add .i64 i39 1)))
                (K40 (i38) ((E.add .i64 i39 1)))))))
              ((E.pok 34 [(false, [.bool])] [.agg [.c (.int .i64 x2), .c (.int .i64 x3), .c (.int .i64 x4), .c (.int .i64 x5)], .agg [.c (.int .i64 x6), .c (.int .i64 x7)]]) ∧ (∀ r42 : Nat → C, r42 = E.res 34 [.agg [.c (.int .i64 x2), .c (.int .i64 x3), .c (.int .i64 x4), .c (.int .i64 x5)], .agg [.c (.int .i64 x6), .c (.int .i64 x7)]] → 
                ((∀ r43 : Nat → C, r43 = E.res 34 [.agg [.c (.int .i64 x2), .c (.int .i64 x3), .c (.int .i64 x4), .c (.int .i64 x5)], .agg [.c (.int .i64 x6), .c (.int .i64 x7)]] → 
                ((Imp (E.not (E.bite (E.gb (r42 0)) (E.not (E.eq i34 i38)) false)) (Imp (E.not (E.gb (r43 0))) ((E.and (E.not (E.bite (E.gb (r42 0)) (E.not (E.eq i34 i38)) false)) (E.not (E.gb (r43 0)))) = true))) ∧ 
                (Br (E.bite (E.bite (E.gb (r42 0)) (E.not (E.eq i34 i38)) false) true (E.bite (E.not (E.gb (r43 0))) (E.not (E.eq i38 0)) false))
                (Q [.bool false])
                ((Imp (E.not (E.eq i34 0)) (E.pok 35 [(false, [.bool])] [.c (.sl [.int .i64, .int .i64] (E.gl (r31 0))), .c (.int .i64 x7)])) ∧ (∀ r44 : Nat → C, r44 = E.res 35 [.c (.sl [.int .i64, .int .i64] (E.gl (r31 0))), .c (.int .i64 x7)] → 
                  ((Imp (E.and (E.not (E.eq i34 0)) (E.gb (r44 0))) (E.pok 35 [(false, [.bool])] [.c (.sl [.int .i64, .int .i64] (E.gl (r32 0))), .c (.int .i64 x6)])) ∧ (∀ r45 : Nat → C, r45 = E.res 35 [.c (.sl [.int .i64, .int .i64] (E.gl (r32 0))), .c (.int .i64 x6)] → 
                  ((Imp (E.not (E.eq i34 0)) (Imp (E.gb (r44 0)) ((E.and (E.not (E.eq i34 0)) (E.gb (r44 0))) = true))) ∧ 
                  ((Imp (E.bite (E.eq i34 0) true (E.bite (E.gb (r44 0)) (E.gb (r45 0)) false)) (E.pok 11 [(false, [.bool])] [])) ∧ (∀ r46 : Nat → C, r46 = E.res 11 [] → 
                  (Q [.bool (E.bite (E.bite (E.eq i34 0) true (E.bite (E.gb (r44 0)) (E.gb (r45 0)) false)) (E.gb (r46 0)) false)])))))))))))))))
            (0) (0)))
        (0) (0))))))))))
theorem w10 {P : Program} {tbl : FuncId → List A → List C}  {x1 : List (List C)} {x2 : Int} {x3 : Int} {x4 : Int} {x5 : Int} {x6 : Int} {x7 : Int} {row : List C} (h : vc10 (stdE P tbl) x1 x2 x3 x4 x5 x6 x7 fun c => c = row) : WPg P tbl rf10 [(false, [.bool])] row [.c (.sl [.int .i64, .int .i64, .int .i64, .int .i64] x1), .agg [.c (.int .i64 x2), .c (.int .i64 x3), .c (.int .i64 x4), .c (.int .i64 x5)], .agg [.c (.int .i64 x6), .c (.int .i64 x7)]] := by
  refine ⟨?_⟩
  revert h
  generalize hE : stdE P tbl = E
  intro h
  unfold vc10 at h
  cbv
  refine ⟨fun hb47 => ?_, fun hb47 => ?_⟩
  · replace h := h.t hb47
    have c48 := h.1
    refine ⟨c48, ?_⟩
    replace h := h.2 _ rfl
    have h : _ = row := h
    subst h
    repeat' (first | exact trivial | exact rfl | refine And.intro ?_ ?_)
  · replace h := h.f hb47
    refine ⟨fun hb49 => ?_, fun hb49 => ?_⟩
    · replace h := h.t hb49
      have c50 := h.1
      refine ⟨c50, ?_⟩
      replace h := h.2
      have c51 := h.1
      refine ⟨c51, ?_⟩
      replace h := h.2
      have c52 := h.1
      refine ⟨c52, ?_⟩
      replace h := h.2
      refine ⟨hb49, ?_⟩
      have c53 := h.1
      refine ⟨c53, ?_⟩
      replace h := h.2 _ rfl
      have c54 := h.1
      refine ⟨c54, ?_⟩
      replace h := h.2 _ rfl
      refine ⟨c50, ?_⟩
      refine ⟨c51, ?_⟩
      have c55 := h.1
      refine ⟨c55, ?_⟩
      replace h := h.2 _ rfl
      refine ⟨⟨fun hh => hh⟩, ?_⟩
      refine ⟨⟨fun _ => c52⟩, ?_⟩
      refine ⟨⟨fun _ => hb49⟩, ?_⟩
      refine ⟨⟨fun hh => hh⟩, ?_⟩
      refine ⟨⟨fun hh => hh⟩, ?_⟩
      refine ⟨⟨fun hh => hh⟩, ?_⟩
      have c56 := h.1
      refine ⟨c56, ?_⟩
      replace h := h.2 _ rfl
      refine ⟨⟨fun hh => hh⟩, ?_⟩
      refine ⟨fun hb57 => ?_, fun hb57 => ?_⟩
      · replace h := h.t hb57
        have h : _ = row := h
        subst h
        repeat' (first | exact trivial | exact rfl | refine And.intro ?_ ?_)
      · replace h := h.f hb57
        have c58 := h.1
        refine ⟨c58, ?_⟩
        replace h := h.2 _ rfl
        have c59 := h.1
        refine ⟨c59, ?_⟩
        replace h := h.2 _ rfl
        have c60 := h.1
        refine ⟨c60, ?_⟩
        replace h := h.2 _ rfl
        refine ⟨⟨fun hh => hh⟩, ?_⟩
        refine ⟨⟨fun hh => hh⟩, ?_⟩
        refine ⟨⟨fun hh => hh⟩, ?_⟩
        refine ⟨⟨fun hh => hh⟩, ?_⟩
        refine ⟨fun hb61 => ?_, fun hb61 => ?_⟩
        · replace h := h.t hb61
          have c62 := h.1
          refine ⟨c62, ?_⟩
          replace h := h.2 _ rfl
          have h : _ = row := h
          subst h
          repeat' (first | exact trivial | exact rfl | refine And.intro ?_ ?_)
        · replace h := h.f hb61
          obtain ⟨I, μ, h0, hI⟩ := h
          refine LoopW.inv (fun R R' s h k => RCode.wp_mono _ R R' s h k) (fun p : Int × Int => (fun (i17 : Int) (i18 : Int) => (⟨[.c (.sl [.int .i64, .int .i64, .int .i64, .int .i64] x1), .u, .u, .u, .ptr 0 0, .ptr 1 0, .u, .u, .u, .c (.sl [.int .i64, .int .i64, .int .i64, .int .i64] (E.gl ((E.res 16 [.c (.sl [.int .i64, .int .i64, .int .i64, .int .i64] x1), .agg [.c (.int .i64 x2), .c (.int .i64 x3), .c (.int .i64 x4), .c (.int .i64 x5)]]) 0))), .u, .c (.sl [.int .i64, .int .i64] (E.gl ((E.res 19 [.c (.sl [.int .i64, .int .i64, .int .i64, .int .i64] x1)]) 0))), .u, .c (.sl [.int .i64, .int .i64] (E.gl ((E.res 21 [.c (.sl [.int .i64, .int .i64, .int .i64, .int .i64] x1)]) 0))), .u, .c (.int .i64 i17), .c (.int .i64 0), .c (.int .i64 i18), .u, .u, .u, .u, .u, .u, .u, .u, .u, .u, .u, .u, .u, .u, .u, .u, .u, .u, .u, .u, .u, .u, .u, .u, .u, .u, .u, .u, .u, .u, .u, .u, .u, .u, .u, .u, .u, .u, .u, .u, .u, .u, .u, .u, .u, .u, .u, .u, .u, .u, .u, .u, .u, .u, .u, .u, .u, .u, .u, .u, .u, .u, .u, .u, .u, .u, .u, .u, .u, .u, .u, .u, .u, .u, .u, .u, .u, .u, .u, .u, .u, .u, .u, .u, .u, .u, .u, .u, .u, .u, .u, .u, .u, .u, .u, .u, .u, .u, .u, .u, .u, .u, .u, .u, .u, .u, .u, .u, .u, .u, .u, .u, .u, .u, .u, .u, .u, .u, .u, .u, .u, .u, .u, .u], [.box 24 [.c (.int .i64 x2), .c (.int .i64 x3), .c (.int .i64 x4), .c (.int .i64 x5)], .box 45 [.c (.int .i64 x6), .c (.int .i64 x7)]]⟩ : St)) p.1 p.2) (fun p => I p.1 p.2) (fun p => μ p.1 p.2) (_, _) h0 ?_ ?_
          · refine GSt.ren [0, 1] rfl rfl rfl (fun i hi => absurd hi (Nat.not_lt_zero i)) (Nat.zero_le _) ?_ ?_
            all_goals (repeat' (first | exact trivial | exact Or.inl rfl | exact Or.inr rfl | refine And.intro ?_ ?_))
          · rintro ⟨i17, i18⟩ h
            replace h := hI i17 i18 h
            cbv
            refine ⟨fun hb63 => ?_, fun hb63 => ?_⟩
            · replace h := h.t hb63
              have c64 := h.1
              refine ⟨c64, ?_⟩
              replace h := h.2
              refine ⟨hb63, ?_⟩
              have c65 := h.1
              refine ⟨c65, ?_⟩
              replace h := h.2 _ rfl
              refine ⟨fun hb66 => ?_, fun hb66 => ?_⟩
              · replace h := h.t hb66
                refine ⟨(_, _), h.1, GSt.ren [0, 1] rfl rfl rfl (fun i hi => absurd hi (Nat.not_lt_zero i)) (Nat.zero_le _) ?_ ?_, h.2⟩
                all_goals (repeat' (first | exact trivial | exact Or.inl rfl | exact Or.inr rfl | refine And.intro ?_ ?_))
              · replace h := h.f hb66
                refine ⟨(_, _), h.1, GSt.ren [0, 1] rfl rfl rfl (fun i hi => absurd hi (Nat.not_lt_zero i)) (Nat.zero_le _) ?_ ?_, h.2⟩
                all_goals (repeat' (first | exact trivial | exact Or.inl rfl | exact Or.inr rfl | refine And.intro ?_ ?_))
            · replace h := h.f hb63
              obtain ⟨I, μ, h0, hI⟩ := h
              refine LoopW.inv (fun R R' s h k => RCode.wp_mono _ R R' s h k) (fun p : Int × Int => (fun (i21 : Int) (i22 : Int) => (⟨[.u, .u, .u, .u, .ptr 0 0, .ptr 1 0, .u, .u, .u, .c (.sl [.int .i64, .int .i64, .int .i64, .int .i64] (E.gl ((E.res 16 [.c (.sl [.int .i64, .int .i64, .int .i64, .int .i64] x1), .agg [.c (.int .i64 x2), .c (.int .i64 x3), .c (.int .i64 x4), .c (.int .i64 x5)]]) 0))), .u, .c (.sl [.int .i64, .int .i64] (E.gl ((E.res 19 [.c (.sl [.int .i64, .int .i64, .int .i64, .int .i64] x1)]) 0))), .u, .c (.sl [.int .i64, .int .i64] (E.gl ((E.res 21 [.c (.sl [.int .i64, .int .i64, .int .i64, .int .i64] x1)]) 0))), .u, .c (.int .i64 i17), .c (.int .i64 i21), .u, .c (.int .i64 i22), .u, .u, .u, .u, .u, .u, .u, .u, .u, .u, .u, .u, .u, .u, .u, .u, .u, .u, .u, .u, .u, .u, .u, .u, .u, .u, .u, .u, .u, .u, .u, .u, .u, .u, .u, .u, .u, .u, .u, .u, .u, .u, .u, .u, .u, .u, .u, .u, .u, .u, .u, .u, .u, .u, .u, .u, .u, .u, .u, .u, .u, .u, .u, .u, .u, .u, .u, .u, .u, .u, .u, .u, .u, .u, .u, .u, .u, .u, .u, .u, .u, .u, .u, .u, .u, .u, .u, .u, .u, .u, .u, .u, .u, .u, .u, .u, .u, .u, .u, .u, .u, .u, .u, .u, .u, .u, .u, .u, .u, .u, .u, .u, .u, .u, .u, .u, .u, .u, .u, .u, .u, .u, .u], [.box 24 [.c (.int .i64 x2), .c (.int .i64 x3), .c (.int .i64 x4), .c (.int .i64 x5)], .box 45 [.c (.int .i64 x6), .c (.int .i64 x7)]]⟩ : St)) p.1 p.2) (fun p => I p.1 p.2) (fun p => μ p.1 p.2) (_, _) h0 ?_ ?_
              · refine GSt.ren [0, 1] rfl rfl rfl (fun i hi => absurd hi (Nat.not_lt_zero i)) (Nat.zero_le _) ?_ ?_
                all_goals (repeat' (first | exact trivial | exact Or.inl rfl | exact Or.inr rfl | refine And.intro ?_ ?_))
              · rintro ⟨i21, i22⟩ h
                replace h := hI i21 i22 h
                cbv
                refine ⟨fun hb67 => ?_, fun hb67 => ?_⟩
                · replace h := h.t hb67
                  have c68 := h.1
                  refine ⟨c68, ?_⟩
                  replace h := h.2
                  refine ⟨hb67, ?_⟩
                  have c69 := h.1
                  refine ⟨c69, ?_⟩
                  replace h := h.2 _ rfl
                  refine ⟨fun hb70 => ?_, fun hb70 => ?_⟩
                  · replace h := h.t hb70
                    refine ⟨(_, _), h.1, GSt.ren [0, 1] rfl rfl rfl (fun i hi => absurd hi (Nat.not_lt_zero i)) (Nat.zero_le _) ?_ ?_, h.2⟩
                    all_goals (repeat' (first | exact trivial | exact Or.inl rfl | exact Or.inr rfl | refine And.intro ?_ ?_))
                  · replace h := h.f hb70
                    refine ⟨(_, _), h.1, GSt.ren [0, 1] rfl rfl rfl (fun i hi => absurd hi (Nat.not_lt_zero i)) (Nat.zero_le _) ?_ ?_, h.2⟩
                    all_goals (repeat' (first | exact trivial | exact Or.inl rfl | exact Or.inr rfl | refine And.intro ?_ ?_))
                · replace h := h.f hb67
                  have c71 := h.1
                  refine ⟨c71, ?_⟩
                  replace h := h.2 _ rfl
                  refine ⟨⟨fun hh => hh⟩, ?_⟩
                  refine ⟨⟨fun hh => hh⟩, ?_⟩
                  refine ⟨⟨fun hh => hh⟩, ?_⟩
                  refine ⟨⟨fun hh => hh⟩, ?_⟩
                  refine ⟨⟨fun hh => hh⟩, ?_⟩
                  refine ⟨⟨fun _ => c71⟩, ?_⟩
                  replace h := h _ rfl
                  refine ⟨⟨fun hh => hh⟩, ?_⟩
                  refine ⟨⟨fun hh => hh⟩, ?_⟩
                  refine ⟨⟨fun hh => hh⟩, ?_⟩
                  refine ⟨⟨fun hh => hh⟩, ?_⟩
                  have c72 := h.1
                  refine ⟨c72, ?_⟩
                  replace h := h.2
                  refine ⟨⟨fun hh => hh⟩, ?_⟩
                  refine ⟨fun hb73 => ?_, fun hb73 => ?_⟩
                  · replace h := h.t hb73
                    have h : _ = row := h
                    subst h
                    repeat' (first | exact trivial | exact rfl | refine And.intro ?_ ?_)
                  · replace h := h.f hb73
                    refine ⟨⟨fun hh => hh⟩, ?_⟩
                    refine ⟨⟨fun hh => hh⟩, ?_⟩
                    refine ⟨⟨fun hh => hh⟩, ?_⟩
                    have c74 := h.1
                    refine ⟨c74, ?_⟩
                    replace h := h.2 _ rfl
                    refine ⟨⟨fun hh => hh⟩, ?_⟩
                    refine ⟨⟨fun hh => hh⟩, ?_⟩
                    refine ⟨⟨fun hh => hh⟩, ?_⟩
                    refine ⟨⟨fun hh => hh⟩, ?_⟩
                    have c75 := h.1
                    refine ⟨c75, ?_⟩
                    replace h := h.2 _ rfl
                    refine ⟨⟨fun hh => hh⟩, ?_⟩
                    have c76 := h.1
                    refine ⟨c76, ?_⟩
                    replace h := h.2
                    refine ⟨⟨fun hh => hh⟩, ?_⟩
                    have c77 := h.1
                    refine ⟨c77, ?_⟩
                    replace h := h.2 _ rfl
                    refine ⟨⟨fun hh => hh⟩, ?_⟩
                    have h : _ = row := h
                    subst h
                    repeat' (first | exact trivial | exact rfl | refine And.intro ?_ ?_)
    · replace h := h.f hb49
      have c78 := h.1
      refine ⟨c78, ?_⟩
      replace h := h.2 _ rfl
      have c79 := h.1
      refine ⟨c79, ?_⟩
      replace h := h.2 _ rfl
      have c80 := h.1
      refine ⟨c80, ?_⟩
      replace h := h.2 _ rfl
      refine ⟨⟨fun hh => hh⟩, ?_⟩
      refine ⟨⟨fun hh => hh⟩, ?_⟩
      refine ⟨⟨fun hh => hh⟩, ?_⟩
      refine ⟨⟨fun hh => hh⟩, ?_⟩
      refine ⟨fun hb81 => ?_, fun hb81 => ?_⟩
      · replace h := h.t hb81
        have c82 := h.1
        refine ⟨c82, ?_⟩
        replace h := h.2 _ rfl
        have h : _ = row := h
        subst h
        repeat' (first | exact trivial | exact rfl | refine And.intro ?_ ?_)
      · replace h := h.f hb81
        obtain ⟨I, μ, h0, hI⟩ := h
        refine LoopW.inv (fun R R' s h k => RCode.wp_mono _ R R' s h k) (fun p : Int × Int => (fun (i34 : Int) (i35 : Int) => (⟨[.c (.sl [.int .i64, .int .i64, .int .i64, .int .i64] x1), .u, .u, .u, .ptr 0 0, .ptr 1 0, .u, .u, .u, .c (.sl [.int .i64, .int .i64, .int .i64, .int .i64] (E.gl ((E.res 16 [.c (.sl [.int .i64, .int .i64, .int .i64, .int .i64] x1), .agg [.c (.int .i64 x2), .c (.int .i64 x3), .c (.int .i64 x4), .c (.int .i64 x5)]]) 0))), .u, .c (.sl [.int .i64, .int .i64] (E.gl ((E.res 19 [.c (.sl [.int .i64, .int .i64, .int .i64, .int .i64] x1)]) 0))), .u, .c (.sl [.int .i64, .int .i64] (E.gl ((E.res 21 [.c (.sl [.int .i64, .int .i64, .int .i64, .int .i64] x1)]) 0))), .u, .c (.int .i64 i34), .c (.int .i64 0), .c (.int .i64 i35), .u, .u, .u, .u, .u, .u, .u, .u, .u, .u, .u, .u, .u, .u, .u, .u, .u, .u, .u, .u, .u, .u, .u, .u, .u, .u, .u, .u, .u, .u, .u, .u, .u, .u, .u, .u, .u, .u, .u, .u, .u, .u, .u, .u, .u, .u, .u, .u, .u, .u, .u, .u, .u, .u, .u, .u, .u, .u, .u, .u, .u, .u, .u, .u, .u, .u, .u, .u, .u, .u, .u, .u, .u, .u, .u, .u, .u, .u, .u, .u, .u, .u, .u, .u, .u, .u, .u, .u, .u, .u, .u, .u, .u, .u, .u, .u, .u, .u, .u, .u, .u, .u, .u, .u, .u, .u, .u, .u, .u, .u, .u, .u, .u, .u, .u, .u, .u, .u, .u, .u, .u, .u, .u, .u], [.box 24 [.c (.int .i64 x2), .c (.int .i64 x3), .c (.int .i64 x4), .c (.int .i64 x5)], .box 45 [.c (.int .i64 x6), .c (.int .i64 x7)]]⟩ : St)) p.1 p.2) (fun p => I p.1 p.2) (fun p => μ p.1 p.2) (_, _) h0 ?_ ?_
        · refine GSt.ren [0, 1] rfl rfl rfl (fun i hi => absurd hi (Nat.not_lt_zero i)) (Nat.zero_le _) ?_ ?_
          all_goals (repeat' (first | exact trivial | exact Or.inl rfl | exact Or.inr rfl | refine And.intro ?_ ?_))
        · rintro ⟨i34, i35⟩ h
          replace h := hI i34 i35 h
          cbv
          refine ⟨fun hb83 => ?_, fun hb83 => ?_⟩
          · replace h := h.t hb83
            have c84 := h.1
            refine ⟨c84, ?_⟩
            replace h := h.2
            refine ⟨hb83, ?_⟩
            have c85 := h.1
            refine ⟨c85, ?_⟩
            replace h := h.2 _ rfl
            refine ⟨fun hb86 => ?_, fun hb86 => ?_⟩
            · replace h := h.t hb86
              refine ⟨(_, _), h.1, GSt.ren [0, 1] rfl rfl rfl (fun i hi => absurd hi (Nat.not_lt_zero i)) (Nat.zero_le _) ?_ ?_, h.2⟩
              all_goals (repeat' (first | exact trivial | exact Or.inl rfl | exact Or.inr rfl | refine And.intro ?_ ?_))
            · replace h := h.f hb86
              refine ⟨(_, _), h.1, GSt.ren [0, 1] rfl rfl rfl (fun i hi => absurd hi (Nat.not_lt_zero i)) (Nat.zero_le _) ?_ ?_, h.2⟩
              all_goals (repeat' (first | exact trivial | exact Or.inl rfl | exact Or.inr rfl | refine And.intro ?_ ?_))
          · replace h := h.f hb83
            obtain ⟨I, μ, h0, hI⟩ := h
            refine LoopW.inv (fun R R' s h k => RCode.wp_mono _ R R' s h k) (fun p : Int × Int => (fun (i38 : Int) (i39 : Int) => (⟨[.u, .u, .u, .u, .ptr 0 0, .ptr 1 0, .u, .u, .u, .c (.sl [.int .i64, .int .i64, .int .i64, .int .i64] (E.gl ((E.res 16 [.c (.sl [.int .i64, .int .i64, .int .i64, .int .i64] x1), .agg [.c (.int .i64 x2), .c (.int .i64 x3), .c (.int .i64 x4), .c (.int .i64 x5)]]) 0))), .u, .c (.sl [.int .i64, .int .i64] (E.gl ((E.res 19 [.c (.sl [.int .i64, .int .i64, .int .i64, .int .i64] x1)]) 0))), .u, .c (.sl [.int .i64, .int .i64] (E.gl ((E.res 21 [.c (.sl [.int .i64, .int .i64, .int .i64, .int .i64] x1)]) 0))), .u, .c (.int .i64 i34), .c (.int .i64 i38), .u, .c (.int .i64 i39), .u, .u, .u, .u, .u, .u, .u, .u, .u, .u, .u, .u, .u, .u, .u, .u, .u, .u, .u, .u, .u, .u, .u, .u, .u, .u, .u, .u, .u, .u, .u, .u, .u, .u, .u, .u, .u, .u, .u, .u, .u, .u, .u, .u, .u, .u, .u, .u, .u, .u, .u, .u, .u, .u, .u, .u, .u, .u, .u, .u, .u, .u, .u, .u, .u, .u, .u, .u, .u, .u, .u, .u, .u, .u, .u, .u, .u, .u, .u, .u, .u, .u, .u, .u, .u, .u, .u, .u, .u, .u, .u, .u, .u, .u, .u, .u, .u, .u, .u, .u, .u, .u, .u, .u, .u, .u, .u, .u, .u, .u, .u, .u, .u, .u, .u, .u, .u, .u, .u, .u, .u, .u, .u], [.box 24 [.c (.int .i64 x2), .c (.int .i64 x3), .c (.int .i64 x4), .c (.int .i64 x5)], .box 45 [.c (.int .i64 x6), .c (.int .i64 x7)]]⟩ : St)) p.1 p.2) (fun p => I p.1 p.2) (fun p => μ p.1 p.2) (_, _) h0 ?_ ?_
            · refine GSt.ren [0, 1] rfl rfl rfl (fun i hi => absurd hi (Nat.not_lt_zero i)) (Nat.zero_le _) ?_ ?_
              all_goals (repeat' (first | exact trivial | exact Or.inl rfl | exact Or.inr rfl | refine And.intro ?_ ?_))
            · rintro ⟨i38, i39⟩ h
              replace h := hI i38 i39 h
              cbv
              refine ⟨fun hb87 => ?_, fun hb87 => ?_⟩
              · replace h := h.t hb87
                have c88 := h.1
                refine ⟨c88, ?_⟩
                replace h := h.2
                refine ⟨hb87, ?_⟩
                have c89 := h.1
                refine ⟨c89, ?_⟩
                replace h := h.2 _ rfl
                refine ⟨fun hb90 => ?_, fun hb90 => ?_⟩
                · replace h := h.t hb90
                  refine ⟨(_, _), h.1, GSt.ren [0, 1] rfl rfl rfl (fun i hi => absurd hi (Nat.not_lt_zero i)) (Nat.zero_le _) ?_ ?_, h.2⟩
                  all_goals (repeat' (first | exact trivial | exact Or.inl rfl | exact Or.inr rfl | refine And.intro ?_ ?_))
                · replace h := h.f hb90
                  refine ⟨(_, _), h.1, GSt.ren [0, 1] rfl rfl rfl (fun i hi => absurd hi (Nat.not_lt_zero i)) (Nat.zero_le _) ?_ ?_, h.2⟩
                  all_goals (repeat' (first | exact trivial | exact Or.inl rfl | exact Or.inr rfl | refine And.intro ?_ ?_))
              · replace h := h.f hb87
                have c91 := h.1
                refine ⟨c91, ?_⟩
                replace h := h.2 _ rfl
                refine ⟨⟨fun hh => hh⟩, ?_⟩
                refine ⟨⟨fun hh => hh⟩, ?_⟩
                refine ⟨⟨fun hh => hh⟩, ?_⟩
                refine ⟨⟨fun hh => hh⟩, ?_⟩
                refine ⟨⟨fun hh => hh⟩, ?_⟩
                refine ⟨⟨fun _ => c91⟩, ?_⟩
                replace h := h _ rfl
                refine ⟨⟨fun hh => hh⟩, ?_⟩
                refine ⟨⟨fun hh => hh⟩, ?_⟩
                refine ⟨⟨fun hh => hh⟩, ?_⟩
                refine ⟨⟨fun hh => hh⟩, ?_⟩
                have c92 := h.1
                refine ⟨c92, ?_⟩
                replace h := h.2
                refine ⟨⟨fun hh => hh⟩, ?_⟩
                refine ⟨fun hb93 => ?_, fun hb93 => ?_⟩
                · replace h := h.t hb93
                  have h : _ = row := h
                  subst h
                  repeat' (first | exact trivial | exact rfl | refine And.intro ?_ ?_)
                · replace h := h.f hb93
                  refine ⟨⟨fun hh => hh⟩, ?_⟩
                  refine ⟨⟨fun hh => hh⟩, ?_⟩
                  refine ⟨⟨fun hh => hh⟩, ?_⟩
                  have c94 := h.1
                  refine ⟨c94, ?_⟩
                  replace h := h.2 _ rfl
                  refine ⟨⟨fun hh => hh⟩, ?_⟩
                  refine ⟨⟨fun hh => hh⟩, ?_⟩
                  refine ⟨⟨fun hh => hh⟩, ?_⟩
                  refine ⟨⟨fun hh => hh⟩, ?_⟩
                  have c95 := h.1
                  refine ⟨c95, ?_⟩
                  replace h := h.2 _ rfl
                  refine ⟨⟨fun hh => hh⟩, ?_⟩
                  have c96 := h.1
                  refine ⟨c96, ?_⟩
                  replace h := h.2
                  refine ⟨⟨fun hh => hh⟩, ?_⟩
                  have c97 := h.1
                  refine ⟨c97, ?_⟩
                  replace h := h.2 _ rfl
                  refine ⟨⟨fun hh => hh⟩, ?_⟩
                  have h : _ = row := h
                  subst h
                  repeat' (first | exact trivial | exact rfl | refine And.intro ?_ ?_)
def vc34 (E : Env) (x1 : Int) (x2 : Int) (x3 : Int) (x4 : Int) (x5 : Int) (x6 : Int) (Q : List C → Prop) : Prop :=
  Q [.bool (E.bite (E.bite (E.bite (E.le x1 x5) (E.lt x5 x2) false) (E.le x3 x6) false) (E.lt x6 x4) false)]
theorem w34 {P : Program} {tbl : FuncId → List A → List C}  {x1 : Int} {x2 : Int} {x3 : Int} {x4 : Int} {x5 : Int} {x6 : Int} {row : List C} (h : vc34 (stdE P tbl) x1 x2 x3 x4 x5 x6 fun c => c = row) : WPg P tbl rf34 [(false, [.bool])] row [.agg [.c (.int .i64 x1), .c (.int .i64 x2), .c (.int .i64 x3), .c (.int .i64 x4)], .agg [.c (.int .i64 x5), .c (.int .i64 x6)]] := by
  refine ⟨?_⟩
  revert h
  generalize hE : stdE P tbl = E
  intro h
  unfold vc34 at h
  cbv
  refine ⟨⟨fun hh => hh⟩, ?_⟩
  refine ⟨⟨fun hh => hh⟩, ?_⟩
  refine ⟨⟨fun hh => hh⟩, ?_⟩
  refine ⟨⟨fun hh => hh⟩, ?_⟩
  refine ⟨⟨fun hh => hh⟩, ?_⟩
  refine ⟨⟨fun hh => hh⟩, ?_⟩
  refine ⟨⟨fun hh => hh⟩, ?_⟩
  refine ⟨⟨fun hh => hh⟩, ?_⟩
  refine ⟨⟨fun hh => hh⟩, ?_⟩
  refine ⟨⟨fun hh => hh⟩, ?_⟩
  refine ⟨⟨fun hh => hh⟩, ?_⟩
  refine ⟨⟨fun hh => hh⟩, ?_⟩
  refine ⟨⟨fun hh => hh⟩, ?_⟩
  refine ⟨⟨fun hh => hh⟩, ?_⟩
  refine ⟨⟨fun hh => hh⟩, ?_⟩
  have h : _ = row := h
  subst h
  repeat' (first | exact trivial | exact rfl | refine And.intro ?_ ?_)
def vc35 (E : Env) (x1 : List (List C)) (x2 : Int) (Q : List C → Prop) : Prop :=
  (E.pok 47 [(false, [.bool])] [.c (.sl [.int .i64, .int .i64] x1), .fn 48 [.el [.int .i64] [[.int .i64 x2]] 0 0]]) ∧ (∀ r3 : Nat → C, r3 = E.res 47 [.c (.sl [.int .i64, .int .i64] x1), .fn 48 [.el [.int .i64] [[.int .i64 x2]] 0 0]] → 
  (Q [.bool (E.gb (r3 0))]))
theorem w35 {P : Program} {tbl : FuncId → List A → List C}  {x1 : List (List C)} {x2 : Int} {row : List C} (h : vc35 (stdE P tbl) x1 x2 fun c => c = row) : WPg P tbl rf35 [(false, [.bool])] row [.c (.sl [.int .i64, .int .i64] x1), .c (.int .i64 x2)] := by
  refine ⟨?_⟩
  revert h
  generalize hE : stdE P tbl = E
  intro h
  unfold vc35 at h
  cbv
  have c4 := h.1
  refine ⟨c4, ?_⟩
  replace h := h.2 _ rfl
  have h : _ = row := h
  subst h
  repeat' (first | exact trivial | exact rfl | refine And.intro ?_ ?_)
def vc47 (E : Env) (x1 : List (List C)) (x2 : Int) (Q : List C → Prop) : Prop :=
  (E.pok 60 [(false, [.int .i64])] [.c (.sl [.int .i64, .int .i64] x1), .fn 48 [.el [.int .i64] [[.int .i64 x2]] 0 0]]) ∧ (∀ r1 : Nat → C, r1 = E.res 60 [.c (.sl [.int .i64, .int .i64] x1), .fn 48 [.el [.int .i64] [[.int .i64 x2]] 0 0]] → 
  (Q [.bool (E.le 0 (E.gi (r1 0)))]))
theorem w47 {P : Program} {tbl : FuncId → List A → List C}  {x1 : List (List C)} {x2 : Int} {row : List C} (h : vc47 (stdE P tbl) x1 x2 fun c => c = row) : WPg P tbl rf47 [(false, [.bool])] row [.c (.sl [.int .i64, .int .i64] x1), .fn 48 [.el [.int .i64] [[.int .i64 x2]] 0 0]] := by
  refine ⟨?_⟩
  revert h
  generalize hE : stdE P tbl = E
  intro h
  unfold vc47 at h
  cbv
  have c2 := h.1
  refine ⟨c2, ?_⟩
  replace h := h.2 _ rfl
  have h : _ = row := h
  subst h
  repeat' (first | exact trivial | exact rfl | refine And.intro ?_ ?_)
def vc48 (E : Env) (x1 : Int) (x2 : Int) (x3 : Int) (Q : List C → Prop) : Prop :=
  Q [.bool (E.bite (E.le x1 (E.gi (E.cell [[.int .i64 x3]] 0 0))) (E.lt (E.gi (E.cell [[.int .i64 x3]] 0 0)) x2) false)]
theorem w48 {P : Program} {tbl : FuncId → List A → List C}  {x1 : Int} {x2 : Int} {x3 : Int} {row : List C} (h : vc48 (stdE P tbl) x1 x2 x3 fun c => c = row) : WPg P tbl rf48 [(false, [.bool])] row [.agg [.c (.int .i64 x1), .c (.int .i64 x2)], .el [.int .i64] [[.int .i64 x3]] 0 0] := by
  refine ⟨?_⟩
  revert h
  generalize hE : stdE P tbl = E
  intro h
  unfold vc48 at h
  cbv
  refine ⟨⟨fun hh => hh⟩, ?_⟩
  refine ⟨⟨fun hh => hh⟩, ?_⟩
  refine ⟨⟨fun hh => hh⟩, ?_⟩
  refine ⟨⟨fun hh => hh⟩, ?_⟩
  have h : _ = row := h
  subst h
  repeat' (first | exact trivial | exact rfl | refine And.intro ?_ ?_)
def vc60 (E : Env) (x1 : List (List C)) (x2 : Int) (Q : List C → Prop) : Prop :=
  LoopP1 (fun (i1 : Int) (K2 : (Int) → Prop) =>
  Br (E.lt i1 (E.len x1))
    (((E.le 0 i1) = true) ∧ 
      ((E.pok 48 [(false, [.bool])] [.agg [.c (.int .i64 (E.gi (E.cell x1 i1 0))), .c (.int .i64 (E.gi (E.cell x1 i1 1)))], .el [.int .i64] [[.int .i64 x2]] 0 0]) ∧ (∀ r3 : Nat → C, r3 = E.res 48 [.agg [.c (.int .i64 (E.gi (E.cell x1 i1 0))), .c (.int .i64 (E.gi (E.cell x1 i1 1)))], .el [.int .i64] [[.int .i64 x2]] 0 0] → 
      (Br (E.gb (r3 0))
      (Q [.int .i64 i1])
      (K2 ((E.add .i64 i1 1)))))))
    (Q [.int .i64 (-1)]))
  (0)
theorem w60 {P : Program} {tbl : FuncId → List A → List C}  {x1 : List (List C)} {x2 : Int} {row : List C} (h : vc60 (stdE P tbl) x1 x2 fun c => c = row) : WPg P tbl rf60 [(false, [.int .i64])] row [.c (.sl [.int .i64, .int .i64] x1), .fn 48 [.el [.int .i64] [[.int .i64 x2]] 0 0]] := by
  refine ⟨?_⟩
  revert h
  generalize hE : stdE P tbl = E
  intro h
  unfold vc60 at h
  cbv
  obtain ⟨I, μ, h0, hI⟩ := h
  refine LoopW.inv (fun R R' s h k => RCode.wp_mono _ R R' s h k) (fun p : Int => (fun (i1 : Int) => (⟨[.c (.sl [.int .i64, .int .i64] x1), .fn 48 [.el [.int .i64] [[.int .i64 x2]] 0 0], .u, .u, .u, .u, .u, .c (.int .i64 (E.len x1)), .c (.int .i64 i1), .u, .u, .u, .u, .u, .u, .u, .u, .u, .u], []⟩ : St)) p) (fun p => I p) (fun p => μ p) _ h0 ?_ ?_
  · refine GSt.ren [] rfl rfl rfl (fun i hi => absurd hi (Nat.not_lt_zero i)) (Nat.zero_le _) ?_ ?_
    all_goals (repeat' (first | exact trivial | exact Or.inl rfl | exact Or.inr rfl | refine And.intro ?_ ?_))
  · rintro i1 h
    replace h := hI i1 h
    cbv
    refine ⟨fun hb4 => ?_, fun hb4 => ?_⟩
    · replace h := h.t hb4
      have c5 := h.1
      refine ⟨c5, ?_⟩
      replace h := h.2
      refine ⟨hb4, ?_⟩
      have c6 := h.1
      refine ⟨c6, ?_⟩
      replace h := h.2 _ rfl
      refine ⟨fun hb7 => ?_, fun hb7 => ?_⟩
      · replace h := h.t hb7
        have h : _ = row := h
        subst h
        repeat' (first | exact trivial | exact rfl | refine And.intro ?_ ?_)
      · replace h := h.f hb7
        refine ⟨_, h.1, GSt.ren [] rfl rfl rfl (fun i hi => absurd hi (Nat.not_lt_zero i)) (Nat.zero_le _) ?_ ?_, h.2⟩
        all_goals (repeat' (first | exact trivial | exact Or.inl rfl | exact Or.inr rfl | refine And.intro ?_ ?_))
    · replace h := h.f hb4
      have h : _ = row := h
      subst h
      repeat' (first | exact trivial | exact rfl | refine And.intro ?_ ?_)
end Go.Proofs.Ytjckgkhojjnkdaa.V
