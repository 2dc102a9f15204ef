/- Knives: what is said of positions. No conditions. -/
import Derived.Test.YtjmgphobpgajbaaAw
set_option linter.unusedVariables false
set_option linter.unusedSimpArgs false
namespace Go.Proofs.Ytjmgphobpgajbaa.V
open Go Go.Eng
set_option maxRecDepth 1000000
set_option maxHeartbeats 4000000
/-- papermill papermilllaw49.KnifeEnds -/
def rf8 : RFn := ⟨(.seq (.ops 1 [⟨(some 3), (.v (.box 0 24 (.t 0))), none, []⟩, ⟨(some 6), (.v (.mv (.k (.c (.bool false))))), none, []⟩]) (.seq (.seq (.ops 1 [⟨(some 16), (.v (.lda 5 (.t 3))), none, []⟩, ⟨(some 17), (.v (.mv (.t 1))), none, []⟩, ⟨(some 18), (.v (.mv (.t 2))), none, []⟩, ⟨(some 19), (.v (.bsl 0 22 [(.sl [(.int .i64)])] [(.t 17), (.t 18)])), none, []⟩, ⟨(some 20), (.v (.det 10 [⟨false, [.bool]⟩] [(.t 16), (.t 19)])), none, []⟩, ⟨(some 21), (.v (.un .not (.t 20))), none, []⟩]) (.cond (.t 21) (.seq (.ops 0 [⟨(some 22), (.v (.det 11 [⟨false, [.bool]⟩] [])), none, []⟩, ⟨(some 6), (.v (.mv (.t 22))), none, []⟩]) .ret) .skip)) (.seq (.ops 0 [⟨(some 24), (.v (.lda 5 (.t 3))), none, []⟩, ⟨(some 25), (.v (.mv (.t 1))), none, []⟩, ⟨(some 26), (.v (.det 12 [⟨false, [(.sl [(.int .i64)])]⟩, ⟨false, [(.int .i64)]⟩] [(.t 24), (.t 25)])), none, []⟩, ⟨(some 23), (.v (.mv (.t 26))), none, []⟩, ⟨(some 27), (.v (.ext (.t 23) 0)), none, []⟩, ⟨(some 28), (.v (.ext (.t 23) 1)), none, []⟩, ⟨(some 7), (.v (.mv (.t 27))), none, []⟩, ⟨(some 8), (.v (.mv (.t 28))), none, []⟩]) (.seq (.seq (.ops 0 [⟨(some 29), (.v (.mv (.t 8))), none, []⟩, ⟨(some 30), (.v (.bin .neq (.t 29) (.k (.c (.int .i64 0))))), none, []⟩]) (.cond (.t 30) (.seq (.ops 0 [⟨(some 31), (.v (.mv (.t 7))), none, []⟩, ⟨(some 32), (.v (.lenS (.t 31))), none, []⟩, ⟨(some 33), (.v (.bin .eql (.t 32) (.k (.c (.int .i64 0))))), none, []⟩, ⟨(some 34), (.v (.mv (.t 33))), none, []⟩, ⟨(some 35), (.v (.det 11 [⟨false, [.bool]⟩] [])), (some ⟨34, true⟩), [(.k (.fn 11 []))]⟩, ⟨(some 36), (.v (.pick (.t 34) (.t 35) (.k (.c (.bool false))))), none, []⟩, ⟨(some 6), (.v (.mv (.t 36))), none, []⟩]) .ret) .skip)) (.seq (.ops 0 [⟨(some 38), (.v (.lda 5 (.t 3))), none, []⟩, ⟨(some 39), (.v (.mv (.t 1))), none, []⟩, ⟨(some 40), (.v (.det 22 [⟨false, [(.int .i64)]⟩, ⟨false, [(.int .i64)]⟩] [(.t 38), (.t 39)])), none, []⟩, ⟨(some 37), (.v (.mv (.t 40))), none, []⟩, ⟨(some 41), (.v (.ext (.t 37) 0)), none, []⟩, ⟨(some 42), (.v (.ext (.t 37) 1)), none, []⟩, ⟨(some 9), (.v (.mv (.t 41))), none, []⟩, ⟨(some 10), (.v (.mv (.t 42))), none, []⟩]) (.seq (.ops 0 [⟨(some 44), (.v (.lda 5 (.t 3))), none, []⟩, ⟨(some 45), (.v (.mv (.t 1))), none, []⟩, ⟨(some 46), (.v (.mv (.t 1))), none, []⟩, ⟨(some 47), (.v (.det 15 [⟨false, [(.int .i64)]⟩, ⟨false, [(.int .i64)]⟩] [(.t 44), (.t 45), (.t 46)])), none, []⟩, ⟨(some 43), (.v (.mv (.t 47))), none, []⟩, ⟨(some 48), (.v (.ext (.t 43) 0)), none, []⟩, ⟨(some 49), (.v (.ext (.t 43) 1)), none, []⟩, ⟨(some 11), (.v (.mv (.t 48))), none, []⟩, ⟨(some 12), (.v (.mv (.t 49))), none, []⟩]) (.seq (.seq (.any 0 [⟨0, ⟨[], ⟨(some 50), (.v (.mv (.t 10))), none, []⟩⟩⟩, ⟨1, ⟨[0], ⟨(some 51), (.v (.bin .neq (.t 50) (.k (.c (.int .i64 0))))), none, []⟩⟩⟩, ⟨2, ⟨[1, 0], ⟨(some 52), (.v (.mv (.t 51))), none, []⟩⟩⟩, ⟨3, ⟨[2, 1, 0], ⟨(some 53), (.v (.mv (.t 12))), (some ⟨52, false⟩), [(.t 12)]⟩⟩⟩, ⟨4, ⟨[3, 2, 1, 0], ⟨(some 54), (.v (.bin .neq (.t 53) (.k (.c (.int .i64 0))))), (some ⟨52, false⟩), [(.t 53), (.k (.c (.int .i64 0)))]⟩⟩⟩, ⟨5, ⟨[4, 3, 2, 1, 0], ⟨(some 55), (.v (.pick (.t 52) (.k (.c (.bool true))) (.t 54))), none, []⟩⟩⟩, ⟨6, ⟨[5, 4, 3, 2, 1, 0], ⟨(some 56), (.v (.mv (.t 55))), none, []⟩⟩⟩, ⟨7, ⟨[6, 5, 4, 3, 2, 1, 0], ⟨(some 57), (.v (.mv (.t 11))), (some ⟨56, false⟩), [(.t 11)]⟩⟩⟩, ⟨8, ⟨[7, 6, 5, 4, 3, 2, 1, 0], ⟨(some 58), (.v (.bin .neq (.t 57) (.k (.c (.int .i64 0))))), (some ⟨56, false⟩), [(.t 57), (.k (.c (.int .i64 0)))]⟩⟩⟩, ⟨9, ⟨[8, 7, 6, 5, 4, 3, 2, 1, 0], ⟨(some 59), (.v (.pick (.t 56) (.k (.c (.bool true))) (.t 58))), none, []⟩⟩⟩, ⟨10, ⟨[9, 8, 7, 6, 5, 4, 3, 2, 1, 0], ⟨(some 60), (.v (.mv (.t 59))), none, []⟩⟩⟩, ⟨11, ⟨[10, 9, 8, 7, 6, 5, 4, 3, 2, 1, 0], ⟨(some 61), (.v (.mv (.t 7))), (some ⟨60, false⟩), [(.t 7)]⟩⟩⟩, ⟨12, ⟨[11, 10, 9, 8, 7, 6, 5, 4, 3, 2, 1, 0], ⟨(some 62), (.v (.lenS (.t 61))), (some ⟨60, false⟩), [(.t 61)]⟩⟩⟩, ⟨13, ⟨[12, 11, 10, 9, 8, 7, 6, 5, 4, 3, 2, 1, 0], ⟨(some 63), (.v (.bin .lss (.t 62) (.k (.c (.int .i64 2))))), (some ⟨60, false⟩), [(.t 62), (.k (.c (.int .i64 2)))]⟩⟩⟩, ⟨14, ⟨[13, 12, 11, 10, 9, 8, 7, 6, 5, 4, 3, 2, 1, 0], ⟨(some 64), (.v (.pick (.t 60) (.k (.c (.bool true))) (.t 63))), none, []⟩⟩⟩, ⟨15, ⟨[14, 13, 12, 11, 10, 9, 8, 7, 6, 5, 4, 3, 2, 1, 0], ⟨(some 65), (.v (.mv (.t 64))), none, []⟩⟩⟩, ⟨16, ⟨[15, 14, 13, 12, 11, 10, 9, 8, 7, 6, 5, 4, 3, 2, 1, 0], ⟨(some 66), (.v (.mv (.t 7))), (some ⟨65, false⟩), [(.t 7)]⟩⟩⟩, ⟨17, ⟨[16, 15, 14, 13, 12, 11, 10, 9, 8, 7, 6, 5, 4, 3, 2, 1, 0], ⟨(some 67), (.v (.ia 1 (.t 66) (.k (.c (.int .i64 0))))), (some ⟨65, false⟩), [(.t 66), (.k (.c (.int .i64 0)))]⟩⟩⟩, ⟨18, ⟨[17, 16, 15, 14, 13, 12, 11, 10, 9, 8, 7, 6, 5, 4, 3, 2, 1, 0], ⟨(some 68), (.v (.ld (.t 67))), (some ⟨65, false⟩), [(.t 67)]⟩⟩⟩, ⟨19, ⟨[15, 14, 13, 12, 11, 10, 9, 8, 7, 6, 5, 4, 3, 2, 1, 0], ⟨(some 69), (.v (.fa 1 (.t 3))), (some ⟨65, false⟩), [(.t 3)]⟩⟩⟩, ⟨20, ⟨[19, 15, 14, 13, 12, 11, 10, 9, 8, 7, 6, 5, 4, 3, 2, 1, 0], ⟨(some 70), (.v (.ld (.t 69))), (some ⟨65, false⟩), [(.t 69)]⟩⟩⟩, ⟨21, ⟨[18, 17, 16, 20, 19, 15, 14, 13, 12, 11, 10, 9, 8, 7, 6, 5, 4, 3, 2, 1, 0], ⟨(some 71), (.v (.bin .neq (.t 68) (.t 70))), (some ⟨65, false⟩), [(.t 68), (.t 70)]⟩⟩⟩, ⟨22, ⟨[21, 18, 17, 16, 20, 19, 15, 14, 13, 12, 11, 10, 9, 8, 7, 6, 5, 4, 3, 2, 1, 0], ⟨(some 72), (.v (.pick (.t 65) (.k (.c (.bool true))) (.t 71))), none, []⟩⟩⟩, ⟨23, ⟨[22, 21, 18, 17, 16, 20, 19, 15, 14, 13, 12, 11, 10, 9, 8, 7, 6, 5, 4, 3, 2, 1, 0], ⟨(some 73), (.v (.mv (.t 72))), none, []⟩⟩⟩, ⟨24, ⟨[23, 22, 21, 18, 17, 16, 20, 19, 15, 14, 13, 12, 11, 10, 9, 8, 7, 6, 5, 4, 3, 2, 1, 0], ⟨(some 74), (.v (.mv (.t 7))), (some ⟨73, false⟩), [(.t 7)]⟩⟩⟩, ⟨25, ⟨[23, 22, 21, 18, 17, 16, 20, 19, 15, 14, 13, 12, 11, 10, 9, 8, 7, 6, 5, 4, 3, 2, 1, 0], ⟨(some 75), (.v (.mv (.t 7))), (some ⟨73, false⟩), [(.t 7)]⟩⟩⟩, ⟨26, ⟨[25, 23, 22, 21, 18, 17, 16, 20, 19, 15, 14, 13, 12, 11, 10, 9, 8, 7, 6, 5, 4, 3, 2, 1, 0], ⟨(some 76), (.v (.lenS (.t 75))), (some ⟨73, false⟩), [(.t 75)]⟩⟩⟩, ⟨27, ⟨[26, 25, 23, 22, 21, 18, 17, 16, 20, 19, 15, 14, 13, 12, 11, 10, 9, 8, 7, 6, 5, 4, 3, 2, 1, 0], ⟨(some 77), (.v (.bin .sub (.t 76) (.k (.c (.int .i64 1))))), (some ⟨73, false⟩), [(.t 76), (.k (.c (.int .i64 1)))]⟩⟩⟩, ⟨28, ⟨[24, 27, 26, 25, 23, 22, 21, 18, 17, 16, 20, 19, 15, 14, 13, 12, 11, 10, 9, 8, 7, 6, 5, 4, 3, 2, 1, 0], ⟨(some 78), (.v (.ia 1 (.t 74) (.t 77))), (some ⟨73, false⟩), [(.t 74), (.t 77)]⟩⟩⟩, ⟨29, ⟨[28, 24, 27, 26, 25, 23, 22, 21, 18, 17, 16, 20, 19, 15, 14, 13, 12, 11, 10, 9, 8, 7, 6, 5, 4, 3, 2, 1, 0], ⟨(some 79), (.v (.ld (.t 78))), (some ⟨73, false⟩), [(.t 78)]⟩⟩⟩, ⟨30, ⟨[23, 22, 21, 18, 17, 16, 20, 19, 15, 14, 13, 12, 11, 10, 9, 8, 7, 6, 5, 4, 3, 2, 1, 0], ⟨(some 80), (.v (.fa 0 (.t 3))), (some ⟨73, false⟩), [(.t 3)]⟩⟩⟩, ⟨31, ⟨[30, 23, 22, 21, 18, 17, 16, 20, 19, 15, 14, 13, 12, 11, 10, 9, 8, 7, 6, 5, 4, 3, 2, 1, 0], ⟨(some 81), (.v (.ld (.t 80))), (some ⟨73, false⟩), [(.t 80)]⟩⟩⟩, ⟨32, ⟨[23, 22, 21, 18, 17, 16, 20, 19, 15, 14, 13, 12, 11, 10, 9, 8, 7, 6, 5, 4, 3, 2, 1, 0], ⟨(some 82), (.v (.fa 1 (.t 3))), (some ⟨73, false⟩), [(.t 3)]⟩⟩⟩, ⟨33, ⟨[32, 23, 22, 21, 18, 17, 16, 20, 19, 15, 14, 13, 12, 11, 10, 9, 8, 7, 6, 5, 4, 3, 2, 1, 0], ⟨(some 83), (.v (.ld (.t 82))), (some ⟨73, false⟩), [(.t 82)]⟩⟩⟩, ⟨34, ⟨[31, 30, 33, 32, 23, 22, 21, 18, 17, 16, 20, 19, 15, 14, 13, 12, 11, 10, 9, 8, 7, 6, 5, 4, 3, 2, 1, 0], ⟨(some 84), (.v (.bin .sub (.t 81) (.t 83))), (some ⟨73, false⟩), [(.t 81), (.t 83)]⟩⟩⟩, ⟨35, ⟨[23, 22, 21, 18, 17, 16, 20, 19, 15, 14, 13, 12, 11, 10, 9, 8, 7, 6, 5, 4, 3, 2, 1, 0], ⟨(some 85), (.v (.mv (.t 9))), (some ⟨73, false⟩), [(.t 9)]⟩⟩⟩, ⟨36, ⟨[34, 31, 30, 33, 32, 35, 23, 22, 21, 18, 17, 16, 20, 19, 15, 14, 13, 12, 11, 10, 9, 8, 7, 6, 5, 4, 3, 2, 1, 0], ⟨(some 86), (.v (.bin .sub (.t 84) (.t 85))), (some ⟨73, false⟩), [(.t 84), (.t 85)]⟩⟩⟩, ⟨37, ⟨[29, 28, 24, 27, 26, 25, 36, 34, 31, 30, 33, 32, 35, 23, 22, 21, 18, 17, 16, 20, 19, 15, 14, 13, 12, 11, 10, 9, 8, 7, 6, 5, 4, 3, 2, 1, 0], ⟨(some 87), (.v (.bin .neq (.t 79) (.t 86))), (some ⟨73, false⟩), [(.t 79), (.t 86)]⟩⟩⟩, ⟨38, ⟨[37, 29, 28, 24, 27, 26, 25, 36, 34, 31, 30, 33, 32, 35, 23, 22, 21, 18, 17, 16, 20, 19, 15, 14, 13, 12, 11, 10, 9, 8, 7, 6, 5, 4, 3, 2, 1, 0], ⟨(some 88), (.v (.pick (.t 73) (.k (.c (.bool true))) (.t 87))), none, []⟩⟩⟩]) (.cond (.t 88) (.seq (.ops 0 [⟨(some 6), (.v (.mv (.k (.c (.bool false))))), none, []⟩]) .ret) .skip)) (.seq (.seq (.ops 0 [⟨(some 13), (.v (.mv (.k (.c (.int .i64 1))))), none, []⟩]) (.block 0 (.loop (.seq (.seq (.ops 0 [⟨(some 89), (.v (.mv (.t 13))), none, []⟩, ⟨(some 90), (.v (.mv (.t 7))), none, []⟩, ⟨(some 91), (.v (.lenS (.t 90))), none, []⟩, ⟨(some 92), (.v (.bin .lss (.t 89) (.t 91))), none, []⟩]) (.cond (.t 92) .skip (.exit 0))) (.seq (.block 1 (.seq (.any 0 [⟨0, ⟨[], ⟨(some 95), (.v (.mv (.t 7))), none, []⟩⟩⟩, ⟨1, ⟨[], ⟨(some 96), (.v (.mv (.t 13))), none, []⟩⟩⟩, ⟨2, ⟨[0, 1], ⟨(some 97), (.v (.ia 1 (.t 95) (.t 96))), none, []⟩⟩⟩, ⟨3, ⟨[2, 0, 1], ⟨(some 98), (.v (.ld (.t 97))), none, []⟩⟩⟩, ⟨4, ⟨[], ⟨(some 99), (.v (.mv (.t 7))), none, []⟩⟩⟩, ⟨5, ⟨[], ⟨(some 100), (.v (.mv (.t 13))), none, []⟩⟩⟩, ⟨6, ⟨[5], ⟨(some 101), (.v (.bin .sub (.t 100) (.k (.c (.int .i64 1))))), none, []⟩⟩⟩, ⟨7, ⟨[4, 6, 5], ⟨(some 102), (.v (.ia 1 (.t 99) (.t 101))), none, []⟩⟩⟩, ⟨8, ⟨[7, 4, 6, 5], ⟨(some 103), (.v (.ld (.t 102))), none, []⟩⟩⟩, ⟨9, ⟨[3, 2, 0, 1, 8, 7, 4, 6, 5], ⟨(some 104), (.v (.bin .leq (.t 98) (.t 103))), none, []⟩⟩⟩]) (.cond (.t 104) (.seq (.ops 0 [⟨(some 6), (.v (.mv (.k (.c (.bool false))))), none, []⟩]) .ret) .skip))) (.ops 0 [⟨(some 93), (.v (.mv (.t 13))), none, []⟩, ⟨(some 94), (.v (.bin .add (.t 93) (.k (.c (.int .i64 1))))), none, []⟩, ⟨(some 13), (.v (.mv (.t 94))), none, []⟩])))))) (.seq (.ops 0 [⟨(some 106), (.v (.lda 5 (.t 3))), none, []⟩, ⟨(some 107), (.v (.mv (.t 2))), none, []⟩, ⟨(some 108), (.v (.mv (.t 1))), none, []⟩, ⟨(some 109), (.v (.det 15 [⟨false, [(.int .i64)]⟩, ⟨false, [(.int .i64)]⟩] [(.t 106), (.t 107), (.t 108)])), none, []⟩, ⟨(some 105), (.v (.mv (.t 109))), none, []⟩, ⟨(some 110), (.v (.ext (.t 105) 0)), none, []⟩, ⟨(some 111), (.v (.ext (.t 105) 1)), none, []⟩, ⟨(some 14), (.v (.mv (.t 110))), none, []⟩, ⟨(some 15), (.v (.mv (.t 111))), none, []⟩]) (.seq (.ops 0 [⟨(some 112), (.v (.mv (.t 15))), none, []⟩, ⟨(some 113), (.v (.bin .neq (.t 112) (.k (.c (.int .i64 0))))), none, []⟩, ⟨(some 114), (.v (.mv (.t 113))), none, []⟩, ⟨(some 115), (.v (.mv (.t 14))), (some ⟨114, false⟩), [(.t 14)]⟩, ⟨(some 116), (.v (.bin .geq (.t 115) (.k (.c (.int .i64 0))))), (some ⟨114, false⟩), [(.t 115), (.k (.c (.int .i64 0)))]⟩, ⟨(some 117), (.v (.mv (.t 116))), (some ⟨114, false⟩), [(.t 116)]⟩, ⟨(some 118), (.v (.mv (.t 14))), (some ⟨117, true⟩), [(.t 14)]⟩, ⟨(some 119), (.v (.mv (.t 7))), (some ⟨117, true⟩), [(.t 7)]⟩, ⟨(some 120), (.v (.lenS (.t 119))), (some ⟨117, true⟩), [(.t 119)]⟩, ⟨(some 121), (.v (.bin .lss (.t 118) (.t 120))), (some ⟨117, true⟩), [(.t 118), (.t 120)]⟩, ⟨(some 122), (.v (.pick (.t 117) (.t 121) (.k (.c (.bool false))))), (some ⟨114, false⟩), [(.t 117), (.t 121), (.k (.c (.bool false)))]⟩, ⟨(some 123), (.v (.pick (.t 114) (.k (.c (.bool true))) (.t 122))), none, []⟩, ⟨(some 124), (.v (.mv (.t 123))), none, []⟩, ⟨(some 125), (.v (.det 11 [⟨false, [.bool]⟩] [])), (some ⟨124, true⟩), [(.k (.fn 11 []))]⟩, ⟨(some 126), (.v (.pick (.t 124) (.t 125) (.k (.c (.bool false))))), none, []⟩, ⟨(some 6), (.v (.mv (.t 126))), none, []⟩]) .ret)))))))))), 127, [(.t 6)]⟩
theorem h8 : fnR Try.prog DD 8 = some rf8 := by kernel_rfl
def vc8 (E : Env) (x1 : Int) (x2 : Int) (x3 : Int) (x4 : Int) (x5 : List (List C)) (x6 : List (List C)) (x7 : List (List C)) (Q : List C → Prop) : Prop :=
  (E.pok 10 [(false, [.bool])] [.agg [.c (.int .i64 x1), .c (.int .i64 x2), .c (.int .i64 x3), .c (.int .i64 x4), .c (.sl [.int .i64] x5)], .c (.sl [.sl [.int .i64]] [[.sl [.int .i64] x6], [.sl [.int .i64] x7]])]) ∧ (∀ r8 : Nat → C, r8 = E.res 10 [.agg [.c (.int .i64 x1), .c (.int .i64 x2), .c (.int .i64 x3), .c (.int .i64 x4), .c (.sl [.int .i64] x5)], .c (.sl [.sl [.int .i64]] [[.sl [.int .i64] x6], [.sl [.int .i64] x7]])] → 
  (Br (E.not (E.gb (r8 0)))
  ((E.pok 11 [(false, [.bool])] []) ∧ (∀ r9 : Nat → C, r9 = E.res 11 [] → 
    (Q [.bool (E.gb (r9 0))])))
  ((E.pok 12 [(false, [.sl [.int .i64]]), (false, [.int .i64])] [.agg [.c (.int .i64 x1), .c (.int .i64 x2), .c (.int .i64 x3), .c (.int .i64 x4), .c (.sl [.int .i64] x5)], .c (.sl [.int .i64] x6)]) ∧ (∀ r10 : Nat → C, r10 = E.res 12 [.agg [.c (.int .i64 x1), .c (.int .i64 x2), .c (.int .i64 x3), .c (.int .i64 x4), .c (.sl [.int .i64] x5)], .c (.sl [.int .i64] x6)] → 
    (Br (E.not (E.eq (E.gi (r10 1)) 0))
    ((Imp (E.eq (E.len (E.gl (r10 0))) 0) (E.pok 11 [(false, [.bool])] [])) ∧ (∀ r11 : Nat → C, r11 = E.res 11 [] → 
      (Q [.bool (E.bite (E.eq (E.len (E.gl (r10 0))) 0) (E.gb (r11 0)) false)])))
    ((E.pok 22 [(false, [.int .i64]), (false, [.int .i64])] [.agg [.c (.int .i64 x1), .c (.int .i64 x2), .c (.int .i64 x3), .c (.int .i64 x4), .c (.sl [.int .i64] x5)], .c (.sl [.int .i64] x6)]) ∧ (∀ r12 : Nat → C, r12 = E.res 22 [.agg [.c (.int .i64 x1), .c (.int .i64 x2), .c (.int .i64 x3), .c (.int .i64 x4), .c (.sl [.int .i64] x5)], .c (.sl [.int .i64] x6)] → 
      ((E.pok 15 [(false, [.int .i64]), (false, [.int .i64])] [.agg [.c (.int .i64 x1), .c (.int .i64 x2), .c (.int .i64 x3), .c (.int .i64 x4), .c (.sl [.int .i64] x5)], .c (.sl [.int .i64] x6), .c (.sl [.int .i64] x6)]) ∧ (∀ r13 : Nat → C, r13 = E.res 15 [.agg [.c (.int .i64 x1), .c (.int .i64 x2), .c (.int .i64 x3), .c (.int .i64 x4), .c (.sl [.int .i64] x5)], .c (.sl [.int .i64] x6), .c (.sl [.int .i64] x6)] → 
      ((Imp (E.not (E.bite (E.bite (E.bite (E.not (E.eq (E.gi (r12 1)) 0)) true (E.not (E.eq (E.gi (r13 1)) 0))) true (E.not (E.eq (E.gi (r13 0)) 0))) true (E.lt (E.len (E.gl (r10 0))) 2))) ((E.le 0 0) = true)) ∧ (Imp (E.not (E.bite (E.bite (E.bite (E.not (E.eq (E.gi (r12 1)) 0)) true (E.not (E.eq (E.gi (r13 1)) 0))) true (E.not (E.eq (E.gi (r13 0)) 0))) true (E.lt (E.len (E.gl (r10 0))) 2))) ((E.lt 0 (E.len (E.gl (r10 0)))) = true)) ∧ 
      ((Imp (E.not (E.bite (E.bite (E.bite (E.bite (E.not (E.eq (E.gi (r12 1)) 0)) true (E.not (E.eq (E.gi (r13 1)) 0))) true (E.not (E.eq (E.gi (r13 0)) 0))) true (E.lt (E.len (E.gl (r10 0))) 2)) true (E.not (E.eq (E.gi (E.cell (E.gl (r10 0)) 0 0)) x2)))) ((E.le 0 (E.sub .i64 (E.len (E.gl (r10 0))) 1)) = true)) ∧ (Imp (E.not (E.bite (E.bite (E.bite (E.bite (E.not (E.eq (E.gi (r12 1)) 0)) true (E.not (E.eq (E.gi (r13 1)) 0))) true (E.not (E.eq (E.gi (r13 0)) 0))) true (E.lt (E.len (E.gl (r10 0))) 2)) true (E.not (E.eq (E.gi (E.cell (E.gl (r10 0)) 0 0)) x2)))) ((E.lt (E.sub .i64 (E.len (E.gl (r10 0))) 1) (E.len (E.gl (r10 0)))) = true)) ∧ 
      (Br (E.bite (E.bite (E.bite (E.bite (E.bite (E.not (E.eq (E.gi (r12 1)) 0)) true (E.not (E.eq (E.gi (r13 1)) 0))) true (E.not (E.eq (E.gi (r13 0)) 0))) true (E.lt (E.len (E.gl (r10 0))) 2)) true (E.not (E.eq (E.gi (E.cell (E.gl (r10 0)) 0 0)) x2))) true (E.not (E.eq (E.gi (E.cell (E.gl (r10 0)) (E.sub .i64 (E.len (E.gl (r10 0))) 1) 0)) (E.sub .i64 (E.sub .i64 x1 x2) (E.gi (r12 0))))))
      (Q [.bool false])
      (LoopP1 (fun (i14 : Int) (K15 : (Int) → Prop) =>
        Br (E.lt i14 (E.len (E.gl (r10 0))))
          (((E.le 0 i14) = true) ∧ 
            (((E.le 0 (E.sub .i64 i14 1)) = true) ∧ ((E.lt (E.sub .i64 i14 1) (E.len (E.gl (r10 0)))) = true) ∧ 
            (Br (E.le (E.gi (E.cell (E.gl (r10 0)) i14 0)) (E.gi (E.cell (E.gl (r10 0)) (E.sub .i64 i14 1) 0)))
            (Q [.bool false])
            (K15 ((E.add .i64 i14 1))))))
          ((E.pok 15 [(false, [.int .i64]), (false, [.int .i64])] [.agg [.c (.int .i64 x1), .c (.int .i64 x2), .c (.int .i64 x3), .c (.int .i64 x4), .c (.sl [.int .i64] x5)], .c (.sl [.int .i64] x7), .c (.sl [.int .i64] x6)]) ∧ (∀ r16 : Nat → C, r16 = E.res 15 [.agg [.c (.int .i64 x1), .c (.int .i64 x2), .c (.int .i64 x3), .c (.int .i64 x4), .c (.sl [.int .i64] x5)], .c (.sl [.int .i64] x7), .c (.sl [.int .i64] x6)] → 
            ((Imp (E.not (E.not (E.eq (E.gi (r16 1)) 0))) (Imp (E.le 0 (E.gi (r16 0))) ((E.and (E.not (E.not (E.eq (E.gi (r16 1)) 0))) (E.le 0 (E.gi (r16 0)))) = true))) ∧ 
            ((Imp (E.bite (E.not (E.eq (E.gi (r16 1)) 0)) true (E.bite (E.le 0 (E.gi (r16 0))) (E.lt (E.gi (r16 0)) (E.len (E.gl (r10 0)))) false)) (E.pok 11 [(false, [.bool])] [])) ∧ (∀ r17 : Nat → C, r17 = E.res 11 [] → 
            (Q [.bool (E.bite (E.bite (E.not (E.eq (E.gi (r16 1)) 0)) true (E.bite (E.le 0 (E.gi (r16 0))) (E.lt (E.gi (r16 0)) (E.len (E.gl (r10 0)))) false)) (E.gb (r17 0)) false)])))))))
        (1))))))))))))))
theorem w8 {P : Program} {tbl : FuncId → List A → List C}  {x1 : Int} {x2 : Int} {x3 : Int} {x4 : Int} {x5 : List (List C)} {x6 : List (List C)} {x7 : List (List C)} {row : List C} (h : vc8 (stdE P tbl) x1 x2 x3 x4 x5 x6 x7 fun c => c = row) : WPg P tbl rf8 [(false, [.bool])] row [.agg [.c (.int .i64 x1), .c (.int .i64 x2), .c (.int .i64 x3), .c (.int .i64 x4), .c (.sl [.int .i64] x5)], .c (.sl [.int .i64] x6), .c (.sl [.int .i64] x7)] := by
  refine ⟨?_⟩
  revert h
  generalize hE : stdE P tbl = E
  intro h
  unfold vc8 at h
  cbv
  have c18 := h.1
  refine ⟨c18, ?_⟩
  replace h := h.2 _ rfl
  refine ⟨fun hb19 => ?_, fun hb19 => ?_⟩
  · replace h := h.t hb19
    have c20 := h.1
    refine ⟨c20, ?_⟩
    replace h := h.2 _ rfl
    have h : _ = row := h
    subst h
    repeat' (first | exact trivial | exact rfl | refine And.intro ?_ ?_)
  · replace h := h.f hb19
    have c21 := h.1
    refine ⟨c21, ?_⟩
    replace h := h.2 _ rfl
    refine ⟨fun hb22 => ?_, fun hb22 => ?_⟩
    · replace h := h.t hb22
      have c23 := h.1
      refine ⟨c23, ?_⟩
      replace h := h.2 _ rfl
      refine ⟨⟨fun hh => (by first | exact hh | trivial)⟩, ?_⟩
      have h : _ = row := h
      subst h
      repeat' (first | exact trivial | exact rfl | refine And.intro ?_ ?_)
    · replace h := h.f hb22
      have c24 := h.1
      refine ⟨c24, ?_⟩
      replace h := h.2 _ rfl
      have c25 := h.1
      refine ⟨c25, ?_⟩
      replace h := h.2 _ rfl
      refine ⟨⟨fun hh => (by first | exact hh | trivial)⟩, ?_⟩
      refine ⟨⟨fun hh => (by first | exact hh | trivial)⟩, ?_⟩
      refine ⟨⟨fun hh => (by first | exact hh | trivial)⟩, ?_⟩
      refine ⟨⟨fun hh => (by first | exact hh | trivial)⟩, ?_⟩
      refine ⟨⟨fun hh => (by first | exact hh | trivial)⟩, ?_⟩
      refine ⟨⟨fun hh => (by first | exact hh | trivial)⟩, ?_⟩
      refine ⟨⟨fun hh => (by first | exact hh | trivial)⟩, ?_⟩
      refine ⟨⟨fun hh => (by first | exact hh | trivial)⟩, ?_⟩
      have c26 := h.1
      refine ⟨c26, ?_⟩
      replace h := h.2
      have c27 := h.1
      refine ⟨c27, ?_⟩
      replace h := h.2
      refine ⟨⟨fun hh => (by first | exact hh | trivial)⟩, ?_⟩
      refine ⟨⟨fun hh => (by first | exact hh | trivial)⟩, ?_⟩
      refine ⟨⟨fun hh => (by first | exact hh | trivial)⟩, ?_⟩
      refine ⟨⟨fun hh => (by first | exact hh | trivial)⟩, ?_⟩
      refine ⟨⟨fun hh => (by first | exact hh | trivial)⟩, ?_⟩
      refine ⟨⟨fun hh => (by first | exact hh | trivial)⟩, ?_⟩
      refine ⟨⟨fun hh => (by first | exact hh | trivial)⟩, ?_⟩
      refine ⟨⟨fun hh => (by first | exact hh | trivial)⟩, ?_⟩
      refine ⟨⟨fun hh => (by first | exact hh | trivial)⟩, ?_⟩
      have c28 := h.1
      refine ⟨c28, ?_⟩
      replace h := h.2
      have c29 := h.1
      refine ⟨c29, ?_⟩
      replace h := h.2
      refine ⟨⟨fun hh => (by first | exact hh | trivial)⟩, ?_⟩
      refine ⟨⟨fun hh => (by first | exact hh | trivial)⟩, ?_⟩
      refine ⟨⟨fun hh => (by first | exact hh | trivial)⟩, ?_⟩
      refine ⟨⟨fun hh => (by first | exact hh | trivial)⟩, ?_⟩
      refine ⟨⟨fun hh => (by first | exact hh | trivial)⟩, ?_⟩
      refine ⟨⟨fun hh => (by first | exact hh | trivial)⟩, ?_⟩
      refine ⟨⟨fun hh => (by first | exact hh | trivial)⟩, ?_⟩
      refine ⟨⟨fun hh => (by first | exact hh | trivial)⟩, ?_⟩
      refine ⟨⟨fun hh => (by first | exact hh | trivial)⟩, ?_⟩
      refine ⟨⟨fun hh => (by first | exact hh | trivial)⟩, ?_⟩
      refine ⟨fun hb30 => ?_, fun hb30 => ?_⟩
      · replace h := h.t hb30
        have h : _ = row := h
        subst h
        repeat' (first | exact trivial | exact rfl | refine And.intro ?_ ?_)
      · replace h := h.f hb30
        obtain ⟨I, μ, h0, hI⟩ := h
        refine LoopW.inv (fun R R' s h k => RCode.wp_mono _ R R' s h k) (fun p : Int => (fun (i14 : Int) => (⟨[.u, .c (.sl [.int .i64] x6), .c (.sl [.int .i64] x7), .ptr 0 0, .u, .u, .u, .c (.sl [.int .i64] (E.gl ((E.res 12 [.agg [.c (.int .i64 x1), .c (.int .i64 x2), .c (.int .i64 x3), .c (.int .i64 x4), .c (.sl [.int .i64] x5)], .c (.sl [.int .i64] x6)]) 0))), .u, .u, .u, .u, .u, .c (.int .i64 i14), .u, .u, .u, .u, .u, .u, .u, .u, .u, .u, .u, .u, .u, .u, .u, .u, .u, .u, .u, .u, .u, .u, .u, .u, .u, .u, .u, .u, .u, .u, .u, .u, .u, .u, .u, .u, .u, .u, .u, .u, .u, .u, .u, .u, .u, .u, .u, .u, .u, .u, .u, .u, .u, .u, .u, .u, .u, .u, .u, .u, .u, .u, .u, .u, .u, .u, .u, .u, .u, .u, .u, .u, .u, .u, .u, .u, .u, .u, .u, .u, .u, .u, .u, .u, .u, .u, .u, .u, .u, .u, .u, .u, .u, .u, .u, .u, .u, .u, .u, .u, .u, .u, .u, .u, .u, .u, .u, .u, .u, .u, .u, .u, .u], [.box 24 [.c (.int .i64 x1), .c (.int .i64 x2), .c (.int .i64 x3), .c (.int .i64 x4), .c (.sl [.int .i64] x5)]]⟩ : St)) p) (fun p => I p) (fun p => μ p) _ h0 ?_ ?_
        · refine GSt.ren [0] rfl rfl rfl (fun i hi => absurd hi (Nat.not_lt_zero i)) (Nat.zero_le _) ?_ ?_
          all_goals (repeat' (first | exact trivial | exact Or.inl rfl | exact Or.inr rfl | refine And.intro ?_ ?_))
        · rintro i14 h
          replace h := hI i14 h
          cbv
          refine ⟨fun hb31 => ?_, fun hb31 => ?_⟩
          · replace h := h.t hb31
            have c32 := h.1
            refine ⟨c32, ?_⟩
            replace h := h.2
            refine ⟨hb31, ?_⟩
            have c33 := h.1
            refine ⟨c33, ?_⟩
            replace h := h.2
            have c34 := h.1
            refine ⟨c34, ?_⟩
            replace h := h.2
            refine ⟨fun hb35 => ?_, fun hb35 => ?_⟩
            · replace h := h.t hb35
              have h : _ = row := h
              subst h
              repeat' (first | exact trivial | exact rfl | refine And.intro ?_ ?_)
            · replace h := h.f hb35
              refine ⟨_, h.1, GSt.ren [0] rfl rfl rfl (fun i hi => absurd hi (Nat.not_lt_zero i)) (Nat.zero_le _) ?_ ?_, h.2⟩
              all_goals (repeat' (first | exact trivial | exact Or.inl rfl | exact Or.inr rfl | refine And.intro ?_ ?_))
          · replace h := h.f hb31
            have c36 := h.1
            refine ⟨c36, ?_⟩
            replace h := h.2 _ rfl
            refine ⟨⟨fun hh => (by first | exact hh | trivial)⟩, ?_⟩
            refine ⟨⟨fun hh => (by first | exact hh | trivial)⟩, ?_⟩
            refine ⟨⟨fun hh => (by first | exact hh | trivial)⟩, ?_⟩
            refine ⟨⟨fun hh => (by first | exact hh | trivial)⟩, ?_⟩
            refine ⟨⟨fun hh => (by first | exact hh | trivial)⟩, ?_⟩
            refine ⟨⟨fun hh => (by first | exact hh | trivial)⟩, ?_⟩
            have c37 := h.1
            refine ⟨c37, ?_⟩
            replace h := h.2
            refine ⟨⟨fun hh => (by first | exact hh | trivial)⟩, ?_⟩
            have c38 := h.1
            refine ⟨c38, ?_⟩
            replace h := h.2 _ rfl
            refine ⟨⟨fun hh => (by first | exact hh | trivial)⟩, ?_⟩
            have h : _ = row := h
            subst h
            repeat' (first | exact trivial | exact rfl | refine And.intro ?_ ?_)
def S8 : List A → List C := fun _ => [.bool true]
def tbl8 : FuncId → List A → List C := fun f ds => match f with
  | 10 => S10 ds
  | 11 => S11 ds
  | 12 => S12 ds
  | 15 => S15 ds
  | 22 => S22 ds
  | _ => []
theorem pc8  {x1 : Int} {x2 : Int} {x3 : Int} {x4 : Int} {x5 : List (List C)} {x6 : List (List C)} {x7 : List (List C)} {row : List C} (hS : S8 [.agg [.c (.int .i64 x1), .c (.int .i64 x2), .c (.int .i64 x3), .c (.int .i64 x4), .c (.sl [.int .i64] x5)], .c (.sl [.int .i64] x6), .c (.sl [.int .i64] x7)] = row) (h : vc8 (stdE Try.prog tbl8) x1 x2 x3 x4 x5 x6 x7 fun c => c = row) : PCg Try.prog 8 S8 [(false, [.bool])] [.agg [.c (.int .i64 x1), .c (.int .i64 x2), .c (.int .i64 x3), .c (.int .i64 x4), .c (.sl [.int .i64] x5)], .c (.sl [.int .i64] x6), .c (.sl [.int .i64] x7)] := PureC_vc mo h8 (by kernel_rfl) hS (w8  h)
theorem p8 (w e t k : Int) (ss a b : List Int) : PureC Try.prog 8 [kB] [dk w e t k ss, sI (rowsI a), sI (rowsI b)] fun _ => .bool true := by
  refine PureC.one (get := fun i => (S8 [dk w e t k ss, sI (rowsI a), sI (rowsI b)]).getD i .nil) (pc8 (row := [.bool true]) rfl ?_) rfl
  unfold vc8
  have hrow : ([[C.sl [.int .i64] (rowsI a)], [C.sl [.int .i64] (rowsI b)]] : List (List C)) = rowL [a, b] := rfl
  simp only [stdE, baseE, Br_iff, Imp_iff, tbl8, forall_eq, hrow]
  simp only [p10, p11, implies_true, true_and]
  simp only [e10, e11, List.getD_cons_zero, gb_bool]
  cases h : lightB ss [a, b] with
  | false => simp
  | true =>
    have ha : a.length ≤ 20 := (light_spec h).2 a (by simp)
    have hb : b.length ≤ 20 := (light_spec h).2 b (by simp)
    refine ⟨fun q => by simp at q, fun _ => ⟨p12 w e t k ss (by omega), ?_⟩⟩
    simp only [e12, knV, List.getD_cons_zero, List.getD_cons_succ, gi_int, gl_sl, rowsI_len, rowsI_getD]
    refine ⟨fun q => ?_, fun q => ?_⟩
    · have q : fitsE w e t k ss a ≠ 0 := by simpa using q
      rw [knL, if_neg q]; simp
    have q : fitsE w e t k ss a = 0 := by simpa using q
    obtain ⟨hd, hf⟩ := fitsE_ok q
    obtain ⟨h1, h2, h3, h4⟩ := knL_ok q
    have w1 := hd.w1; have w2 := hd.w2; have e0 := hd.e0; have e1 := hd.e1; have t0 := hd.t0; have t1 := hd.t1
    have hwd := hf.wid; have htm := hf.trm
    have hx : knL w e t k ss a = posL e (wsL a ss) := by rw [knL, if_pos q]
    obtain ⟨x, hxe⟩ : ∃ x, knL w e t k ss a = x := ⟨_, rfl⟩
    have hxl : x.length = (wsL a ss).length + 1 := by rw [← hxe, hx, posL_len]
    have hx0 : x.getD 0 0 = e := by
      rw [← hxe, hx]
      cases wsL a ss <;> rfl
    have hxn : x.getD (wsL a ss).length 0 = e + dot a ss := by rw [← hxe, hx, posL_last, h4]
    have hxp : x.Pairwise (· < ·) := by rw [← hxe]; exact (knL_lt w e t k ss a).1
    have hmE : mvE w e t k ss a a = 0 := by rw [mvE, if_neg (fun r => r q), q]
    have hm0 : mvN x x = 0 := by
      unfold mvN
      rw [List.filter_eq_nil_iff.2 fun y hy => by simpa using hy]; rfl
    have ew : IntKind.i64.wrap ((x.length : Int) - 1) = ((wsL a ss).length : Int) := by rw [wrap_in (by omega) (by omega)]; omega
    refine ⟨p22 w e t k ss (by omega), p15 w e t k ss (by omega) (by omega), ?_⟩
    simp only [e22, e15, lfV, mvV, hmE, q, hxe, List.getD_cons_zero, List.getD_cons_succ, gi_int, if_true, hm0, Int.toNat_zero, hx0, ew, toNat_cast, hxn]
    have hl2 : decide ((x.length : Int) < 2) = false := decide_eq_false (by omega)
    have ewl : IntKind.i64.wrap (IntKind.i64.wrap (w - e) - (w - 2 * e - dot a ss)) = e + dot a ss := by
      rw [wrap_in (n := w - e) (by omega) (by omega), wrap_in (by omega) (by omega)]; omega
    rw [ewl, hl2]
    have hbq : (e == e) = true := by simp
    have hbq2 : (e + dot a ss == e + dot a ss) = true := by simp
    simp only [hbq, hbq2, beq_self_eq_true, Bool.not_true, Bool.false_eq_true, if_false]
    refine ⟨fun _ => by decide, fun _ => by simp; omega, fun _ => by simp, fun _ => by simp; omega, (fun r => by cases r), fun _ => ?_⟩
    refine LoopP1.run (x1 := 1) (fun n : Nat => ((n + 1 : Nat) : Int)) (fun n => n + 1 ≤ x.length) (fun n => x.length - n) 0 (by omega) rfl ?_
    intro n hn K hK
    have ewn : IntKind.i64.wrap (((n + 1 : Nat) : Int) - 1) = n := by rw [wrap_in (by omega) (by omega)]; omega
    simp only [ewn, toNat_cast, decide_eq_true_eq, decide_eq_false_iff_not]
    refine ⟨fun r => ⟨by omega, by omega, by omega, fun r2 => ?_, fun r2 => ?_⟩, fun r => ?_⟩
    · have hlt : n + 1 < x.length := by omega
      have := List.pairwise_iff_getElem.1 hxp n (n + 1) (by omega) hlt (by omega)
      rw [getD_get hlt, getD_get (show n < x.length by omega)] at r2
      omega
    · exact hK _ (n + 1) (by omega) (by omega) (wrap_up rfl (by omega))
    · refine ⟨PureC.cg (p15 w e t k ss (a := b) (b := a) (by omega) (by omega)) (by rw [e15, mvV, hxe]), ?_⟩
      try simp only [List.getD_cons_zero, List.getD_cons_succ, gi_int]
      by_cases r2 : mvE w e t k ss b a = 0
      · have hq1 : fitsE w e t k ss b = 0 := by
          unfold mvE at r2
          split at r2
          · rename_i z; exact absurd r2 z
          · exact Classical.not_not.1 (by assumption)
        have hbx : knL w e t k ss b = posL e (wsL b ss) := by rw [knL, if_pos hq1]
        have hmem : e ∈ knL w e t k ss b := by
          rw [hbx]; cases wsL b ss <;> simp [posL]
        have hlt : mvN (knL w e t k ss b) x < x.length := by
          unfold mvN
          have hxm : e ∈ x := by rw [← hx0]; exact getD_mem (by omega)
          have : (x.filter fun y => decide (y ∉ knL w e t k ss b)).length < x.length := by
            refine List.length_filter_lt_length_iff_exists.2 ⟨e, hxm, by simpa using hmem⟩
          omega
        have hge := (mvN_le (knL w e t k ss b) x).1
        rw [r2]
        simp [hge, hlt]
      · have r2' : (mvE w e t k ss b a == 0) = false := by simpa using r2
        simp only [r2', if_neg r2]
        simp
end Go.Proofs.Ytjmgphobpgajbaa.V
