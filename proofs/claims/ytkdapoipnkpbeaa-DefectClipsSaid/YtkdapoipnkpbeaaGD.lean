/- Defects: the walks of their functions (1 of 2). No conditions. -/
import Derived.Test.YtkdapoipnkpbeaaAwake
set_option linter.unusedVariables false
set_option linter.unusedSimpArgs false
namespace Go.Proofs.Ytkdapoipnkpbeaa.V
open Go Go.Eng
set_option maxRecDepth 1000000
set_option maxHeartbeats 1000000
/-- slices.Delete of a part that is all of an array. -/
def spDelete (xs : List (List C)) (n i j : Int) (K : List (List C) → Int → Prop) : Prop :=
  0 ≤ i ∧ i ≤ j ∧ j ≤ n ∧ n ≤ xs.length ∧ (xs.length : Int) ≤ 1000000 ∧ ∀ ys : List (List C), ys.length = xs.length →
    ys.take (n - (j - i)).toNat = (xs.take n.toNat).take i.toNat ++ (xs.take n.toNat).drop j.toNat → K ys (n - (j - i))
def DeleteC (T : TypeId) (lay : List LK) (P : Program) (f : FuncId) : Prop :=
  hasBody P f = true ∧ ∀ (xs : List (List C)) (n i j : Int) (K : List (List C) → Int → Prop), spDelete xs n i j K → ACalls P f [.own 0 0 n, .c (.int .i64 i), .c (.int .i64 j)] [.arr T lay xs] fun r H' => ∃ ys m, K ys m ∧ r = .own 0 0 m ∧ H' = [.arr T lay ys]
/-- papermill papermillref36.Merge -/
def rf12 : RFn := ⟨(.seq (.ops 0 [⟨(some 4), (.v (.mv (.k (.c .nil)))), none, []⟩, ⟨(some 5), (.v (.mv (.k (.c (.int .i64 0))))), none, []⟩]) (.seq (.seq (.ops 0 [⟨(some 12), (.v (.mv (.t 0))), none, []⟩, ⟨(some 13), (.v (.det 14 [⟨false, [(.int .i64)]⟩] [(.t 12)])), none, []⟩, ⟨(some 6), (.v (.mv (.t 13))), none, []⟩]) (.seq (.ops 0 [⟨(some 14), (.v (.mv (.t 6))), none, []⟩, ⟨(some 15), (.v (.bin .neq (.t 14) (.k (.c (.int .i64 0))))), none, []⟩]) (.cond (.t 15) (.seq (.ops 0 [⟨(some 16), (.v (.mv (.t 6))), none, []⟩, ⟨(some 4), (.v (.mv (.k (.c .nil)))), none, []⟩, ⟨(some 5), (.v (.mv (.t 16))), none, []⟩]) .ret) .skip))) (.seq (.seq (.ops 0 [⟨(some 17), (.v (.mv (.t 1))), none, []⟩, ⟨(some 18), (.v (.bin .lss (.t 17) (.k (.c (.int .i64 0))))), none, []⟩, ⟨(some 19), (.v (.mv (.t 18))), none, []⟩, ⟨(some 20), (.v (.mv (.t 1))), (some ⟨19, false⟩), [(.t 1)]⟩, ⟨(some 21), (.v (.bin .gtr (.t 20) (.k (.c (.int .i64 12000))))), (some ⟨19, false⟩), [(.t 20), (.k (.c (.int .i64 12000)))]⟩, ⟨(some 22), (.v (.pick (.t 19) (.k (.c (.bool true))) (.t 21))), none, []⟩]) (.cond (.t 22) (.seq (.ops 0 [⟨(some 4), (.v (.mv (.k (.c .nil)))), none, []⟩, ⟨(some 5), (.v (.mv (.k (.c (.int .i64 1))))), none, []⟩]) .ret) .skip)) (.seq (.ops 0 [⟨(some 7), (.v (.mv (.k (.c .nil)))), none, []⟩]) (.seq (.ops 1 [⟨(some 23), (.v (.mv (.t 7))), none, []⟩, ⟨(some 24), (.v (.mv (.t 0))), none, []⟩, ⟨(some 25), (.v (.app 0 38 [(.int .i64), (.int .i64), (.int .i64), (.int .i64), (.int .i64), (.int .i64)] 2932031007402 (.t 23) (.t 24))), none, []⟩, ⟨(some 7), (.v (.mv (.t 25))), none, []⟩]) (.block 0 (.loop (.block 1 (.seq (.ops 0 [⟨(some 27), (.v (.mv (.t 7))), none, []⟩, ⟨(some 28), (.v (.mv (.t 1))), none, []⟩, ⟨(some 29), (.v (.det 35 [⟨false, [(.int .i64)]⟩, ⟨false, [(.int .i64)]⟩, ⟨false, [.bool]⟩] [(.t 27), (.t 28)])), none, []⟩, ⟨(some 26), (.v (.mv (.t 29))), none, []⟩, ⟨(some 30), (.v (.ext (.t 26) 0)), none, []⟩, ⟨(some 31), (.v (.ext (.t 26) 1)), none, []⟩, ⟨(some 32), (.v (.ext (.t 26) 2)), none, []⟩, ⟨(some 8), (.v (.mv (.t 30))), none, []⟩, ⟨(some 9), (.v (.mv (.t 31))), none, []⟩, ⟨(some 10), (.v (.mv (.t 32))), none, []⟩]) (.seq (.seq (.ops 0 [⟨(some 33), (.v (.mv (.t 10))), none, []⟩, ⟨(some 34), (.v (.un .not (.t 33))), none, []⟩]) (.cond (.t 34) (.seq (.ops 0 [⟨(some 35), (.v (.mv (.t 7))), none, []⟩, ⟨(some 4), (.v (.mv (.t 35))), none, []⟩, ⟨(some 5), (.v (.mv (.k (.c (.int .i64 0))))), none, []⟩]) .ret) .skip)) (.seq (.any 0 [⟨0, ⟨[], ⟨(some 36), (.v (.mv (.t 7))), none, []⟩⟩⟩, ⟨1, ⟨[], ⟨(some 37), (.v (.mv (.t 8))), none, []⟩⟩⟩, ⟨2, ⟨[], ⟨(some 38), (.v (.mv (.t 7))), none, []⟩⟩⟩, ⟨3, ⟨[], ⟨(some 39), (.v (.mv (.t 8))), none, []⟩⟩⟩, ⟨4, ⟨[2, 3], ⟨(some 40), (.v (.ia 6 (.t 38) (.t 39))), none, []⟩⟩⟩, ⟨5, ⟨[4, 2, 3], ⟨(some 41), (.v (.lda 6 (.t 40))), none, []⟩⟩⟩, ⟨6, ⟨[], ⟨(some 42), (.v (.mv (.t 7))), none, []⟩⟩⟩, ⟨7, ⟨[], ⟨(some 43), (.v (.mv (.t 9))), none, []⟩⟩⟩, ⟨8, ⟨[6, 7], ⟨(some 44), (.v (.ia 6 (.t 42) (.t 43))), none, []⟩⟩⟩, ⟨9, ⟨[8, 6, 7], ⟨(some 45), (.v (.lda 6 (.t 44))), none, []⟩⟩⟩, ⟨10, ⟨[5, 4, 2, 3, 9, 8, 6, 7], ⟨(some 46), (.v (.det 36 [⟨true, [(.int .i64), (.int .i64), (.int .i64), (.int .i64), (.int .i64), (.int .i64)]⟩] [(.t 41), (.t 45)])), none, []⟩⟩⟩, ⟨11, ⟨[0, 1, 10, 5, 4, 2, 3, 9, 8, 6, 7], ⟨(some 47), (.v (.ia 6 (.t 36) (.t 37))), none, []⟩⟩⟩, ⟨12, ⟨[11, 0, 1, 10, 5, 4, 2, 3, 9, 8, 6, 7], ⟨none, (.v (.st 6 (.t 47) (.t 46))), none, []⟩⟩⟩]) (.seq (.ops 0 [⟨(some 11), (.v (.mv (.k (.c .nil)))), none, []⟩]) (.seq (.ops 1 [⟨(some 48), (.v (.mv (.t 11))), none, []⟩, ⟨(some 49), (.v (.mv (.t 7))), none, []⟩, ⟨(some 50), (.v (.mv (.t 9))), none, []⟩, ⟨(some 51), (.v (.sls 6 (.t 49) none (some (.t 50)))), none, []⟩, ⟨(some 52), (.v (.app 0 38 [(.int .i64), (.int .i64), (.int .i64), (.int .i64), (.int .i64), (.int .i64)] 2932031007402 (.t 48) (.t 51))), none, []⟩, ⟨(some 11), (.v (.mv (.t 52))), none, []⟩]) (.ops 1 [⟨(some 53), (.v (.mv (.t 11))), none, []⟩, ⟨(some 54), (.v (.mv (.t 7))), none, []⟩, ⟨(some 55), (.v (.mv (.t 9))), none, []⟩, ⟨(some 56), (.v (.bin .add (.t 55) (.k (.c (.int .i64 1))))), none, []⟩, ⟨(some 57), (.v (.sls 6 (.t 54) (some (.t 56)) none)), none, []⟩, ⟨(some 58), (.v (.app 0 38 [(.int .i64), (.int .i64), (.int .i64), (.int .i64), (.int .i64), (.int .i64)] 2932031007402 (.t 53) (.t 57))), none, []⟩, ⟨(some 7), (.v (.mv (.t 58))), none, []⟩])))))))))))))), 59, [(.t 4), (.t 5)]⟩
theorem h12 : fnR Try.prog DD 12 = some rf12 := by kernel_rfl
/-- papermill papermillref36.Check -/
def rf14 : RFn := ⟨(.seq (.ops 0 [⟨(some 2), (.v (.mv (.k (.c (.int .i64 0))))), none, []⟩]) (.seq (.seq (.ops 0 [⟨(some 5), (.v (.mv (.t 0))), none, []⟩, ⟨(some 6), (.v (.lenS (.t 5))), none, []⟩, ⟨(some 7), (.v (.bin .gtr (.t 6) (.k (.c (.int .i64 128))))), none, []⟩]) (.cond (.t 7) (.seq (.ops 0 [⟨(some 2), (.v (.mv (.k (.c (.int .i64 8))))), none, []⟩]) .ret) .skip)) (.seq (.seq (.ops 0 [⟨(some 3), (.v (.mv (.k (.c (.int .i64 0))))), none, []⟩]) (.block 0 (.loop (.seq (.seq (.ops 0 [⟨(some 8), (.v (.mv (.t 3))), none, []⟩, ⟨(some 9), (.v (.mv (.t 0))), none, []⟩, ⟨(some 10), (.v (.lenS (.t 9))), none, []⟩, ⟨(some 11), (.v (.bin .lss (.t 8) (.t 10))), none, []⟩]) (.cond (.t 11) .skip (.exit 0))) (.seq (.block 1 (.seq (.seq (.ops 0 [⟨(some 14), (.v (.mv (.t 0))), none, []⟩, ⟨(some 15), (.v (.mv (.t 3))), none, []⟩, ⟨(some 16), (.v (.ia 6 (.t 14) (.t 15))), none, []⟩, ⟨(some 17), (.v (.fa 0 (.t 16))), none, []⟩, ⟨(some 18), (.v (.lda 4 (.t 17))), none, []⟩, ⟨(some 19), (.v (.det 38 [⟨false, [(.int .i64)]⟩] [(.t 18)])), none, []⟩, ⟨(some 4), (.v (.mv (.t 19))), none, []⟩]) (.seq (.ops 0 [⟨(some 20), (.v (.mv (.t 4))), none, []⟩, ⟨(some 21), (.v (.bin .neq (.t 20) (.k (.c (.int .i64 0))))), none, []⟩]) (.cond (.t 21) (.seq (.ops 0 [⟨(some 22), (.v (.mv (.t 4))), none, []⟩, ⟨(some 2), (.v (.mv (.t 22))), none, []⟩]) .ret) .skip))) (.seq (.seq (.any 0 [⟨0, ⟨[], ⟨(some 23), (.v (.mv (.t 0))), none, []⟩⟩⟩, ⟨1, ⟨[], ⟨(some 24), (.v (.mv (.t 3))), none, []⟩⟩⟩, ⟨2, ⟨[0, 1], ⟨(some 25), (.v (.ia 6 (.t 23) (.t 24))), none, []⟩⟩⟩, ⟨3, ⟨[2, 0, 1], ⟨(some 26), (.v (.fa 0 (.t 25))), none, []⟩⟩⟩, ⟨4, ⟨[3, 2, 0, 1], ⟨(some 27), (.v (.fa 0 (.t 26))), none, []⟩⟩⟩, ⟨5, ⟨[4, 3, 2, 0, 1], ⟨(some 28), (.v (.ld (.t 27))), none, []⟩⟩⟩, ⟨6, ⟨[], ⟨(some 29), (.v (.mv (.t 0))), none, []⟩⟩⟩, ⟨7, ⟨[], ⟨(some 30), (.v (.mv (.t 3))), none, []⟩⟩⟩, ⟨8, ⟨[6, 7], ⟨(some 31), (.v (.ia 6 (.t 29) (.t 30))), none, []⟩⟩⟩, ⟨9, ⟨[8, 6, 7], ⟨(some 32), (.v (.fa 0 (.t 31))), none, []⟩⟩⟩, ⟨10, ⟨[9, 8, 6, 7], ⟨(some 33), (.v (.fa 1 (.t 32))), none, []⟩⟩⟩, ⟨11, ⟨[10, 9, 8, 6, 7], ⟨(some 34), (.v (.ld (.t 33))), none, []⟩⟩⟩, ⟨12, ⟨[5, 4, 3, 2, 0, 1, 11, 10, 9, 8, 6, 7], ⟨(some 35), (.v (.bin .eql (.t 28) (.t 34))), none, []⟩⟩⟩, ⟨13, ⟨[12, 5, 4, 3, 2, 0, 1, 11, 10, 9, 8, 6, 7], ⟨(some 36), (.v (.mv (.t 35))), none, []⟩⟩⟩, ⟨14, ⟨[13, 12, 5, 4, 3, 2, 0, 1, 11, 10, 9, 8, 6, 7], ⟨(some 37), (.v (.mv (.t 0))), (some ⟨36, false⟩), [(.t 0)]⟩⟩⟩, ⟨15, ⟨[13, 12, 5, 4, 3, 2, 0, 1, 11, 10, 9, 8, 6, 7], ⟨(some 38), (.v (.mv (.t 3))), (some ⟨36, false⟩), [(.t 3)]⟩⟩⟩, ⟨16, ⟨[14, 15, 13, 12, 5, 4, 3, 2, 0, 1, 11, 10, 9, 8, 6, 7], ⟨(some 39), (.v (.ia 6 (.t 37) (.t 38))), (some ⟨36, false⟩), [(.t 37), (.t 38)]⟩⟩⟩, ⟨17, ⟨[16, 14, 15, 13, 12, 5, 4, 3, 2, 0, 1, 11, 10, 9, 8, 6, 7], ⟨(some 40), (.v (.fa 0 (.t 39))), (some ⟨36, false⟩), [(.t 39)]⟩⟩⟩, ⟨18, ⟨[17, 16, 14, 15, 13, 12, 5, 4, 3, 2, 0, 1, 11, 10, 9, 8, 6, 7], ⟨(some 41), (.v (.fa 2 (.t 40))), (some ⟨36, false⟩), [(.t 40)]⟩⟩⟩, ⟨19, ⟨[18, 17, 16, 14, 15, 13, 12, 5, 4, 3, 2, 0, 1, 11, 10, 9, 8, 6, 7], ⟨(some 42), (.v (.ld (.t 41))), (some ⟨36, false⟩), [(.t 41)]⟩⟩⟩, ⟨20, ⟨[13, 12, 5, 4, 3, 2, 0, 1, 11, 10, 9, 8, 6, 7], ⟨(some 43), (.v (.mv (.t 0))), (some ⟨36, false⟩), [(.t 0)]⟩⟩⟩, ⟨21, ⟨[13, 12, 5, 4, 3, 2, 0, 1, 11, 10, 9, 8, 6, 7], ⟨(some 44), (.v (.mv (.t 3))), (some ⟨36, false⟩), [(.t 3)]⟩⟩⟩, ⟨22, ⟨[20, 21, 13, 12, 5, 4, 3, 2, 0, 1, 11, 10, 9, 8, 6, 7], ⟨(some 45), (.v (.ia 6 (.t 43) (.t 44))), (some ⟨36, false⟩), [(.t 43), (.t 44)]⟩⟩⟩, ⟨23, ⟨[22, 20, 21, 13, 12, 5, 4, 3, 2, 0, 1, 11, 10, 9, 8, 6, 7], ⟨(some 46), (.v (.fa 0 (.t 45))), (some ⟨36, false⟩), [(.t 45)]⟩⟩⟩, ⟨24, ⟨[23, 22, 20, 21, 13, 12, 5, 4, 3, 2, 0, 1, 11, 10, 9, 8, 6, 7], ⟨(some 47), (.v (.fa 3 (.t 46))), (some ⟨36, false⟩), [(.t 46)]⟩⟩⟩, ⟨25, ⟨[24, 23, 22, 20, 21, 13, 12, 5, 4, 3, 2, 0, 1, 11, 10, 9, 8, 6, 7], ⟨(some 48), (.v (.ld (.t 47))), (some ⟨36, false⟩), [(.t 47)]⟩⟩⟩, ⟨26, ⟨[19, 18, 17, 16, 14, 15, 25, 24, 23, 22, 20, 21, 13, 12, 5, 4, 3, 2, 0, 1, 11, 10, 9, 8, 6, 7], ⟨(some 49), (.v (.bin .eql (.t 42) (.t 48))), (some ⟨36, false⟩), [(.t 42), (.t 48)]⟩⟩⟩, ⟨27, ⟨[26, 19, 18, 17, 16, 14, 15, 25, 24, 23, 22, 20, 21, 13, 12, 5, 4, 3, 2, 0, 1, 11, 10, 9, 8, 6, 7], ⟨(some 50), (.v (.pick (.t 36) (.k (.c (.bool true))) (.t 49))), none, []⟩⟩⟩]) (.cond (.t 50) (.seq (.ops 0 [⟨(some 2), (.v (.mv (.k (.c (.int .i64 10))))), none, []⟩]) .ret) .skip)) (.seq (.ops 0 [⟨(some 51), (.v (.mv (.t 0))), none, []⟩, ⟨(some 52), (.v (.mv (.t 3))), none, []⟩, ⟨(some 53), (.v (.ia 6 (.t 51) (.t 52))), none, []⟩, ⟨(some 54), (.v (.fa 4 (.t 53))), none, []⟩, ⟨(some 55), (.v (.ld (.t 54))), none, []⟩, ⟨(some 56), (.v (.bin .lss (.t 55) (.k (.c (.int .i64 1))))), none, []⟩, ⟨(some 57), (.v (.mv (.t 56))), none, []⟩, ⟨(some 58), (.v (.mv (.t 0))), (some ⟨57, false⟩), [(.t 0)]⟩, ⟨(some 59), (.v (.mv (.t 3))), (some ⟨57, false⟩), [(.t 3)]⟩, ⟨(some 60), (.v (.ia 6 (.t 58) (.t 59))), (some ⟨57, false⟩), [(.t 58), (.t 59)]⟩, ⟨(some 61), (.v (.fa 4 (.t 60))), (some ⟨57, false⟩), [(.t 60)]⟩, ⟨(some 62), (.v (.ld (.t 61))), (some ⟨57, false⟩), [(.t 61)]⟩, ⟨(some 63), (.v (.bin .gtr (.t 62) (.k (.c (.int .i64 16))))), (some ⟨57, false⟩), [(.t 62), (.k (.c (.int .i64 16)))]⟩, ⟨(some 64), (.v (.pick (.t 57) (.k (.c (.bool true))) (.t 63))), none, []⟩, ⟨(some 65), (.v (.mv (.t 64))), none, []⟩, ⟨(some 66), (.v (.mv (.t 0))), (some ⟨65, false⟩), [(.t 0)]⟩, ⟨(some 67), (.v (.mv (.t 3))), (some ⟨65, false⟩), [(.t 3)]⟩, ⟨(some 68), (.v (.ia 6 (.t 66) (.t 67))), (some ⟨65, false⟩), [(.t 66), (.t 67)]⟩, ⟨(some 69), (.v (.fa 5 (.t 68))), (some ⟨65, false⟩), [(.t 68)]⟩, ⟨(some 70), (.v (.ld (.t 69))), (some ⟨65, false⟩), [(.t 69)]⟩, ⟨(some 71), (.v (.bin .lss (.t 70) (.k (.c (.int .i64 1))))), (some ⟨65, false⟩), [(.t 70), (.k (.c (.int .i64 1)))]⟩, ⟨(some 72), (.v (.pick (.t 65) (.k (.c (.bool true))) (.t 71))), none, []⟩, ⟨(some 73), (.v (.mv (.t 72))), none, []⟩, ⟨(some 74), (.v (.mv (.t 0))), (some ⟨73, false⟩), [(.t 0)]⟩, ⟨(some 75), (.v (.mv (.t 3))), (some ⟨73, false⟩), [(.t 3)]⟩, ⟨(some 76), (.v (.ia 6 (.t 74) (.t 75))), (some ⟨73, false⟩), [(.t 74), (.t 75)]⟩, ⟨(some 77), (.v (.fa 5 (.t 76))), (some ⟨73, false⟩), [(.t 76)]⟩, ⟨(some 78), (.v (.ld (.t 77))), (some ⟨73, false⟩), [(.t 77)]⟩, ⟨(some 79), (.v (.bin .gtr (.t 78) (.k (.c (.int .i64 100))))), (some ⟨73, false⟩), [(.t 78), (.k (.c (.int .i64 100)))]⟩, ⟨(some 80), (.v (.pick (.t 73) (.k (.c (.bool true))) (.t 79))), none, []⟩]) (.cond (.t 80) (.seq (.ops 0 [⟨(some 2), (.v (.mv (.k (.c (.int .i64 1))))), none, []⟩]) .ret) .skip))))) (.ops 0 [⟨(some 12), (.v (.mv (.t 3))), none, []⟩, ⟨(some 13), (.v (.bin .add (.t 12) (.k (.c (.int .i64 1))))), none, []⟩, ⟨(some 3), (.v (.mv (.t 13))), none, []⟩])))))) (.seq (.ops 0 [⟨(some 2), (.v (.mv (.k (.c (.int .i64 0))))), none, []⟩]) .ret)))), 81, [(.t 2)]⟩
theorem h14 : fnR Try.prog DD 14 = some rf14 := by kernel_rfl
/-- papermill papermillref36.pair -/
def rf35 : RFn := ⟨(.seq (.ops 0 [⟨(some 4), (.v (.mv (.k (.c (.int .i64 0))))), none, []⟩, ⟨(some 5), (.v (.mv (.k (.c (.int .i64 0))))), none, []⟩, ⟨(some 6), (.v (.mv (.k (.c (.bool false))))), none, []⟩]) (.seq (.seq (.ops 0 [⟨(some 7), (.v (.mv (.k (.c (.int .i64 0))))), none, []⟩]) (.block 0 (.loop (.seq (.seq (.ops 0 [⟨(some 9), (.v (.mv (.t 7))), none, []⟩, ⟨(some 10), (.v (.mv (.t 0))), none, []⟩, ⟨(some 11), (.v (.lenS (.t 10))), none, []⟩, ⟨(some 12), (.v (.bin .lss (.t 9) (.t 11))), none, []⟩]) (.cond (.t 12) .skip (.exit 0))) (.seq (.block 1 (.seq (.ops 0 [⟨(some 15), (.v (.mv (.t 7))), none, []⟩, ⟨(some 16), (.v (.bin .add (.t 15) (.k (.c (.int .i64 1))))), none, []⟩, ⟨(some 8), (.v (.mv (.t 16))), none, []⟩]) (.block 2 (.loop (.seq (.seq (.ops 0 [⟨(some 17), (.v (.mv (.t 8))), none, []⟩, ⟨(some 18), (.v (.mv (.t 0))), none, []⟩, ⟨(some 19), (.v (.lenS (.t 18))), none, []⟩, ⟨(some 20), (.v (.bin .lss (.t 17) (.t 19))), none, []⟩]) (.cond (.t 20) .skip (.exit 2))) (.seq (.block 3 (.seq (.any 0 [⟨0, ⟨[], ⟨(some 23), (.v (.mv (.t 0))), none, []⟩⟩⟩, ⟨1, ⟨[], ⟨(some 24), (.v (.mv (.t 7))), none, []⟩⟩⟩, ⟨2, ⟨[0, 1], ⟨(some 25), (.v (.ia 6 (.t 23) (.t 24))), none, []⟩⟩⟩, ⟨3, ⟨[2, 0, 1], ⟨(some 26), (.v (.lda 6 (.t 25))), none, []⟩⟩⟩, ⟨4, ⟨[], ⟨(some 27), (.v (.mv (.t 0))), none, []⟩⟩⟩, ⟨5, ⟨[], ⟨(some 28), (.v (.mv (.t 8))), none, []⟩⟩⟩, ⟨6, ⟨[4, 5], ⟨(some 29), (.v (.ia 6 (.t 27) (.t 28))), none, []⟩⟩⟩, ⟨7, ⟨[6, 4, 5], ⟨(some 30), (.v (.lda 6 (.t 29))), none, []⟩⟩⟩, ⟨8, ⟨[], ⟨(some 31), (.v (.mv (.t 1))), none, []⟩⟩⟩, ⟨9, ⟨[3, 2, 0, 1, 7, 6, 4, 5, 8], ⟨(some 32), (.v (.det 48 [⟨false, [.bool]⟩] [(.t 26), (.t 30), (.t 31)])), none, []⟩⟩⟩]) (.cond (.t 32) (.seq (.ops 0 [⟨(some 33), (.v (.mv (.t 7))), none, []⟩, ⟨(some 34), (.v (.mv (.t 8))), none, []⟩, ⟨(some 4), (.v (.mv (.t 33))), none, []⟩, ⟨(some 5), (.v (.mv (.t 34))), none, []⟩, ⟨(some 6), (.v (.mv (.k (.c (.bool true))))), none, []⟩]) .ret) .skip))) (.ops 0 [⟨(some 21), (.v (.mv (.t 8))), none, []⟩, ⟨(some 22), (.v (.bin .add (.t 21) (.k (.c (.int .i64 1))))), none, []⟩, ⟨(some 8), (.v (.mv (.t 22))), none, []⟩]))))))) (.ops 0 [⟨(some 13), (.v (.mv (.t 7))), none, []⟩, ⟨(some 14), (.v (.bin .add (.t 13) (.k (.c (.int .i64 1))))), none, []⟩, ⟨(some 7), (.v (.mv (.t 14))), none, []⟩])))))) (.seq (.ops 0 [⟨(some 4), (.v (.mv (.k (.c (.int .i64 0))))), none, []⟩, ⟨(some 5), (.v (.mv (.k (.c (.int .i64 0))))), none, []⟩, ⟨(some 6), (.v (.mv (.k (.c (.bool false))))), none, []⟩]) .ret))), 35, [(.t 4), (.t 5), (.t 6)]⟩
theorem h35 : fnR Try.prog DD 35 = some rf35 := by kernel_rfl
/-- papermill papermillref36.joined -/
def rf36 : RFn := ⟨(.seq (.ops 3 [⟨(some 2), (.v (.box 0 38 (.t 0))), none, []⟩, ⟨(some 3), (.v (.box 1 38 (.t 1))), none, []⟩, ⟨(some 4), (.v (.alloc 2 38 [(.c (.int .i64 0)), (.c (.int .i64 0)), (.c (.int .i64 0)), (.c (.int .i64 0)), (.c (.int .i64 0)), (.c (.int .i64 0))])), none, []⟩]) (.seq (.any 2 [⟨0, ⟨[], ⟨(some 7), (.v (.fa 0 (.t 2))), none, []⟩⟩⟩, ⟨1, ⟨[0], ⟨(some 8), (.v (.lda 4 (.t 7))), none, []⟩⟩⟩, ⟨2, ⟨[], ⟨(some 9), (.v (.fa 0 (.t 3))), none, []⟩⟩⟩, ⟨3, ⟨[2], ⟨(some 10), (.v (.lda 4 (.t 9))), none, []⟩⟩⟩, ⟨4, ⟨[], ⟨(some 5), (.v (.alloc 0 36 [(.c (.int .i64 0)), (.c (.int .i64 0)), (.c (.int .i64 0)), (.c (.int .i64 0))])), none, []⟩⟩⟩, ⟨5, ⟨[], ⟨(some 6), (.v (.alloc 1 36 [(.c (.int .i64 0)), (.c (.int .i64 0)), (.c (.int .i64 0)), (.c (.int .i64 0))])), none, []⟩⟩⟩, ⟨6, ⟨[1, 0, 4, 5], ⟨none, (.v (.st 4 (.t 5) (.t 8))), none, []⟩⟩⟩, ⟨7, ⟨[3, 2, 6, 1, 0, 4, 5], ⟨none, (.v (.st 4 (.t 6) (.t 10))), none, []⟩⟩⟩]) (.seq (.ops 0 [⟨(some 11), (.v (.fa 0 (.t 5))), none, []⟩, ⟨(some 12), (.v (.ld (.t 11))), none, []⟩, ⟨(some 13), (.v (.fa 0 (.t 6))), none, []⟩, ⟨(some 14), (.v (.ld (.t 13))), none, []⟩, ⟨(some 15), (.v (.min (.t 12) [(.t 14)])), none, []⟩, ⟨(some 16), (.v (.fa 1 (.t 5))), none, []⟩, ⟨(some 17), (.v (.ld (.t 16))), none, []⟩, ⟨(some 18), (.v (.fa 1 (.t 6))), none, []⟩, ⟨(some 19), (.v (.ld (.t 18))), none, []⟩, ⟨(some 20), (.v (.max (.t 17) [(.t 19)])), none, []⟩, ⟨(some 21), (.v (.fa 2 (.t 5))), none, []⟩, ⟨(some 22), (.v (.ld (.t 21))), none, []⟩, ⟨(some 23), (.v (.fa 2 (.t 6))), none, []⟩, ⟨(some 24), (.v (.ld (.t 23))), none, []⟩, ⟨(some 25), (.v (.min (.t 22) [(.t 24)])), none, []⟩, ⟨(some 26), (.v (.fa 3 (.t 5))), none, []⟩, ⟨(some 27), (.v (.ld (.t 26))), none, []⟩, ⟨(some 28), (.v (.fa 3 (.t 6))), none, []⟩, ⟨(some 29), (.v (.ld (.t 28))), none, []⟩, ⟨(some 30), (.v (.max (.t 27) [(.t 29)])), none, []⟩, ⟨(some 31), (.v (.build [(.c (.int .i64 0)), (.c (.int .i64 0)), (.c (.int .i64 0)), (.c (.int .i64 0))] [⟨0, ⟨1, (.t 15)⟩⟩, ⟨1, ⟨1, (.t 20)⟩⟩, ⟨2, ⟨1, (.t 25)⟩⟩, ⟨3, ⟨1, (.t 30)⟩⟩])), none, []⟩, ⟨(some 32), (.v (.fa 4 (.t 2))), none, []⟩, ⟨(some 33), (.v (.ld (.t 32))), none, []⟩, ⟨(some 34), (.v (.fa 5 (.t 2))), none, []⟩, ⟨(some 35), (.v (.ld (.t 34))), none, []⟩, ⟨(some 36), (.v (.fa 5 (.t 3))), none, []⟩, ⟨(some 37), (.v (.ld (.t 36))), none, []⟩, ⟨(some 38), (.v (.max (.t 35) [(.t 37)])), none, []⟩, ⟨(some 39), (.v (.build [(.c (.int .i64 0)), (.c (.int .i64 0)), (.c (.int .i64 0)), (.c (.int .i64 0)), (.c (.int .i64 0)), (.c (.int .i64 0))] [⟨0, ⟨4, (.t 31)⟩⟩, ⟨4, ⟨1, (.t 33)⟩⟩, ⟨5, ⟨1, (.t 38)⟩⟩])), none, []⟩, ⟨none, (.v (.st 6 (.t 4) (.t 39))), none, []⟩]) .ret))), 40, [(.la 4 6)]⟩
theorem h36 : fnR Try.prog DD 36 = some rf36 := by kernel_rfl
/-- papermill papermillref36.Near -/
def rf48 : RFn := ⟨(.seq (.ops 2 [⟨(some 3), (.v (.box 0 38 (.t 0))), none, []⟩, ⟨(some 4), (.v (.box 1 38 (.t 1))), none, []⟩, ⟨(some 6), (.v (.mv (.k (.c (.bool false))))), none, []⟩]) (.seq (.any 2 [⟨0, ⟨[], ⟨(some 9), (.v (.fa 0 (.t 3))), none, []⟩⟩⟩, ⟨1, ⟨[0], ⟨(some 10), (.v (.lda 4 (.t 9))), none, []⟩⟩⟩, ⟨2, ⟨[], ⟨(some 11), (.v (.fa 0 (.t 4))), none, []⟩⟩⟩, ⟨3, ⟨[2], ⟨(some 12), (.v (.lda 4 (.t 11))), none, []⟩⟩⟩, ⟨4, ⟨[], ⟨(some 7), (.v (.alloc 0 36 [(.c (.int .i64 0)), (.c (.int .i64 0)), (.c (.int .i64 0)), (.c (.int .i64 0))])), none, []⟩⟩⟩, ⟨5, ⟨[], ⟨(some 8), (.v (.alloc 1 36 [(.c (.int .i64 0)), (.c (.int .i64 0)), (.c (.int .i64 0)), (.c (.int .i64 0))])), none, []⟩⟩⟩, ⟨6, ⟨[1, 0, 4, 5], ⟨none, (.v (.st 4 (.t 7) (.t 10))), none, []⟩⟩⟩, ⟨7, ⟨[3, 2, 6, 1, 0, 4, 5], ⟨none, (.v (.st 4 (.t 8) (.t 12))), none, []⟩⟩⟩]) (.seq (.ops 0 [⟨(some 13), (.v (.fa 4 (.t 3))), none, []⟩, ⟨(some 14), (.v (.ld (.t 13))), none, []⟩, ⟨(some 15), (.v (.fa 4 (.t 4))), none, []⟩, ⟨(some 16), (.v (.ld (.t 15))), none, []⟩, ⟨(some 17), (.v (.bin .eql (.t 14) (.t 16))), none, []⟩, ⟨(some 18), (.v (.mv (.t 17))), none, []⟩, ⟨(some 19), (.v (.fa 0 (.t 7))), (some ⟨18, true⟩), [(.t 7)]⟩, ⟨(some 20), (.v (.ld (.t 19))), (some ⟨18, true⟩), [(.t 19)]⟩, ⟨(some 21), (.v (.fa 1 (.t 7))), (some ⟨18, true⟩), [(.t 7)]⟩, ⟨(some 22), (.v (.ld (.t 21))), (some ⟨18, true⟩), [(.t 21)]⟩, ⟨(some 23), (.v (.fa 0 (.t 8))), (some ⟨18, true⟩), [(.t 8)]⟩, ⟨(some 24), (.v (.ld (.t 23))), (some ⟨18, true⟩), [(.t 23)]⟩, ⟨(some 25), (.v (.fa 1 (.t 8))), (some ⟨18, true⟩), [(.t 8)]⟩, ⟨(some 26), (.v (.ld (.t 25))), (some ⟨18, true⟩), [(.t 25)]⟩, ⟨(some 27), (.v (.det 58 [⟨false, [(.int .i64)]⟩] [(.t 20), (.t 22), (.t 24), (.t 26)])), (some ⟨18, true⟩), [(.k (.fn 58 [])), (.t 20), (.t 22), (.t 24), (.t 26)]⟩, ⟨(some 28), (.v (.mv (.t 2))), (some ⟨18, true⟩), [(.t 2)]⟩, ⟨(some 29), (.v (.bin .leq (.t 27) (.t 28))), (some ⟨18, true⟩), [(.t 27), (.t 28)]⟩, ⟨(some 30), (.v (.pick (.t 18) (.t 29) (.k (.c (.bool false))))), none, []⟩, ⟨(some 31), (.v (.mv (.t 30))), none, []⟩, ⟨(some 32), (.v (.fa 2 (.t 7))), (some ⟨31, true⟩), [(.t 7)]⟩, ⟨(some 33), (.v (.ld (.t 32))), (some ⟨31, true⟩), [(.t 32)]⟩, ⟨(some 34), (.v (.fa 3 (.t 7))), (some ⟨31, true⟩), [(.t 7)]⟩, ⟨(some 35), (.v (.ld (.t 34))), (some ⟨31, true⟩), [(.t 34)]⟩, ⟨(some 36), (.v (.fa 2 (.t 8))), (some ⟨31, true⟩), [(.t 8)]⟩, ⟨(some 37), (.v (.ld (.t 36))), (some ⟨31, true⟩), [(.t 36)]⟩, ⟨(some 38), (.v (.fa 3 (.t 8))), (some ⟨31, true⟩), [(.t 8)]⟩, ⟨(some 39), (.v (.ld (.t 38))), (some ⟨31, true⟩), [(.t 38)]⟩, ⟨(some 40), (.v (.det 58 [⟨false, [(.int .i64)]⟩] [(.t 33), (.t 35), (.t 37), (.t 39)])), (some ⟨31, true⟩), [(.k (.fn 58 [])), (.t 33), (.t 35), (.t 37), (.t 39)]⟩, ⟨(some 41), (.v (.mv (.t 2))), (some ⟨31, true⟩), [(.t 2)]⟩, ⟨(some 42), (.v (.bin .leq (.t 40) (.t 41))), (some ⟨31, true⟩), [(.t 40), (.t 41)]⟩, ⟨(some 43), (.v (.pick (.t 31) (.t 42) (.k (.c (.bool false))))), none, []⟩, ⟨(some 6), (.v (.mv (.t 43))), none, []⟩]) .ret))), 44, [(.t 6)]⟩
theorem h48 : fnR Try.prog DD 48 = some rf48 := by kernel_rfl
/-- papermill papermillref36.distance -/
def rf58 : RFn := ⟨(.seq (.ops 0 [⟨(some 8), (.v (.mv (.k (.c (.int .i64 0))))), none, []⟩]) (.seq (.ops 0 [⟨(some 9), (.v (.mv (.t 2))), none, []⟩, ⟨(some 10), (.v (.mv (.t 1))), none, []⟩, ⟨(some 11), (.v (.bin .sub (.t 9) (.t 10))), none, []⟩, ⟨(some 12), (.v (.mv (.t 0))), none, []⟩, ⟨(some 13), (.v (.mv (.t 3))), none, []⟩, ⟨(some 14), (.v (.bin .sub (.t 12) (.t 13))), none, []⟩, ⟨(some 15), (.v (.max (.k (.c (.int .i64 0))) [(.t 11), (.t 14)])), none, []⟩, ⟨(some 8), (.v (.mv (.t 15))), none, []⟩]) .ret)), 16, [(.t 8)]⟩
theorem h58 : fnR Try.prog DD 58 = some rf58 := by kernel_rfl
/-- papermill papermilllaw36.DefectMerges -/
def rf3 : RFn := ⟨(.seq (.ops 0 [⟨(some 4), (.v (.mv (.k (.c (.bool false))))), none, []⟩]) (.seq (.seq (.ops 0 [⟨(some 9), (.v (.mv (.t 0))), none, []⟩, ⟨(some 10), (.v (.lenS (.t 9))), none, []⟩, ⟨(some 11), (.v (.bin .gtr (.t 10) (.k (.c (.int .i64 140))))), none, []⟩]) (.cond (.t 11) (.seq (.ops 0 [⟨(some 12), (.v (.det 10 [⟨false, [.bool]⟩] [])), none, []⟩, ⟨(some 4), (.v (.mv (.t 12))), none, []⟩]) .ret) .skip)) (.seq (.ops 0 [⟨(some 14), (.v (.mv (.t 0))), none, []⟩, ⟨(some 15), (.v (.mv (.t 1))), none, []⟩, ⟨(some 16), (.v (.det 11 [⟨false, [(.sl [(.int .i64), (.int .i64), (.int .i64), (.int .i64), (.int .i64), (.int .i64)])]⟩, ⟨false, [(.int .i64)]⟩] [(.t 14), (.t 15)])), none, []⟩, ⟨(some 13), (.v (.mv (.t 16))), none, []⟩, ⟨(some 17), (.v (.ext (.t 13) 0)), none, []⟩, ⟨(some 18), (.v (.ext (.t 13) 1)), none, []⟩, ⟨(some 5), (.v (.mv (.t 17))), none, []⟩, ⟨(some 6), (.v (.mv (.t 18))), none, []⟩]) (.seq (.ops 0 [⟨(some 20), (.v (.mv (.t 0))), none, []⟩, ⟨(some 21), (.v (.mv (.t 1))), none, []⟩, ⟨(some 22), (.v (.det 12 [⟨false, [(.sl [(.int .i64), (.int .i64), (.int .i64), (.int .i64), (.int .i64), (.int .i64)])]⟩, ⟨false, [(.int .i64)]⟩] [(.t 20), (.t 21)])), none, []⟩, ⟨(some 19), (.v (.mv (.t 22))), none, []⟩, ⟨(some 23), (.v (.ext (.t 19) 0)), none, []⟩, ⟨(some 24), (.v (.ext (.t 19) 1)), none, []⟩, ⟨(some 7), (.v (.mv (.t 23))), none, []⟩, ⟨(some 8), (.v (.mv (.t 24))), none, []⟩]) (.seq (.ops 0 [⟨(some 25), (.v (.mv (.t 0))), none, []⟩, ⟨(some 26), (.v (.det 13 [⟨false, [(.int .i64)]⟩] [(.t 25)])), none, []⟩, ⟨(some 27), (.v (.mv (.t 0))), none, []⟩, ⟨(some 28), (.v (.det 14 [⟨false, [(.int .i64)]⟩] [(.t 27)])), none, []⟩, ⟨(some 29), (.v (.bin .eql (.t 26) (.t 28))), none, []⟩, ⟨(some 30), (.v (.mv (.t 29))), none, []⟩, ⟨(some 31), (.v (.mv (.t 5))), (some ⟨30, true⟩), [(.t 5)]⟩, ⟨(some 32), (.v (.mv (.t 7))), (some ⟨30, true⟩), [(.t 7)]⟩, ⟨(some 33), (.v (.det 15 [⟨false, [.bool]⟩] [(.t 31), (.t 32)])), (some ⟨30, true⟩), [(.k (.fn 15 [])), (.t 31), (.t 32)]⟩, ⟨(some 34), (.v (.pick (.t 30) (.t 33) (.k (.c (.bool false))))), none, []⟩, ⟨(some 35), (.v (.mv (.t 34))), none, []⟩, ⟨(some 36), (.v (.mv (.t 6))), (some ⟨35, true⟩), [(.t 6)]⟩, ⟨(some 37), (.v (.mv (.t 8))), (some ⟨35, true⟩), [(.t 8)]⟩, ⟨(some 38), (.v (.bin .eql (.t 36) (.t 37))), (some ⟨35, true⟩), [(.t 36), (.t 37)]⟩, ⟨(some 39), (.v (.pick (.t 35) (.t 38) (.k (.c (.bool false))))), none, []⟩, ⟨(some 40), (.v (.mv (.t 39))), none, []⟩, ⟨(some 41), (.v (.det 10 [⟨false, [.bool]⟩] [])), (some ⟨40, true⟩), [(.k (.fn 10 []))]⟩, ⟨(some 42), (.v (.pick (.t 40) (.t 41) (.k (.c (.bool false))))), none, []⟩, ⟨(some 4), (.v (.mv (.t 42))), none, []⟩]) .ret))))), 43, [(.t 4)]⟩
theorem h3 : fnR Try.prog DD 3 = some rf3 := by kernel_rfl
def vc13 (E : Env) (x1 : List (List C)) (Q : List C → Prop) : Prop :=
  Br (E.lt 128 (E.len x1))
  (Q [.int .i64 8])
  (LoopP1 (fun (i2 : Int) (K3 : (Int) → Prop) =>
    Br (E.lt i2 (E.len x1))
      (((E.le 0 i2) = true) ∧ 
        ((E.pok 37 [(false, [.int .i64])] [.agg [.c (.int .i64 (E.gi (E.cell x1 i2 0))), .c (.int .i64 (E.gi (E.cell x1 i2 1))), .c (.int .i64 (E.gi (E.cell x1 i2 2))), .c (.int .i64 (E.gi (E.cell x1 i2 3)))]]) ∧ (∀ r4 : Nat → C, r4 = E.res 37 [.agg [.c (.int .i64 (E.gi (E.cell x1 i2 0))), .c (.int .i64 (E.gi (E.cell x1 i2 1))), .c (.int .i64 (E.gi (E.cell x1 i2 2))), .c (.int .i64 (E.gi (E.cell x1 i2 3)))]] → 
        (Br (E.not (E.eq (E.gi (r4 0)) 0))
        (Q [.int .i64 (E.gi (r4 0))])
        (Br (E.bite (E.eq (E.gi (E.cell x1 i2 0)) (E.gi (E.cell x1 i2 1))) true (E.eq (E.gi (E.cell x1 i2 2)) (E.gi (E.cell x1 i2 3))))
          (Q [.int .i64 10])
          (Br (E.bite (E.bite (E.bite (E.lt (E.gi (E.cell x1 i2 4)) 1) true (E.lt 16 (E.gi (E.cell x1 i2 4)))) true (E.lt (E.gi (E.cell x1 i2 5)) 1)) true (E.lt 100 (E.gi (E.cell x1 i2 5))))
            (Q [.int .i64 1])
            (K3 ((E.add .i64 i2 1)))))))))
      (Q [.int .i64 0]))
    (0))
theorem w13 {P : Program} {tbl : FuncId → List A → List C}  {x1 : List (List C)} {row : List C} (h : vc13 (stdE P tbl) x1 fun c => c = row) : WPg P tbl rf13 [(false, [.int .i64])] row [.c (.sl [.int .i64, .int .i64, .int .i64, .int .i64, .int .i64, .int .i64] x1)] := by
  refine ⟨?_⟩
  revert h
  generalize hE : stdE P tbl = E
  intro h
  unfold vc13 at h
  cbv
  refine ⟨fun hb5 => ?_, fun hb5 => ?_⟩
  · replace h := h.t hb5
    have h : _ = row := h
    subst h
    repeat' (first | exact trivial | exact rfl | refine And.intro ?_ ?_)
  · replace h := h.f hb5
    obtain ⟨I, μ, h0, hI⟩ := h
    refine LoopW.inv (fun R R' s h k => RCode.wp_mono _ R R' s h k) (fun p : Int => (fun (i2 : Int) => (⟨[.u, .u, .u, .u, .u, .u, .u, .u, .u, .c (.sl [.int .i64, .int .i64, .int .i64, .int .i64, .int .i64, .int .i64] x1), .c (.int .i64 (E.len x1)), .c (.int .i64 i2), .u, .u, .u, .u, .u, .u, .u, .u, .u, .u, .u, .u, .u, .u, .u, .u, .u, .u, .u, .u, .u, .u, .u, .u, .u, .u, .u, .u, .u, .u, .u, .u, .u, .u, .u, .u, .u, .u, .u, .u, .u, .u, .u, .u, .u, .u], []⟩ : St)) p) (fun p => I p) (fun p => μ p) _ h0 ?_ ?_
    · refine GSt.ren [] rfl rfl rfl (fun i hi => absurd hi (Nat.not_lt_zero i)) (Nat.zero_le _) ?_ ?_
      all_goals (repeat' (first | exact trivial | exact Or.inl rfl | exact Or.inr rfl | refine And.intro ?_ ?_))
    · rintro i2 h
      replace h := hI i2 h
      cbv
      refine ⟨fun hb6 => ?_, fun hb6 => ?_⟩
      · replace h := h.t hb6
        have c7 := h.1
        refine ⟨c7, ?_⟩
        replace h := h.2
        refine ⟨hb6, ?_⟩
        have c8 := h.1
        refine ⟨c8, ?_⟩
        replace h := h.2 _ rfl
        refine ⟨fun hb9 => ?_, fun hb9 => ?_⟩
        · replace h := h.t hb9
          have h : _ = row := h
          subst h
          repeat' (first | exact trivial | exact rfl | refine And.intro ?_ ?_)
        · replace h := h.f hb9
          refine ⟨⟨fun hh => hh⟩, ?_⟩
          refine ⟨⟨fun hh => hh⟩, ?_⟩
          refine ⟨⟨fun hh => hh⟩, ?_⟩
          refine ⟨⟨fun hh => hh⟩, ?_⟩
          refine ⟨⟨fun hh => hh⟩, ?_⟩
          refine ⟨⟨fun hh => hh⟩, ?_⟩
          refine ⟨⟨fun hh => hh⟩, ?_⟩
          refine ⟨fun hb10 => ?_, fun hb10 => ?_⟩
          · replace h := h.t hb10
            have h : _ = row := h
            subst h
            repeat' (first | exact trivial | exact rfl | refine And.intro ?_ ?_)
          · replace h := h.f hb10
            refine ⟨⟨fun hh => hh⟩, ?_⟩
            refine ⟨⟨fun hh => hh⟩, ?_⟩
            refine ⟨⟨fun hh => hh⟩, ?_⟩
            refine ⟨⟨fun hh => hh⟩, ?_⟩
            refine ⟨⟨fun hh => hh⟩, ?_⟩
            refine ⟨⟨fun hh => hh⟩, ?_⟩
            refine ⟨⟨fun hh => hh⟩, ?_⟩
            refine ⟨⟨fun hh => hh⟩, ?_⟩
            refine ⟨⟨fun hh => hh⟩, ?_⟩
            refine ⟨fun hb11 => ?_, fun hb11 => ?_⟩
            · replace h := h.t hb11
              have h : _ = row := h
              subst h
              repeat' (first | exact trivial | exact rfl | refine And.intro ?_ ?_)
            · replace h := h.f hb11
              refine ⟨_, h.1, GSt.ren [] rfl rfl rfl (fun i hi => absurd hi (Nat.not_lt_zero i)) (Nat.zero_le _) ?_ ?_, h.2⟩
              all_goals (repeat' (first | exact trivial | exact Or.inl rfl | exact Or.inr rfl | refine And.intro ?_ ?_))
      · replace h := h.f hb6
        have h : _ = row := h
        subst h
        repeat' (first | exact trivial | exact rfl | refine And.intro ?_ ?_)
def vc14 (E : Env) (x1 : List (List C)) (Q : List C → Prop) : Prop :=
  Br (E.lt 128 (E.len x1))
  (Q [.int .i64 8])
  (LoopP1 (fun (i2 : Int) (K3 : (Int) → Prop) =>
    Br (E.lt i2 (E.len x1))
      (((E.le 0 i2) = true) ∧ 
        ((E.pok 38 [(false, [.int .i64])] [.agg [.c (.int .i64 (E.gi (E.cell x1 i2 0))), .c (.int .i64 (E.gi (E.cell x1 i2 1))), .c (.int .i64 (E.gi (E.cell x1 i2 2))), .c (.int .i64 (E.gi (E.cell x1 i2 3)))]]) ∧ (∀ r4 : Nat → C, r4 = E.res 38 [.agg [.c (.int .i64 (E.gi (E.cell x1 i2 0))), .c (.int .i64 (E.gi (E.cell x1 i2 1))), .c (.int .i64 (E.gi (E.cell x1 i2 2))), .c (.int .i64 (E.gi (E.cell x1 i2 3)))]] → 
        (Br (E.not (E.eq (E.gi (r4 0)) 0))
        (Q [.int .i64 (E.gi (r4 0))])
        (Br (E.bite (E.eq (E.gi (E.cell x1 i2 0)) (E.gi (E.cell x1 i2 1))) true (E.eq (E.gi (E.cell x1 i2 2)) (E.gi (E.cell x1 i2 3))))
          (Q [.int .i64 10])
          (Br (E.bite (E.bite (E.bite (E.lt (E.gi (E.cell x1 i2 4)) 1) true (E.lt 16 (E.gi (E.cell x1 i2 4)))) true (E.lt (E.gi (E.cell x1 i2 5)) 1)) true (E.lt 100 (E.gi (E.cell x1 i2 5))))
            (Q [.int .i64 1])
            (K3 ((E.add .i64 i2 1)))))))))
      (Q [.int .i64 0]))
    (0))
theorem w14 {P : Program} {tbl : FuncId → List A → List C}  {x1 : List (List C)} {row : List C} (h : vc14 (stdE P tbl) x1 fun c => c = row) : WPg P tbl rf14 [(false, [.int .i64])] row [.c (.sl [.int .i64, .int .i64, .int .i64, .int .i64, .int .i64, .int .i64] x1)] := by
  refine ⟨?_⟩
  revert h
  generalize hE : stdE P tbl = E
  intro h
  unfold vc14 at h
  cbv
  refine ⟨fun hb5 => ?_, fun hb5 => ?_⟩
  · replace h := h.t hb5
    have h : _ = row := h
    subst h
    repeat' (first | exact trivial | exact rfl | refine And.intro ?_ ?_)
  · replace h := h.f hb5
    obtain ⟨I, μ, h0, hI⟩ := h
    refine LoopW.inv (fun R R' s h k => RCode.wp_mono _ R R' s h k) (fun p : Int => (fun (i2 : Int) => (⟨[.c (.sl [.int .i64, .int .i64, .int .i64, .int .i64, .int .i64, .int .i64] x1), .u, .u, .c (.int .i64 i2), .u, .u, .u, .u, .u, .u, .u, .u, .u, .u, .u, .u, .u, .u, .u, .u, .u, .u, .u, .u, .u, .u, .u, .u, .u, .u, .u, .u, .u, .u, .u, .u, .u, .u, .u, .u, .u, .u, .u, .u, .u, .u, .u, .u, .u, .u, .u, .u, .u, .u, .u, .u, .u, .u, .u, .u, .u, .u, .u, .u, .u, .u, .u, .u, .u, .u, .u, .u, .u, .u, .u, .u, .u, .u, .u, .u, .u], []⟩ : St)) p) (fun p => I p) (fun p => μ p) _ h0 ?_ ?_
    · refine GSt.ren [] rfl rfl rfl (fun i hi => absurd hi (Nat.not_lt_zero i)) (Nat.zero_le _) ?_ ?_
      all_goals (repeat' (first | exact trivial | exact Or.inl rfl | exact Or.inr rfl | refine And.intro ?_ ?_))
    · rintro i2 h
      replace h := hI i2 h
      cbv
      refine ⟨fun hb6 => ?_, fun hb6 => ?_⟩
      · replace h := h.t hb6
        have c7 := h.1
        refine ⟨c7, ?_⟩
        replace h := h.2
        refine ⟨hb6, ?_⟩
        have c8 := h.1
        refine ⟨c8, ?_⟩
        replace h := h.2 _ rfl
        refine ⟨fun hb9 => ?_, fun hb9 => ?_⟩
        · replace h := h.t hb9
          have h : _ = row := h
          subst h
          repeat' (first | exact trivial | exact rfl | refine And.intro ?_ ?_)
        · replace h := h.f hb9
          refine ⟨c7, ?_⟩
          refine ⟨hb6, ?_⟩
          refine ⟨c7, ?_⟩
          refine ⟨hb6, ?_⟩
          refine ⟨⟨fun hh => hh⟩, ?_⟩
          refine ⟨⟨fun hh => hh⟩, ?_⟩
          refine ⟨⟨fun _ => c7⟩, ?_⟩
          refine ⟨⟨fun _ => hb6⟩, ?_⟩
          refine ⟨⟨fun hh => hh⟩, ?_⟩
          refine ⟨⟨fun hh => hh⟩, ?_⟩
          refine ⟨⟨fun hh => hh⟩, ?_⟩
          refine ⟨⟨fun hh => hh⟩, ?_⟩
          refine ⟨⟨fun hh => hh⟩, ?_⟩
          refine ⟨⟨fun _ => c7⟩, ?_⟩
          refine ⟨⟨fun _ => hb6⟩, ?_⟩
          refine ⟨⟨fun hh => hh⟩, ?_⟩
          refine ⟨⟨fun hh => hh⟩, ?_⟩
          refine ⟨⟨fun hh => hh⟩, ?_⟩
          refine ⟨⟨fun hh => hh⟩, ?_⟩
          refine ⟨⟨fun hh => hh⟩, ?_⟩
          refine ⟨⟨fun hh => hh⟩, ?_⟩
          refine ⟨fun hb10 => ?_, fun hb10 => ?_⟩
          · replace h := h.t hb10
            have h : _ = row := h
            subst h
            repeat' (first | exact trivial | exact rfl | refine And.intro ?_ ?_)
          · replace h := h.f hb10
            refine ⟨c7, ?_⟩
            refine ⟨hb6, ?_⟩
            refine ⟨⟨fun hh => hh⟩, ?_⟩
            refine ⟨⟨fun hh => hh⟩, ?_⟩
            refine ⟨⟨fun _ => c7⟩, ?_⟩
            refine ⟨⟨fun _ => hb6⟩, ?_⟩
            refine ⟨⟨fun hh => hh⟩, ?_⟩
            refine ⟨⟨fun hh => hh⟩, ?_⟩
            refine ⟨⟨fun hh => hh⟩, ?_⟩
            refine ⟨⟨fun hh => hh⟩, ?_⟩
            refine ⟨⟨fun hh => hh⟩, ?_⟩
            refine ⟨⟨fun hh => hh⟩, ?_⟩
            refine ⟨⟨fun _ => c7⟩, ?_⟩
            refine ⟨⟨fun _ => hb6⟩, ?_⟩
            refine ⟨⟨fun hh => hh⟩, ?_⟩
            refine ⟨⟨fun hh => hh⟩, ?_⟩
            refine ⟨⟨fun hh => hh⟩, ?_⟩
            refine ⟨⟨fun hh => hh⟩, ?_⟩
            refine ⟨⟨fun hh => hh⟩, ?_⟩
            refine ⟨⟨fun hh => hh⟩, ?_⟩
            refine ⟨⟨fun _ => c7⟩, ?_⟩
            refine ⟨⟨fun _ => hb6⟩, ?_⟩
            refine ⟨⟨fun hh => hh⟩, ?_⟩
            refine ⟨⟨fun hh => hh⟩, ?_⟩
            refine ⟨⟨fun hh => hh⟩, ?_⟩
            refine ⟨⟨fun hh => hh⟩, ?_⟩
            refine ⟨fun hb11 => ?_, fun hb11 => ?_⟩
            · replace h := h.t hb11
              have h : _ = row := h
              subst h
              repeat' (first | exact trivial | exact rfl | refine And.intro ?_ ?_)
            · replace h := h.f hb11
              refine ⟨_, h.1, GSt.ren [] rfl rfl rfl (fun i hi => absurd hi (Nat.not_lt_zero i)) (Nat.zero_le _) ?_ ?_, h.2⟩
              all_goals (repeat' (first | exact trivial | exact Or.inl rfl | exact Or.inr rfl | refine And.intro ?_ ?_))
      · replace h := h.f hb6
        have h : _ = row := h
        subst h
        repeat' (first | exact trivial | exact rfl | refine And.intro ?_ ?_)
def vc47 (E : Env) (x1 : Int) (x2 : Int) (x3 : Int) (x4 : Int) (x5 : Int) (x6 : Int) (x7 : Int) (x8 : Int) (x9 : Int) (Q : List C → Prop) : Prop :=
  Q [.bool (E.bite (E.le (E.sub .i64 (E.max x1 x5) (E.min x2 x6)) x9) (E.le (E.sub .i64 (E.max x3 x7) (E.min x4 x8)) x9) false)]
theorem w47 {P : Program} {tbl : FuncId → List A → List C}  {x1 : Int} {x2 : Int} {x3 : Int} {x4 : Int} {x5 : Int} {x6 : Int} {x7 : Int} {x8 : Int} {x9 : Int} {row : List C} (h : vc47 (stdE P tbl) x1 x2 x3 x4 x5 x6 x7 x8 x9 fun c => c = row) : WPg P tbl rf47 [(false, [.bool])] row [.agg [.c (.int .i64 x1), .c (.int .i64 x2), .c (.int .i64 x3), .c (.int .i64 x4)], .agg [.c (.int .i64 x5), .c (.int .i64 x6), .c (.int .i64 x7), .c (.int .i64 x8)], .c (.int .i64 x9)] := by
  refine ⟨?_⟩
  revert h
  generalize hE : stdE P tbl = E
  intro h
  unfold vc47 at h
  cbv
  refine ⟨⟨fun hh => hh⟩, ?_⟩
  refine ⟨⟨fun hh => hh⟩, ?_⟩
  refine ⟨⟨fun hh => hh⟩, ?_⟩
  refine ⟨⟨fun hh => hh⟩, ?_⟩
  refine ⟨⟨fun hh => hh⟩, ?_⟩
  refine ⟨⟨fun hh => hh⟩, ?_⟩
  refine ⟨⟨fun hh => hh⟩, ?_⟩
  refine ⟨⟨fun hh => hh⟩, ?_⟩
  refine ⟨⟨fun hh => hh⟩, ?_⟩
  refine ⟨⟨fun hh => hh⟩, ?_⟩
  refine ⟨⟨fun hh => hh⟩, ?_⟩
  refine ⟨⟨fun hh => hh⟩, ?_⟩
  refine ⟨⟨fun hh => hh⟩, ?_⟩
  have h : _ = row := h
  subst h
  repeat' (first | exact trivial | exact rfl | refine And.intro ?_ ?_)
def vc48 (E : Env) (x1 : Int) (x2 : Int) (x3 : Int) (x4 : Int) (x5 : Int) (x6 : Int) (x7 : Int) (x8 : Int) (x9 : Int) (x10 : Int) (x11 : Int) (x12 : Int) (x13 : Int) (Q : List C → Prop) : Prop :=
  (Imp (E.eq x5 x11) (E.pok 58 [(false, [.int .i64])] [.c (.int .i64 x1), .c (.int .i64 x2), .c (.int .i64 x7), .c (.int .i64 x8)])) ∧ (∀ r14 : Nat → C, r14 = E.res 58 [.c (.int .i64 x1), .c (.int .i64 x2), .c (.int .i64 x7), .c (.int .i64 x8)] → 
  ((Imp (E.bite (E.eq x5 x11) (E.le (E.gi (r14 0)) x13) false) (E.pok 58 [(false, [.int .i64])] [.c (.int .i64 x3), .c (.int .i64 x4), .c (.int .i64 x9), .c (.int .i64 x10)])) ∧ (∀ r15 : Nat → C, r15 = E.res 58 [.c (.int .i64 x3), .c (.int .i64 x4), .c (.int .i64 x9), .c (.int .i64 x10)] → 
  (Q [.bool (E.bite (E.bite (E.eq x5 x11) (E.le (E.gi (r14 0)) x13) false) (E.le (E.gi (r15 0)) x13) false)]))))
theorem w48 {P : Program} {tbl : FuncId → List A → List C}  {x1 : Int} {x2 : Int} {x3 : Int} {x4 : Int} {x5 : Int} {x6 : Int} {x7 : Int} {x8 : Int} {x9 : Int} {x10 : Int} {x11 : Int} {x12 : Int} {x13 : Int} {row : List C} (h : vc48 (stdE P tbl) x1 x2 x3 x4 x5 x6 x7 x8 x9 x10 x11 x12 x13 fun c => c = row) : WPg P tbl rf48 [(false, [.bool])] row [.agg [.c (.int .i64 x1), .c (.int .i64 x2), .c (.int .i64 x3), .c (.int .i64 x4), .c (.int .i64 x5), .c (.int .i64 x6)], .agg [.c (.int .i64 x7), .c (.int .i64 x8), .c (.int .i64 x9), .c (.int .i64 x10), .c (.int .i64 x11), .c (.int .i64 x12)], .c (.int .i64 x13)] := by
  refine ⟨?_⟩
  revert h
  generalize hE : stdE P tbl = E
  intro h
  unfold vc48 at h
  cbv
  refine ⟨⟨fun hh => hh⟩, ?_⟩
  refine ⟨⟨fun hh => hh⟩, ?_⟩
  refine ⟨⟨fun hh => hh⟩, ?_⟩
  refine ⟨⟨fun hh => hh⟩, ?_⟩
  refine ⟨⟨fun hh => hh⟩, ?_⟩
  refine ⟨⟨fun hh => hh⟩, ?_⟩
  refine ⟨⟨fun hh => hh⟩, ?_⟩
  refine ⟨⟨fun hh => hh⟩, ?_⟩
  have c16 := h.1
  refine ⟨c16, ?_⟩
  replace h := h.2 _ rfl
  refine ⟨⟨fun hh => hh⟩, ?_⟩
  refine ⟨⟨fun hh => hh⟩, ?_⟩
  refine ⟨⟨fun hh => hh⟩, ?_⟩
  refine ⟨⟨fun hh => hh⟩, ?_⟩
  refine ⟨⟨fun hh => hh⟩, ?_⟩
  refine ⟨⟨fun hh => hh⟩, ?_⟩
  refine ⟨⟨fun hh => hh⟩, ?_⟩
  refine ⟨⟨fun hh => hh⟩, ?_⟩
  refine ⟨⟨fun hh => hh⟩, ?_⟩
  refine ⟨⟨fun hh => hh⟩, ?_⟩
  refine ⟨⟨fun hh => hh⟩, ?_⟩
  have c17 := h.1
  refine ⟨c17, ?_⟩
  replace h := h.2 _ rfl
  refine ⟨⟨fun hh => hh⟩, ?_⟩
  refine ⟨⟨fun hh => hh⟩, ?_⟩
  refine ⟨⟨fun hh => hh⟩, ?_⟩
  have h : _ = row := h
  subst h
  repeat' (first | exact trivial | exact rfl | refine And.intro ?_ ?_)
def vc58 (E : Env) (x1 : Int) (x2 : Int) (x3 : Int) (x4 : Int) (Q : List C → Prop) : Prop :=
  Q [.int .i64 (E.max (E.max 0 (E.sub .i64 x3 x2)) (E.sub .i64 x1 x4))]
theorem w58 {P : Program} {tbl : FuncId → List A → List C}  {x1 : Int} {x2 : Int} {x3 : Int} {x4 : Int} {row : List C} (h : vc58 (stdE P tbl) x1 x2 x3 x4 fun c => c = row) : WPg P tbl rf58 [(false, [.int .i64])] row [.c (.int .i64 x1), .c (.int .i64 x2), .c (.int .i64 x3), .c (.int .i64 x4)] := by
  refine ⟨?_⟩
  revert h
  generalize hE : stdE P tbl = E
  intro h
  unfold vc58 at h
  cbv
  have h : _ = row := h
  subst h
  repeat' (first | exact trivial | exact rfl | refine And.intro ?_ ?_)
def vc33 (E : Env) (x1 : Int) (x2 : Int) (x3 : Int) (x4 : Int) (x5 : Int) (x6 : Int) (x7 : Int) (x8 : Int) (x9 : Int) (x10 : Int) (x11 : Int) (x12 : Int) (Q : List C → Prop) : Prop :=
  Q [.int .i64 (E.min x1 x7), .int .i64 (E.max x2 x8), .int .i64 (E.min x3 x9), .int .i64 (E.max x4 x10), .int .i64 x5, .int .i64 (E.max x6 x12)]
theorem w33 {P : Program} {tbl : FuncId → List A → List C}  {x1 : Int} {x2 : Int} {x3 : Int} {x4 : Int} {x5 : Int} {x6 : Int} {x7 : Int} {x8 : Int} {x9 : Int} {x10 : Int} {x11 : Int} {x12 : Int} {row : List C} (h : vc33 (stdE P tbl) x1 x2 x3 x4 x5 x6 x7 x8 x9 x10 x11 x12 fun c => c = row) : WPg P tbl rf33 [(true, [.int .i64, .int .i64, .int .i64, .int .i64, .int .i64, .int .i64])] row [.agg [.c (.int .i64 x1), .c (.int .i64 x2), .c (.int .i64 x3), .c (.int .i64 x4), .c (.int .i64 x5), .c (.int .i64 x6)], .agg [.c (.int .i64 x7), .c (.int .i64 x8), .c (.int .i64 x9), .c (.int .i64 x10), .c (.int .i64 x11), .c (.int .i64 x12)]] := by
  refine ⟨?_⟩
  revert h
  generalize hE : stdE P tbl = E
  intro h
  unfold vc33 at h
  cbv
  have h : _ = row := h
  subst h
  repeat' (first | exact trivial | exact rfl | refine And.intro ?_ ?_)
def vc36 (E : Env) (x1 : Int) (x2 : Int) (x3 : Int) (x4 : Int) (x5 : Int) (x6 : Int) (x7 : Int) (x8 : Int) (x9 : Int) (x10 : Int) (x11 : Int) (x12 : Int) (Q : List C → Prop) : Prop :=
  Q [.int .i64 (E.min x1 x7), .int .i64 (E.max x2 x8), .int .i64 (E.min x3 x9), .int .i64 (E.max x4 x10), .int .i64 x5, .int .i64 (E.max x6 x12)]
theorem w36 {P : Program} {tbl : FuncId → List A → List C}  {x1 : Int} {x2 : Int} {x3 : Int} {x4 : Int} {x5 : Int} {x6 : Int} {x7 : Int} {x8 : Int} {x9 : Int} {x10 : Int} {x11 : Int} {x12 : Int} {row : List C} (h : vc36 (stdE P tbl) x1 x2 x3 x4 x5 x6 x7 x8 x9 x10 x11 x12 fun c => c = row) : WPg P tbl rf36 [(true, [.int .i64, .int .i64, .int .i64, .int .i64, .int .i64, .int .i64])] row [.agg [.c (.int .i64 x1), .c (.int .i64 x2), .c (.int .i64 x3), .c (.int .i64 x4), .c (.int .i64 x5), .c (.int .i64 x6)], .agg [.c (.int .i64 x7), .c (.int .i64 x8), .c (.int .i64 x9), .c (.int .i64 x10), .c (.int .i64 x11), .c (.int .i64 x12)]] := by
  refine ⟨?_⟩
  revert h
  generalize hE : stdE P tbl = E
  intro h
  unfold vc36 at h
  cbv
  have h : _ = row := h
  subst h
  repeat' (first | exact trivial | exact rfl | refine And.intro ?_ ?_)
def vc32 (E : Env) (x1 : List (List C)) (x2 : Int) (Q : List C → Prop) : Prop :=
  LoopP3 (fun (i3 : Int) (i4 : Int) (i5 : Int) (K6 : (Int) → (Int) → (Int) → Prop) =>
  Br (E.lt i5 (E.len x1))
    (LoopP1 (fun (i7 : Int) (K8 : (Int) → Prop) =>
      Br (E.lt i7 (E.len x1))
        (((E.le 0 i5) = true) ∧ 
          (((E.le 0 i7) = true) ∧ 
          ((Imp (E.eq (E.gi (E.cell x1 i5 4)) (E.gi (E.cell x1 i7 4))) (E.pok 47 [(false, [.bool])] [.agg [.c (.int .i64 (E.gi (E.cell x1 i5 0))), .c (.int .i64 (E.gi (E.cell x1 i5 1))), .c (.int .i64 (E.gi (E.cell x1 i5 2))), .c (.int .i64 (E.gi (E.cell x1 i5 3)))], .agg [.c (.int .i64 (E.gi (E.cell x1 i7 0))), .c (.int .i64 (E.gi (E.cell x1 i7 1))), .c (.int .i64 (E.gi (E.cell x1 i7 2))), .c (.int .i64 (E.gi (E.cell x1 i7 3)))], .c (.int .i64 x2)])) ∧ (∀ r9 : Nat → C, r9 = E.res 47 [.agg [.c (.int .i64 (E.gi (E.cell x1 i5 0))), .c (.int .i64 (E.gi (E.cell x1 i5 1))), .c (.int .i64 (E.gi (E.cell x1 i5 2))), .c (.int .i64 (E.gi (E.cell x1 i5 3)))], .agg [.c (.int .i64 (E.gi (E.cell x1 i7 0))), .c (.int .i64 (E.gi (E.cell x1 i7 1))), .c (.int .i64 (E.gi (E.cell x1 i7 2))), .c (.int .i64 (E.gi (E.cell x1 i7 3)))], .c (.int .i64 x2)] → 
          (Br (E.bite (E.eq (E.gi (E.cell x1 i5 4)) (E.gi (E.cell x1 i7 4))) (E.gb (r9 0)) false)
          (Q [.int .i64 i5, .int .i64 i7, .bool (E.lt i7 (E.len x1))])
          (K8 ((E.add .i64 i7 1))))))))
        (K6 (i5) (i7) ((E.add .i64 i5 1))))
      ((E.add .i64 i5 1)))
    (Q [.int .i64 i3, .int .i64 i4, .bool (E.lt i4 (E.len x1))]))
  (0) (0) (0)
theorem w32 {P : Program} {tbl : FuncId → List A → List C}  {x1 : List (List C)} {x2 : Int} {row : List C} (h : vc32 (stdE P tbl) x1 x2 fun c => c = row) : WPg P tbl rf32 [(false, [.int .i64]), (false, [.int .i64]), (false, [.bool])] row [.c (.sl [.int .i64, .int .i64, .int .i64, .int .i64, .int .i64, .int .i64] x1), .c (.int .i64 x2)] := by
  refine ⟨?_⟩
  revert h
  generalize hE : stdE P tbl = E
  intro h
  unfold vc32 at h
  cbv
  obtain ⟨I, μ, h0, hI⟩ := h
  refine LoopW.inv (fun R R' s h k => RCode.wp_mono _ R R' s h k) (fun p : Int × Int × Int => (fun (i3 : Int) (i4 : Int) (i5 : Int) => (⟨[.c (.sl [.int .i64, .int .i64, .int .i64, .int .i64, .int .i64, .int .i64] x1), .c (.int .i64 x2), .u, .u, .u, .u, .u, .c (.int .i64 i3), .c (.int .i64 i4), .u, .c (.int .i64 (E.len x1)), .c (.int .i64 i5), .u, .u, .u, .u, .u, .u, .u, .u, .u, .u, .u, .u, .u, .u, .u, .u, .u, .u, .u, .u, .u, .u, .u, .u, .u, .u, .u, .u, .u, .u, .u, .u, .u, .u, .u, .u, .u, .u, .u, .u, .u, .u], []⟩ : St)) p.1 p.2.1 p.2.2) (fun p => I p.1 p.2.1 p.2.2) (fun p => μ p.1 p.2.1 p.2.2) (_, _, _) h0 ?_ ?_
  · refine GSt.ren [] rfl rfl rfl (fun i hi => absurd hi (Nat.not_lt_zero i)) (Nat.zero_le _) ?_ ?_
    all_goals (repeat' (first | exact trivial | exact Or.inl rfl | exact Or.inr rfl | refine And.intro ?_ ?_))
  · rintro ⟨i3, i4, i5⟩ h
    replace h := hI i3 i4 i5 h
    cbv
    refine ⟨fun hb10 => ?_, fun hb10 => ?_⟩
    · replace h := h.t hb10
      obtain ⟨I, μ, h0, hI⟩ := h
      refine LoopW.inv (fun R R' s h k => RCode.wp_mono _ R R' s h k) (fun p : Int => (fun (i7 : Int) => (⟨[.c (.sl [.int .i64, .int .i64, .int .i64, .int .i64, .int .i64, .int .i64] x1), .c (.int .i64 x2), .u, .u, .u, .u, .u, .c (.int .i64 i5), .c (.int .i64 i7), .u, .c (.int .i64 (E.len x1)), .c (.int .i64 i5), .u, .u, .u, .u, .u, .u, .u, .u, .u, .u, .u, .u, .u, .u, .u, .u, .u, .u, .u, .u, .u, .u, .u, .u, .u, .u, .u, .u, .u, .u, .u, .u, .u, .u, .u, .u, .u, .u, .u, .u, .u, .u], []⟩ : St)) p) (fun p => I p) (fun p => μ p) _ h0 ?_ ?_
      · refine GSt.ren [] rfl rfl rfl (fun i hi => absurd hi (Nat.not_lt_zero i)) (Nat.zero_le _) ?_ ?_
        all_goals (repeat' (first | exact trivial | exact Or.inl rfl | exact Or.inr rfl | refine And.intro ?_ ?_))
      · rintro i7 h
        replace h := hI i7 h
        cbv
        refine ⟨fun hb11 => ?_, fun hb11 => ?_⟩
        · replace h := h.t hb11
          have c12 := h.1
          refine ⟨c12, ?_⟩
          replace h := h.2
          refine ⟨hb10, ?_⟩
          have c13 := h.1
          refine ⟨c13, ?_⟩
          replace h := h.2
          refine ⟨hb11, ?_⟩
          refine ⟨⟨fun hh => hh⟩, ?_⟩
          refine ⟨⟨fun hh => hh⟩, ?_⟩
          refine ⟨⟨fun _ => c12⟩, ?_⟩
          refine ⟨⟨fun _ => hb10⟩, ?_⟩
          refine ⟨⟨fun hh => hh⟩, ?_⟩
          refine ⟨⟨fun hh => hh⟩, ?_⟩
          refine ⟨⟨fun hh => hh⟩, ?_⟩
          refine ⟨⟨fun hh => hh⟩, ?_⟩
          refine ⟨⟨fun _ => c13⟩, ?_⟩
          refine ⟨⟨fun _ => hb11⟩, ?_⟩
          refine ⟨⟨fun hh => hh⟩, ?_⟩
          refine ⟨⟨fun hh => hh⟩, ?_⟩
          refine ⟨⟨fun hh => hh⟩, ?_⟩
          refine ⟨⟨fun hh => hh⟩, ?_⟩
          refine ⟨⟨fun hh => hh⟩, ?_⟩
          have c14 := h.1
          refine ⟨c14, ?_⟩
          replace h := h.2 _ rfl
          refine ⟨⟨fun hh => hh⟩, ?_⟩
          refine ⟨fun hb15 => ?_, fun hb15 => ?_⟩
          · replace h := h.t hb15
            have h : _ = row := h
            subst h
            repeat' (first | exact trivial | exact rfl | refine And.intro ?_ ?_)
          · replace h := h.f hb15
            refine ⟨_, h.1, GSt.ren [] rfl rfl rfl (fun i hi => absurd hi (Nat.not_lt_zero i)) (Nat.zero_le _) ?_ ?_, h.2⟩
            all_goals (repeat' (first | exact trivial | exact Or.inl rfl | exact Or.inr rfl | refine And.intro ?_ ?_))
        · replace h := h.f hb11
          refine ⟨(_, _, _), h.1, GSt.ren [] rfl rfl rfl (fun i hi => absurd hi (Nat.not_lt_zero i)) (Nat.zero_le _) ?_ ?_, h.2⟩
          all_goals (repeat' (first | exact trivial | exact Or.inl rfl | exact Or.inr rfl | refine And.intro ?_ ?_))
    · replace h := h.f hb10
      have h : _ = row := h
      subst h
      repeat' (first | exact trivial | exact rfl | refine And.intro ?_ ?_)
def vc35 (E : Env) (x1 : List (List C)) (x2 : Int) (Q : List C → Prop) : Prop :=
  LoopP1 (fun (i3 : Int) (K4 : (Int) → Prop) =>
  Br (E.lt i3 (E.len x1))
    (LoopP1 (fun (i5 : Int) (K6 : (Int) → Prop) =>
      Br (E.lt i5 (E.len x1))
        (((E.le 0 i3) = true) ∧ 
          (((E.le 0 i5) = true) ∧ 
          ((E.pok 48 [(false, [.bool])] [.agg [.c (.int .i64 (E.gi (E.cell x1 i3 0))), .c (.int .i64 (E.gi (E.cell x1 i3 1))), .c (.int .i64 (E.gi (E.cell x1 i3 2))), .c (.int .i64 (E.gi (E.cell x1 i3 3))), .c (.int .i64 (E.gi (E.cell x1 i3 4))), .c (.int .i64 (E.gi (E.cell x1 i3 5)))], .agg [.c (.int .i64 (E.gi (E.cell x1 i5 0))), .c (.int .i64 (E.gi (E.cell x1 i5 1))), .c (.int .i64 (E.gi (E.cell x1 i5 2))), .c (.int .i64 (E.gi (E.cell x1 i5 3))), .c (.int .i64 (E.gi (E.cell x1 i5 4))), .c (.int .i64 (E.gi (E.cell x1 i5 5)))], .c (.int .i64 x2)]) ∧ (∀ r7 : Nat → C, r7 = E.res 48 [.agg [.c (.int .i64 (E.gi (E.cell x1 i3 0))), .c (.int .i64 (E.gi (E.cell x1 i3 1))), .c (.int .i64 (E.gi (E.cell x1 i3 2))), .c (.int .i64 (E.gi (E.cell x1 i3 3))), .c (.int .i64 (E.gi (E.cell x1 i3 4))), .c (.int .i64 (E.gi (E.cell x1 i3 5)))], .agg [.c (.int .i64 (E.gi (E.cell x1 i5 0))), .c (.int .i64 (E.gi (E.cell x1 i5 1))), .c (.int .i64 (E.gi (E.cell x1 i5 2))), .c (.int .i64 (E.gi (E.cell x1 i5 3))), .c (.int .i64 (E.gi (E.cell x1 i5 4))), .c (.int .i64 (E.gi (E.cell x1 i5 5)))], .c (.int .i64 x2)] → 
          (Br (E.gb (r7 0))
          (Q [.int .i64 i3, .int .i64 i5, .bool true])
          (K6 ((E.add .i64 i5 1))))))))
        (K4 ((E.add .i64 i3 1))))
      ((E.add .i64 i3 1)))
    (Q [.int .i64 0, .int .i64 0, .bool false]))
  (0)
theorem w35 {P : Program} {tbl : FuncId → List A → List C}  {x1 : List (List C)} {x2 : Int} {row : List C} (h : vc35 (stdE P tbl) x1 x2 fun c => c = row) : WPg P tbl rf35 [(false, [.int .i64]), (false, [.int .i64]), (false, [.bool])] row [.c (.sl [.int .i64, .int .i64, .int .i64, .int .i64, .int .i64, .int .i64] x1), .c (.int .i64 x2)] := by
  refine ⟨?_⟩
  revert h
  generalize hE : stdE P tbl = E
  intro h
  unfold vc35 at h
  cbv
  obtain ⟨I, μ, h0, hI⟩ := h
  refine LoopW.inv (fun R R' s h k => RCode.wp_mono _ R R' s h k) (fun p : Int => (fun (i3 : Int) => (⟨[.c (.sl [.int .i64, .int .i64, .int .i64, .int .i64, .int .i64, .int .i64] x1), .c (.int .i64 x2), .u, .u, .u, .u, .u, .c (.int .i64 i3), .u, .u, .u, .u, .u, .u, .u, .u, .u, .u, .u, .u, .u, .u, .u, .u, .u, .u, .u, .u, .u, .u, .u, .u, .u, .u, .u], []⟩ : St)) p) (fun p => I p) (fun p => μ p) _ h0 ?_ ?_
  · refine GSt.ren [] rfl rfl rfl (fun i hi => absurd hi (Nat.not_lt_zero i)) (Nat.zero_le _) ?_ ?_
    all_goals (repeat' (first | exact trivial | exact Or.inl rfl | exact Or.inr rfl | refine And.intro ?_ ?_))
  · rintro i3 h
    replace h := hI i3 h
    cbv
    refine ⟨fun hb8 => ?_, fun hb8 => ?_⟩
    · replace h := h.t hb8
      obtain ⟨I, μ, h0, hI⟩ := h
      refine LoopW.inv (fun R R' s h k => RCode.wp_mono _ R R' s h k) (fun p : Int => (fun (i5 : Int) => (⟨[.c (.sl [.int .i64, .int .i64, .int .i64, .int .i64, .int .i64, .int .i64] x1), .c (.int .i64 x2), .u, .u, .u, .u, .u, .c (.int .i64 i3), .c (.int .i64 i5), .u, .u, .u, .u, .u, .u, .u, .u, .u, .u, .u, .u, .u, .u, .u, .u, .u, .u, .u, .u, .u, .u, .u, .u, .u, .u], []⟩ : St)) p) (fun p => I p) (fun p => μ p) _ h0 ?_ ?_
      · refine GSt.ren [] rfl rfl rfl (fun i hi => absurd hi (Nat.not_lt_zero i)) (Nat.zero_le _) ?_ ?_
        all_goals (repeat' (first | exact trivial | exact Or.inl rfl | exact Or.inr rfl | refine And.intro ?_ ?_))
      · rintro i5 h
        replace h := hI i5 h
        cbv
        refine ⟨fun hb9 => ?_, fun hb9 => ?_⟩
        · replace h := h.t hb9
          have c10 := h.1
          refine ⟨c10, ?_⟩
          replace h := h.2
          refine ⟨hb8, ?_⟩
          have c11 := h.1
          refine ⟨c11, ?_⟩
          replace h := h.2
          refine ⟨hb9, ?_⟩
          have c12 := h.1
          refine ⟨c12, ?_⟩
          replace h := h.2 _ rfl
          refine ⟨fun hb13 => ?_, fun hb13 => ?_⟩
          · replace h := h.t hb13
            have h : _ = row := h
            subst h
            repeat' (first | exact trivial | exact rfl | refine And.intro ?_ ?_)
          · replace h := h.f hb13
            refine ⟨_, h.1, GSt.ren [] rfl rfl rfl (fun i hi => absurd hi (Nat.not_lt_zero i)) (Nat.zero_le _) ?_ ?_, h.2⟩
            all_goals (repeat' (first | exact trivial | exact Or.inl rfl | exact Or.inr rfl | refine And.intro ?_ ?_))
        · replace h := h.f hb9
          refine ⟨_, h.1, GSt.ren [] rfl rfl rfl (fun i hi => absurd hi (Nat.not_lt_zero i)) (Nat.zero_le _) ?_ ?_, h.2⟩
          all_goals (repeat' (first | exact trivial | exact Or.inl rfl | exact Or.inr rfl | refine And.intro ?_ ?_))
    · replace h := h.f hb8
      have h : _ = row := h
      subst h
      repeat' (first | exact trivial | exact rfl | refine And.intro ?_ ?_)
def vc11 (E : Env) (x1 : List (List C)) (x2 : Int) (Q : List C → Prop) : Prop :=
  (E.pok 13 [(false, [.int .i64])] [.c (.sl [.int .i64, .int .i64, .int .i64, .int .i64, .int .i64, .int .i64] x1)]) ∧ (∀ r3 : Nat → C, r3 = E.res 13 [.c (.sl [.int .i64, .int .i64, .int .i64, .int .i64, .int .i64, .int .i64] x1)] → 
  (Br (E.not (E.eq (E.gi (r3 0)) 0))
  (Q [.sl [.int .i64, .int .i64, .int .i64, .int .i64, .int .i64, .int .i64] [], .int .i64 (E.gi (r3 0))])
  (Br (E.bite (E.lt x2 0) true (E.lt 12000 x2))
    (Q [.sl [.int .i64, .int .i64, .int .i64, .int .i64, .int .i64, .int .i64] [], .int .i64 1])
    (spClone (x1) (
      (E.pok 32 [(false, [.int .i64]), (false, [.int .i64]), (false, [.bool])] [.c (.sl [.int .i64, .int .i64, .int .i64, .int .i64, .int .i64, .int .i64] x1), .c (.int .i64 x2)]) ∧ (∀ r4 : Nat → C, r4 = E.res 32 [.c (.sl [.int .i64, .int .i64, .int .i64, .int .i64, .int .i64, .int .i64] x1), .c (.int .i64 x2)] → 
        (LoopP5 (fun (l5 : List (List C)) (i6 : Int) (i7 : Int) (i8 : Int) (b9 : Bool) (K10 : (List (List C)) → (Int) → (Int) → (Int) → (Bool) → Prop) =>
        Br b9
          (((E.le 0 i7) = true) ∧ ((E.lt i7 i6) = true) ∧ 
            (((E.le 0 i8) = true) ∧ ((E.lt i8 i6) = true) ∧ 
            ((E.pok 33 [(true, [.int .i64, .int .i64, .int .i64, .int .i64, .int .i64, .int .i64])] [.agg [.c (.int .i64 (E.gi (E.cell l5 (E.pl 0 i7) 0))), .c (.int .i64 (E.gi (E.cell l5 (E.pl 0 i7) 1))), .c (.int .i64 (E.gi (E.cell l5 (E.pl 0 i7) 2))), .c (.int .i64 (E.gi (E.cell l5 (E.pl 0 i7) 3))), .c (.int .i64 (E.gi (E.cell l5 (E.pl 0 i7) 4))), .c (.int .i64 (E.gi (E.cell l5 (E.pl 0 i7) 5)))], .agg [.c (.int .i64 (E.gi (E.cell l5 (E.pl 0 i8) 0))), .c (.int .i64 (E.gi (E.cell l5 (E.pl 0 i8) 1))), .c (.int .i64 (E.gi (E.cell l5 (E.pl 0 i8) 2))), .c (.int .i64 (E.gi (E.cell l5 (E.pl 0 i8) 3))), .c (.int .i64 (E.gi (E.cell l5 (E.pl 0 i8) 4))), .c (.int .i64 (E.gi (E.cell l5 (E.pl 0 i8) 5)))]]) ∧ (∀ r11 : Nat → C, r11 = E.res 33 [.agg [.c (.int .i64 (E.gi (E.cell l5 (E.pl 0 i7) 0))), .c (.int .i64 (E.gi (E.cell l5 (E.pl 0 i7) 1))), .c (.int .i64 (E.gi (E.cell l5 (E.pl 0 i7) 2))), .c (.int .i64 (E.gi (E.cell l5 (E.pl 0 i7) 3))), .c (.int .i64 (E.gi (E.cell l5 (E.pl 0 i7) 4))), .c (.int .i64 (E.gi (E.cell l5 (E.pl 0 i7) 5)))], .agg [.c (.int .i64 (E.gi (E.cell l5 (E.pl 0 i8) 0))), .c (.int .i64 (E.gi (E.cell l5 (E.pl 0 i8) 1))), .c (.int .i64 (E.gi (E.cell l5 (E.pl 0 i8) 2))), .c (.int .i64 (E.gi (E.cell l5 (E.pl 0 i8) 3))), .c (.int .i64 (E.gi (E.cell l5 (E.pl 0 i8) 4))), .c (.int .i64 (E.gi (E.cell l5 (E.pl 0 i8) 5)))]] → 
            (spDelete ((E.upd (E.upd (E.upd (E.upd (E.upd (E.upd l5 (E.pl 0 i7) 5 (.int .i64 (E.gi (r11 5)))) (E.pl 0 i7) 4 (.int .i64 (E.gi (r11 4)))) (E.pl 0 i7) 3 (.int .i64 (E.gi (r11 3)))) (E.pl 0 i7) 2 (.int .i64 (E.gi (r11 2)))) (E.pl 0 i7) 1 (.int .i64 (E.gi (r11 1)))) (E.pl 0 i7) 0 (.int .i64 (E.gi (r11 0))))) (i6) (i8) ((E.add .i64 i8 1)) (fun (l12 : List (List C)) (i13 : Int) => 
            (E.pok 32 [(false, [.int .i64]), (false, [.int .i64]), (false, [.bool])] [.c (.sl [.int .i64, .int .i64, .int .i64, .int .i64, .int .i64, .int .i64] (E.cut l12 0 (E.pl 0 i13))), .c (.int .i64 x2)]) ∧ (∀ r14 : Nat → C, r14 = E.res 32 [.c (.sl [.int .i64, .int .i64, .int .i64, .int .i64, .int .i64, .int .i64] (E.cut l12 0 (E.pl 0 i13))), .c (.int .i64 x2)] → 
              (K10 (l12) (i13) ((E.gi (r14 0))) ((E.gi (r14 1))) ((E.gb (r14 2)))))))))))
          (Q [.sl [.int .i64, .int .i64, .int .i64, .int .i64, .int .i64, .int .i64] (E.cut l5 0 (E.pl 0 i6)), .int .i64 0]))
        (x1) ((x1.length : Int)) ((E.gi (r4 0))) ((E.gi (r4 1))) ((E.gb (r4 2))))))))))
theorem w11 {P : Program} {tbl : FuncId → List A → List C} (ce31 : CloneC 38 [.int .i64, .int .i64, .int .i64, .int .i64, .int .i64, .int .i64] P 31) (ce34 : DeleteC 38 [.int .i64, .int .i64, .int .i64, .int .i64, .int .i64, .int .i64] P 34) {x1 : List (List C)} {x2 : Int} {row : List C} (h : vc11 (stdE P tbl) x1 x2 fun c => c = row) : WPg P tbl rf11 [(false, [.sl [.int .i64, .int .i64, .int .i64, .int .i64, .int .i64, .int .i64]]), (false, [.int .i64])] row [.c (.sl [.int .i64, .int .i64, .int .i64, .int .i64, .int .i64, .int .i64] x1), .c (.int .i64 x2)] := by
  refine ⟨?_⟩
  revert h
  generalize hE : stdE P tbl = E
  intro h
  unfold vc11 at h
  cbv
  have c15 := h.1
  refine ⟨c15, ?_⟩
  replace h := h.2 _ rfl
  refine ⟨fun hb16 => ?_, fun hb16 => ?_⟩
  · replace h := h.t hb16
    have h : _ = row := h
    subst h
    repeat' (first | exact trivial | exact rfl | refine And.intro ?_ ?_)
  · replace h := h.f hb16
    refine ⟨⟨fun hh => hh⟩, ?_⟩
    refine ⟨⟨fun hh => hh⟩, ?_⟩
    refine ⟨fun hb17 => ?_, fun hb17 => ?_⟩
    · replace h := h.t hb17
      have h : _ = row := h
      subst h
      repeat' (first | exact trivial | exact rfl | refine And.intro ?_ ?_)
    · replace h := h.f hb17
      refine HCall.mk ce31.1 ((ACalls.frame (ce31.2 _ _ h) (H := _) (tgt := []) rfl (by decide) ?_).mono fun r H' hq => ?_)
      · intro i o ho
        cases ho
      obtain ⟨r1, H1', ⟨h, rfl, rfl⟩, _, rfl, rfl⟩ := hq
      cbv
      have c18 := h.1
      refine ⟨c18, ?_⟩
      replace h := h.2 _ rfl
      obtain ⟨I, μ, h0, hI⟩ := h
      refine LoopW.inv (fun R R' s h k => RCode.wp_mono _ R R' s h k) (fun p : List (List C) × Int × Int × Int × Bool => (fun (l5 : List (List C)) (i6 : Int) (i7 : Int) (i8 : Int) (b9 : Bool) => (⟨[.u, .c (.int .i64 x2), .u, .u, .u, .u, .u, .own 0 0 i6, .c (.int .i64 i7), .c (.int .i64 i8), .c (.bool b9), .u, .u, .u, .u, .u, .u, .u, .u, .u, .u, .u, .u, .u, .u, .u, .u, .u, .u, .u, .u, .u, .u, .u, .u, .u, .u, .u, .u, .u, .u, .u, .u, .u, .u, .u, .u, .u, .u, .u, .u, .u, .u, .u, .u, .u, .u], [.arr 38 [.int .i64, .int .i64, .int .i64, .int .i64, .int .i64, .int .i64] l5]⟩ : St)) p.1 p.2.1 p.2.2.1 p.2.2.2.1 p.2.2.2.2) (fun p => I p.1 p.2.1 p.2.2.1 p.2.2.2.1 p.2.2.2.2) (fun p => μ p.1 p.2.1 p.2.2.1 p.2.2.2.1 p.2.2.2.2) (_, _, _, _, _) h0 ?_ ?_
      · refine GSt.trans (GSt.grOwn 7 rfl rfl) (GSt.ren [0] rfl rfl rfl (fun i hi => absurd hi (Nat.not_lt_zero i)) (Nat.zero_le _) ?_ ?_)
        all_goals (repeat' (first | exact trivial | exact Or.inl rfl | exact Or.inr rfl | refine And.intro ?_ ?_))
      · rintro ⟨l5, i6, i7, i8, b9⟩ h
        replace h := hI l5 i6 i7 i8 b9 h
        cbv
        refine ⟨fun hb19 => ?_, fun hb19 => ?_⟩
        · replace h := h.t hb19
          have c20 := h.1
          refine ⟨c20, ?_⟩
          replace h := h.2
          have c21 := h.1
          refine ⟨c21, ?_⟩
          replace h := h.2
          have c22 := h.1
          refine ⟨c22, ?_⟩
          replace h := h.2
          have c23 := h.1
          refine ⟨c23, ?_⟩
          replace h := h.2
          have c24 := h.1
          refine ⟨c24, ?_⟩
          replace h := h.2 _ rfl
          refine ⟨c20, ?_⟩
          refine ⟨c21, ?_⟩
          refine HCall.mk ce34.1 ((ACalls.frame (ce34.2 _ _ _ _ _ h) (H := _) (tgt := [0]) rfl (by decide) ?_).mono fun r H' hq => ?_)
          · intro i o ho
            match i, ho with
            | 0, ho => cases ho; rfl
          obtain ⟨r1, H1', ⟨l12, i13, h, rfl, rfl⟩, _, rfl, rfl⟩ := hq
          cbv
          have c25 := h.1
          refine ⟨c25, ?_⟩
          replace h := h.2 _ rfl
          refine ⟨(_, _, _, _, _), h.1, GSt.ren [0] rfl rfl rfl (fun i hi => absurd hi (Nat.not_lt_zero i)) (Nat.zero_le _) ?_ ?_, h.2⟩
          all_goals (repeat' (first | exact trivial | exact Or.inl rfl | exact Or.inr rfl | refine And.intro ?_ ?_))
        · replace h := h.f hb19
          have h : _ = row := h
          subst h
          repeat' (first | exact trivial | exact rfl | refine And.intro ?_ ?_)
def vc12 (E : Env) (x1 : List (List C)) (x2 : Int) (Q : List C → Prop) : Prop :=
  (E.pok 14 [(false, [.int .i64])] [.c (.sl [.int .i64, .int .i64, .int .i64, .int .i64, .int .i64, .int .i64] x1)]) ∧ (∀ r3 : Nat → C, r3 = E.res 14 [.c (.sl [.int .i64, .int .i64, .int .i64, .int .i64, .int .i64, .int .i64] x1)] → 
  (Br (E.not (E.eq (E.gi (r3 0)) 0))
  (Q [.sl [.int .i64, .int .i64, .int .i64, .int .i64, .int .i64, .int .i64] [], .int .i64 (E.gi (r3 0))])
  (Br (E.bite (E.lt x2 0) true (E.lt 12000 x2))
    (Q [.sl [.int .i64, .int .i64, .int .i64, .int .i64, .int .i64, .int .i64] [], .int .i64 1])
    (((E.le (E.len x1) 2932031007402) = true) ∧ 
      (LoopP1 (fun (l4 : List (List C)) (K5 : (List (List C)) → Prop) =>
      (E.pok 35 [(false, [.int .i64]), (false, [.int .i64]), (false, [.bool])] [.c (.sl [.int .i64, .int .i64, .int .i64, .int .i64, .int .i64, .int .i64] l4), .c (.int .i64 x2)]) ∧ (∀ r6 : Nat → C, r6 = E.res 35 [.c (.sl [.int .i64, .int .i64, .int .i64, .int .i64, .int .i64, .int .i64] l4), .c (.int .i64 x2)] → 
        (Br (E.not (E.gb (r6 2)))
        (Q [.sl [.int .i64, .int .i64, .int .i64, .int .i64, .int .i64, .int .i64] l4, .int .i64 0])
        (((E.le 0 (E.gi (r6 0))) = true) ∧ ((E.lt (E.gi (r6 0)) (E.len l4)) = true) ∧ 
          (((E.le 0 (E.gi (r6 1))) = true) ∧ ((E.lt (E.gi (r6 1)) (E.len l4)) = true) ∧ 
          ((E.pok 36 [(true, [.int .i64, .int .i64, .int .i64, .int .i64, .int .i64, .int .i64])] [.agg [.c (.int .i64 (E.gi (E.cell l4 (E.gi (r6 0)) 0))), .c (.int .i64 (E.gi (E.cell l4 (E.gi (r6 0)) 1))), .c (.int .i64 (E.gi (E.cell l4 (E.gi (r6 0)) 2))), .c (.int .i64 (E.gi (E.cell l4 (E.gi (r6 0)) 3))), .c (.int .i64 (E.gi (E.cell l4 (E.gi (r6 0)) 4))), .c (.int .i64 (E.gi (E.cell l4 (E.gi (r6 0)) 5)))], .agg [.c (.int .i64 (E.gi (E.cell l4 (E.gi (r6 1)) 0))), .c (.int .i64 (E.gi (E.cell l4 (E.gi (r6 1)) 1))), .c (.int .i64 (E.gi (E.cell l4 (E.gi (r6 1)) 2))), .c (.int .i64 (E.gi (E.cell l4 (E.gi (r6 1)) 3))), .c (.int .i64 (E.gi (E.cell l4 (E.gi (r6 1)) 4))), .c (.int .i64 (E.gi (E.cell l4 (E.gi (r6 1)) 5)))]]) ∧ (∀ r7 : Nat → C, r7 = E.res 36 [.agg [.c (.int .i64 (E.gi (E.cell l4 (E.gi (r6 0)) 0))), .c (.int .i64 (E.gi (E.cell l4 (E.gi (r6 0)) 1))), .c (.int .i64 (E.gi (E.cell l4 (E.gi (r6 0)) 2))), .c (.int .i64 (E.gi (E.cell l4 (E.gi (r6 0)) 3))), .c (.int .i64 (E.gi (E.cell l4 (E.gi (r6 0)) 4))), .c (.int .i64 (E.gi (E.cell l4 (E.gi (r6 0)) 5)))], .agg [.c (.int .i64 (E.gi (E.cell l4 (E.gi (r6 1)) 0))), .c (.int .i64 (E.gi (E.cell l4 (E.gi (r6 1)) 1))), .c (.int .i64 (E.gi (E.cell l4 (E.gi (r6 1)) 2))), .c (.int .i64 (E.gi (E.cell l4 (E.gi (r6 1)) 3))), .c (.int .i64 (E.gi (E.cell l4 (E.gi (r6 1)) 4))), .c (.int .i64 (E.gi (E.cell l4 (E.gi (r6 1)) 5)))]] → 
          (((E.le 0 0) = true) ∧ ((E.le (E.gi (r6 1)) (E.len (E.upd (E.upd (E.upd (E.upd (E.upd (E.upd l4 (E.gi (r6 0)) 5 (.int .i64 (E.gi (r7 5)))) (E.gi (r6 0)) 4 (.int .i64 (E.gi (r7 4)))) (E.gi (r6 0)) 3 (.int .i64 (E.gi (r7 3)))) (E.gi (r6 0)) 2 (.int .i64 (E.gi (r7 2)))) (E.gi (r6 0)) 1 (.int .i64 (E.gi (r7 1)))) (E.gi (r6 0)) 0 (.int .i64 (E.gi (r7 0)))))) = true) ∧ 
          (((E.le (E.len (E.cut (E.upd (E.upd (E.upd (E.upd (E.upd (E.upd l4 (E.gi (r6 0)) 5 (.int .i64 (E.gi (r7 5)))) (E.gi (r6 0)) 4 (.int .i64 (E.gi (r7 4)))) (E.gi (r6 0)) 3 (.int .i64 (E.gi (r7 3)))) (E.gi (r6 0)) 2 (.int .i64 (E.gi (r7 2)))) (E.gi (r6 0)) 1 (.int .i64 (E.gi (r7 1)))) (E.gi (r6 0)) 0 (.int .i64 (E.gi (r7 0)))) 0 (E.pl 0 (E.mi (E.gi (r6 1)) 0)))) 2932031007402) = true) ∧ 
          (((E.le 0 (E.add .i64 (E.gi (r6 1)) 1)) = true) ∧ ((E.le (E.add .i64 (E.gi (r6 1)) 1) (E.len (E.upd (E.upd (E.upd (E.upd (E.upd (E.upd l4 (E.gi (r6 0)) 5 (.int .i64 (E.gi (r7 5)))) (E.gi (r6 0)) 4 (.int .i64 (E.gi (r7 4)))) (E.gi (r6 0)) 3 (.int .i64 (E.gi (r7 3)))) (E.gi (r6 0)) 2 (.int .i64 (E.gi (r7 2)))) (E.gi (r6 0)) 1 (.int .i64 (E.gi (r7 1)))) (E.gi (r6 0)) 0 (.int .i64 (E.gi (r7 0)))))) = true) ∧ ((E.le (E.len (E.upd (E.upd (E.upd (E.upd (E.upd (E.upd l4 (E.gi (r6 0)) 5 (.int .i64 (E.gi (r7 5)))) (E.gi (r6 0)) 4 (.int .i64 (E.gi (r7 4)))) (E.gi (r6 0)) 3 (.int .i64 (E.gi (r7 3)))) (E.gi (r6 0)) 2 (.int .i64 (E.gi (r7 2)))) (E.gi (r6 0)) 1 (.int .i64 (E.gi (r7 1)))) (E.gi (r6 0)) 0 (.int .i64 (E.gi (r7 0))))) (E.len (E.upd (E.upd (E.upd (E.upd (E.upd (E.upd l4 (E.gi (r6 0)) 5 (.int .i64 (E.gi (r7 5)))) (E.gi (r6 0)) 4 (.int .i64 (E.gi (r7 4)))) (E.gi (r6 0)) 3 (.int .i64 (E.gi (r7 3)))) (E.gi (r6 0)) 2 (.int .i64 (E.gi (r7 2)))) (E.gi (r6 0)) 1 (.int .i64 (E.gi (r7 1)))) (E.gi (r6 0)) 0 (.int .i64 (E.gi (r7 0)))))) = true) ∧ 
          (((E.le (E.pl (E.len (E.cut (E.upd (E.upd (E.upd (E.upd (E.upd (E.upd l4 (E.gi (r6 0)) 5 (.int .i64 (E.gi (r7 5)))) (E.gi (r6 0)) 4 (.int .i64 (E.gi (r7 4)))) (E.gi (r6 0)) 3 (.int .i64 (E.gi (r7 3)))) (E.gi (r6 0)) 2 (.int .i64 (E.gi (r7 2)))) (E.gi (r6 0)) 1 (.int .i64 (E.gi (r7 1)))) (E.gi (r6 0)) 0 (.int .i64 (E.gi (r7 0)))) 0 (E.pl 0 (E.mi (E.gi (r6 1)) 0)))) (E.len (E.cut (E.upd (E.upd (E.upd (E.upd (E.upd (E.upd l4 (E.gi (r6 0)) 5 (.int .i64 (E.gi (r7 5)))) (E.gi (r6 0)) 4 (.int .i64 (E.gi (r7 4)))) (E.gi (r6 0)) 3 (.int .i64 (E.gi (r7 3)))) (E.gi (r6 0)) 2 (.int .i64 (E.gi (r7 2)))) (E.gi (r6 0)) 1 (.int .i64 (E.gi (r7 1)))) (E.gi (r6 0)) 0 (.int .i64 (E.gi (r7 0)))) (E.add .i64 (E.gi (r6 1)) 1) (E.pl (E.add .i64 (E.gi (r6 1)) 1) (E.mi (E.len (E.upd (E.upd (E.upd (E.upd (E.upd (E.upd l4 (E.gi (r6 0)) 5 (.int .i64 (E.gi (r7 5)))) (E.gi (r6 0)) 4 (.int .i64 (E.gi (r7 4)))) (E.gi (r6 0)) 3 (.int .i64 (E.gi (r7 3)))) (E.gi (r6 0)) 2 (.int .i64 (E.gi (r7 2)))) (E.gi (r6 0)) 1 (.int .i64 (E.gi (r7 1)))) (E.gi (r6 0)) 0 (.int .i64 (E.gi (r7 0))))) (E.add .i64 (E.gi (r6 1)) 1)))))) 2932031007402) = true) ∧ 
          (K5 ((E.cat (E.cut (E.upd (E.upd (E.upd (E.upd (E.upd (E.upd l4 (E.gi (r6 0)) 5 (.int .i64 (E.gi (r7 5)))) (E.gi (r6 0)) 4 (.int .i64 (E.gi (r7 4)))) (E.gi (r6 0)) 3 (.int .i64 (E.gi (r7 3)))) (E.gi (r6 0)) 2 (.int .i64 (E.gi (r7 2)))) (E.gi (r6 0)) 1 (.int .i64 (E.gi (r7 1)))) (E.gi (r6 0)) 0 (.int .i64 (E.gi (r7 0)))) 0 (E.pl 0 (E.mi (E.gi (r6 1)) 0))) (E.cut (E.upd (E.upd (E.upd (E.upd (E.upd (E.upd l4 (E.gi (r6 0)) 5 (.int .i64 (E.gi (r7 5)))) (E.gi (r6 0)) 4 (.int .i64 (E.gi (r7 4)))) (E.gi (r6 0)) 3 (.int .i64 (E.gi (r7 3)))) (E.gi (r6 0)) 2 (.int .i64 (E.gi (r7 2)))) (E.gi (r6 0)) 1 (.int .i64 (E.gi (r7 1)))) (E.gi (r6 0)) 0 (.int .i64 (E.gi (r7 0)))) (E.add .i64 (E.gi (r6 1)) 1) (E.pl (E.add .i64 (E.gi (r6 1)) 1) (E.mi (E.len (E.upd (E.upd (E.upd (E.upd (E.upd (E.upd l4 (E.gi (r6 0)) 5 (.int .i64 (E.gi (r7 5)))) (E.gi (r6 0)) 4 (.int .i64 (E.gi (r7 4)))) (E.gi (r6 0)) 3 (.int .i64 (E.gi (r7 3)))) (E.gi (r6 0)) 2 (.int .i64 (E.gi (r7 2)))) (E.gi (r6 0)) 1 (.int .i64 (E.gi (r7 1)))) (E.gi (r6 0)) 0 (.int .i64 (E.gi (r7 0))))) (E.add .i64 (E.gi (r6 1)) 1))))))))))))))))))
      (x1))))))
theorem w12 {P : Program} {tbl : FuncId → List A → List C}  {x1 : List (List C)} {x2 : Int} {row : List C} (h : vc12 (stdE P tbl) x1 x2 fun c => c = row) : WPg P tbl rf12 [(false, [.sl [.int .i64, .int .i64, .int .i64, .int .i64, .int .i64, .int .i64]]), (false, [.int .i64])] row [.c (.sl [.int .i64, .int .i64, .int .i64, .int .i64, .int .i64, .int .i64] x1), .c (.int .i64 x2)] := by
  refine ⟨?_⟩
  revert h
  generalize hE : stdE P tbl = E
  intro h
  unfold vc12 at h
  cbv
  have c8 := h.1
  refine ⟨c8, ?_⟩
  replace h := h.2 _ rfl
  refine ⟨fun hb9 => ?_, fun hb9 => ?_⟩
  · replace h := h.t hb9
    have h : _ = row := h
    subst h
    repeat' (first | exact trivial | exact rfl | refine And.intro ?_ ?_)
  · replace h := h.f hb9
    refine ⟨⟨fun hh => hh⟩, ?_⟩
    refine ⟨⟨fun hh => hh⟩, ?_⟩
    refine ⟨fun hb10 => ?_, fun hb10 => ?_⟩
    · replace h := h.t hb10
      have h : _ = row := h
      subst h
      repeat' (first | exact trivial | exact rfl | refine And.intro ?_ ?_)
    · replace h := h.f hb10
      have c11 := h.1
      refine ⟨c11, ?_⟩
      replace h := h.2
      obtain ⟨I, μ, h0, hI⟩ := h
      refine LoopW.inv (fun R R' s h k => RCode.wp_mono _ R R' s h k) (fun p : List (List C) => (fun (l4 : List (List C)) => (⟨[.u, .c (.int .i64 x2), .u, .u, .u, .u, .u, .gr 0, .u, .u, .u, .u, .u, .u, .u, .u, .u, .u, .u, .u, .u, .u, .u, .u, .u, .u, .u, .u, .u, .u, .u, .u, .u, .u, .u, .u, .u, .u, .u, .u, .u, .u, .u, .u, .u, .u, .u, .u, .u, .u, .u, .u, .u, .u, .u, .u, .u, .u, .u], [.arr 38 [.int .i64, .int .i64, .int .i64, .int .i64, .int .i64, .int .i64] l4]⟩ : St)) p) (fun p => I p) (fun p => μ p) _ h0 ?_ ?_
      · refine GSt.ren [0] rfl rfl rfl (fun i hi => absurd hi (Nat.not_lt_zero i)) (Nat.zero_le _) ?_ ?_
        all_goals (repeat' (first | exact trivial | exact Or.inl rfl | exact Or.inr rfl | refine And.intro ?_ ?_))
      · rintro l4 h
        replace h := hI l4 h
        cbv
        have c12 := h.1
        refine ⟨c12, ?_⟩
        replace h := h.2 _ rfl
        refine ⟨fun hb13 => ?_, fun hb13 => ?_⟩
        · replace h := h.t hb13
          have h : _ = row := h
          subst h
          repeat' (first | exact trivial | exact rfl | refine And.intro ?_ ?_)
        · replace h := h.f hb13
          have c14 := h.1
          refine ⟨c14, ?_⟩
          replace h := h.2
          have c15 := h.1
          refine ⟨c15, ?_⟩
          replace h := h.2
          have c16 := h.1
          refine ⟨c16, ?_⟩
          replace h := h.2
          have c17 := h.1
          refine ⟨c17, ?_⟩
          replace h := h.2
          have c18 := h.1
          refine ⟨c18, ?_⟩
          replace h := h.2 _ rfl
          refine ⟨c14, ?_⟩
          refine ⟨c15, ?_⟩
          have c19 := h.1
          refine ⟨c19, ?_⟩
          replace h := h.2
          refine ⟨c16, ?_⟩
          have c20 := h.1
          refine ⟨c20, ?_⟩
          replace h := h.2
          have c21 := h.1
          refine ⟨c21, ?_⟩
          replace h := h.2
          have c22 := h.1
          refine ⟨c22, ?_⟩
          replace h := h.2
          have c23 := h.1
          refine ⟨c23, ?_⟩
          replace h := h.2
          have c24 := h.1
          refine ⟨c24, ?_⟩
          replace h := h.2
          have c25 := h.1
          refine ⟨c25, ?_⟩
          replace h := h.2
          refine ⟨_, h.1, GSt.ren [2] rfl rfl rfl (fun i hi => absurd hi (Nat.not_lt_zero i)) (Nat.zero_le _) ?_ ?_, h.2⟩
          all_goals (repeat' (first | exact trivial | exact Or.inl rfl | exact Or.inr rfl | refine And.intro ?_ ?_))
def vc15 (E : Env) (x1 : List (List C)) (x2 : List (List C)) (Q : List C → Prop) : Prop :=
  Br (E.not (E.eq (E.len x1) (E.len x2)))
  (Q [.bool false])
  (LoopP1 (fun (i3 : Int) (K4 : (Int) → Prop) =>
    Br (E.lt i3 (E.len x1))
      (((E.le 0 i3) = true) ∧ 
        (((E.lt i3 (E.len x2)) = true) ∧ 
        (Br (E.not (E.and (E.eq (E.gi (E.cell x1 i3 0)) (E.gi (E.cell x2 i3 0))) (E.and (E.eq (E.gi (E.cell x1 i3 1)) (E.gi (E.cell x2 i3 1))) (E.and (E.eq (E.gi (E.cell x1 i3 2)) (E.gi (E.cell x2 i3 2))) (E.and (E.eq (E.gi (E.cell x1 i3 3)) (E.gi (E.cell x2 i3 3))) (E.and (E.eq (E.gi (E.cell x1 i3 4)) (E.gi (E.cell x2 i3 4))) (E.and (E.eq (E.gi (E.cell x1 i3 5)) (E.gi (E.cell x2 i3 5))) true)))))))
        (Q [.bool false])
        (K4 ((E.add .i64 i3 1))))))
      (Q [.bool true]))
    (0))
theorem w15 {P : Program} {tbl : FuncId → List A → List C}  {x1 : List (List C)} {x2 : List (List C)} {row : List C} (h : vc15 (stdE P tbl) x1 x2 fun c => c = row) : WPg P tbl rf15 [(false, [.bool])] row [.c (.sl [.int .i64, .int .i64, .int .i64, .int .i64, .int .i64, .int .i64] x1), .c (.sl [.int .i64, .int .i64, .int .i64, .int .i64, .int .i64, .int .i64] x2)] := by
  refine ⟨?_⟩
  revert h
  generalize hE : stdE P tbl = E
  intro h
  unfold vc15 at h
  cbv
  refine ⟨fun hb5 => ?_, fun hb5 => ?_⟩
  · replace h := h.t hb5
    have h : _ = row := h
    subst h
    repeat' (first | exact trivial | exact rfl | refine And.intro ?_ ?_)
  · replace h := h.f hb5
    obtain ⟨I, μ, h0, hI⟩ := h
    refine LoopW.inv (fun R R' s h k => RCode.wp_mono _ R R' s h k) (fun p : Int => (fun (i3 : Int) => (⟨[.c (.sl [.int .i64, .int .i64, .int .i64, .int .i64, .int .i64, .int .i64] x1), .c (.sl [.int .i64, .int .i64, .int .i64, .int .i64, .int .i64, .int .i64] x2), .u, .u, .u, .c (.int .i64 i3), .u, .u, .u, .u, .u, .u, .u, .u, .u, .u, .u, .u, .u, .u, .u, .u, .u, .u, .u, .u], []⟩ : St)) p) (fun p => I p) (fun p => μ p) _ h0 ?_ ?_
    · refine GSt.ren [] rfl rfl rfl (fun i hi => absurd hi (Nat.not_lt_zero i)) (Nat.zero_le _) ?_ ?_
      all_goals (repeat' (first | exact trivial | exact Or.inl rfl | exact Or.inr rfl | refine And.intro ?_ ?_))
    · rintro i3 h
      replace h := hI i3 h
      cbv
      refine ⟨fun hb6 => ?_, fun hb6 => ?_⟩
      · replace h := h.t hb6
        have c7 := h.1
        refine ⟨c7, ?_⟩
        replace h := h.2
        refine ⟨hb6, ?_⟩
        refine ⟨c7, ?_⟩
        have c8 := h.1
        refine ⟨c8, ?_⟩
        replace h := h.2
        refine ⟨fun hb9 => ?_, fun hb9 => ?_⟩
        · replace h := h.t hb9
          have h : _ = row := h
          subst h
          repeat' (first | exact trivial | exact rfl | refine And.intro ?_ ?_)
        · replace h := h.f hb9
          refine ⟨_, h.1, GSt.ren [] rfl rfl rfl (fun i hi => absurd hi (Nat.not_lt_zero i)) (Nat.zero_le _) ?_ ?_, h.2⟩
          all_goals (repeat' (first | exact trivial | exact Or.inl rfl | exact Or.inr rfl | refine And.intro ?_ ?_))
      · replace h := h.f hb6
        have h : _ = row := h
        subst h
        repeat' (first | exact trivial | exact rfl | refine And.intro ?_ ?_)
def vc34 (E : Env) (x1 : List (List C)) (x2 : Int) (x3 : Int) (x4 : Int) (Q0 : (List (List C)) → (Int) → (Int) → Prop) : Prop :=
  ((E.le 0 x3) = true) ∧ ((E.le x3 x4) = true) ∧ ((E.le x4 x2) = true) ∧ ((E.le x2 x2) = true) ∧ 
  (Br (E.eq x3 x4)
  (Q0 (x1) (0) (x2))
  (((E.le 0 0) = true) ∧ ((E.le (E.pl 0 x3) (E.len x1)) = true) ∧ 
    (((E.le 0 x4) = true) ∧ ((E.le (E.pl 0 x2) (E.len x1)) = true) ∧ 
    (((E.le (E.pl (E.pl (E.pl 0 0) (E.mi x3 0)) (E.len (E.cut x1 (E.pl 0 x4) (E.pl (E.pl 0 x4) (E.mi x2 x4))))) (E.len x1)) = true) ∧ 
    (((E.le 0 (E.pl (E.mi x3 0) (E.len (E.cut x1 (E.pl 0 x4) (E.pl (E.pl 0 x4) (E.mi x2 x4)))))) = true) ∧ ((E.le (E.pl (E.mi x3 0) (E.len (E.cut x1 (E.pl 0 x4) (E.pl (E.pl 0 x4) (E.mi x2 x4))))) x2) = true) ∧ ((E.le (E.pl (E.pl 0 0) x2) (E.len (E.cat (E.cut x1 0 (E.pl (E.pl 0 0) (E.mi x3 0))) (E.cat (E.cut x1 (E.pl 0 x4) (E.pl (E.pl 0 x4) (E.mi x2 x4))) (E.cut x1 (E.pl (E.pl (E.pl 0 0) (E.mi x3 0)) (E.len (E.cut x1 (E.pl 0 x4) (E.pl (E.pl 0 x4) (E.mi x2 x4))))) (E.len x1)))))) = true) ∧ 
    (Q0 ((E.cat (E.cut (E.cat (E.cut x1 0 (E.pl (E.pl 0 0) (E.mi x3 0))) (E.cat (E.cut x1 (E.pl 0 x4) (E.pl (E.pl 0 x4) (E.mi x2 x4))) (E.cut x1 (E.pl (E.pl (E.pl 0 0) (E.mi x3 0)) (E.len (E.cut x1 (E.pl 0 x4) (E.pl (E.pl 0 x4) (E.mi x2 x4))))) (E.len x1)))) 0 (E.pl (E.pl 0 0) (E.pl (E.mi x3 0) (E.len (E.cut x1 (E.pl 0 x4) (E.pl (E.pl 0 x4) (E.mi x2 x4))))))) (E.cat (E.rep (E.mi x2 (E.pl (E.mi x3 0) (E.len (E.cut x1 (E.pl 0 x4) (E.pl (E.pl 0 x4) (E.mi x2 x4)))))) [.int .i64 0, .int .i64 0, .int .i64 0, .int .i64 0, .int .i64 0, .int .i64 0]) (E.cut (E.cat (E.cut x1 0 (E.pl (E.pl 0 0) (E.mi x3 0))) (E.cat (E.cut x1 (E.pl 0 x4) (E.pl (E.pl 0 x4) (E.mi x2 x4))) (E.cut x1 (E.pl (E.pl (E.pl 0 0) (E.mi x3 0)) (E.len (E.cut x1 (E.pl 0 x4) (E.pl (E.pl 0 x4) (E.mi x2 x4))))) (E.len x1)))) (E.pl (E.pl (E.pl 0 0) (E.pl (E.mi x3 0) (E.len (E.cut x1 (E.pl 0 x4) (E.pl (E.pl 0 x4) (E.mi x2 x4)))))) (E.mi x2 (E.pl (E.mi x3 0) (E.len (E.cut x1 (E.pl 0 x4) (E.pl (E.pl 0 x4) (E.mi x2 x4))))))) (E.len (E.cat (E.cut x1 0 (E.pl (E.pl 0 0) (E.mi x3 0))) (E.cat (E.cut x1 (E.pl 0 x4) (E.pl (E.pl 0 x4) (E.mi x2 x4))) (E.cut x1 (E.pl (E.pl (E.pl 0 0) (E.mi x3 0)) (E.len (E.cut x1 (E.pl 0 x4) (E.pl (E.pl 0 x4) (E.mi x2 x4))))) (E.len x1))))))))) ((E.pl 0 0)) ((E.pl (E.mi x3 0) (E.len (E.cut x1 (E.pl 0 x4) (E.pl (E.pl 0 x4) (E.mi x2 x4))))))))))))
theorem w34 {P : Program} {tbl : FuncId → List A → List C}  {x1 : List (List C)} {x2 : Int} {x3 : Int} {x4 : Int} {Q0 : (List (List C)) → (Int) → (Int) → Prop} (h : vc34 (stdE P tbl) x1 x2 x3 x4 Q0) : WEg P tbl rf34 (fun r H' => (∃ l1 : List (List C), ∃ i2 : Int, ∃ i3 : Int, Q0 l1 i2 i3 ∧ r = .own 0 i2 i3 ∧ H' = [.arr 38 [.int .i64, .int .i64, .int .i64, .int .i64, .int .i64, .int .i64] l1])) [.own 0 0 x2, .c (.int .i64 x3), .c (.int .i64 x4)] [.arr 38 [.int .i64, .int .i64, .int .i64, .int .i64, .int .i64, .int .i64] x1] := by
  refine ⟨?_⟩
  revert h
  generalize hE : stdE P tbl = E
  intro h
  unfold vc34 at h
  cbv
  have c4 := h.1
  refine ⟨c4, ?_⟩
  replace h := h.2
  have c5 := h.1
  refine ⟨c5, ?_⟩
  replace h := h.2
  have c6 := h.1
  refine ⟨c6, ?_⟩
  replace h := h.2
  have c7 := h.1
  refine ⟨c7, ?_⟩
  replace h := h.2
  refine ⟨fun hb8 => ?_, fun hb8 => ?_⟩
  · replace h := h.t hb8
    refine ⟨_, _, GFin.of (GSt.ren [0] rfl rfl rfl (by decide) (Nat.le_add_left _ _) ?_ ?_), ⟨_, _, _, h, rfl, rfl⟩⟩
    all_goals (repeat' (first | exact trivial | exact Or.inl rfl | exact Or.inr rfl | refine And.intro ?_ ?_))
  · replace h := h.f hb8
    have c9 := h.1
    refine ⟨c9, ?_⟩
    replace h := h.2
    refine ⟨c4, ?_⟩
    have c10 := h.1
    refine ⟨c10, ?_⟩
    replace h := h.2
    have c11 := h.1
    refine ⟨c11, ?_⟩
    replace h := h.2
    refine ⟨c6, ?_⟩
    have c12 := h.1
    refine ⟨c12, ?_⟩
    replace h := h.2
    have c13 := h.1
    refine ⟨c13, ?_⟩
    replace h := h.2
    have c14 := h.1
    refine ⟨c14, ?_⟩
    replace h := h.2
    have c15 := h.1
    refine ⟨c15, ?_⟩
    replace h := h.2
    have c16 := h.1
    refine ⟨c16, ?_⟩
    replace h := h.2
    refine ⟨_, _, GFin.of (GSt.ren [0] rfl rfl rfl (by decide) (Nat.le_add_left _ _) ?_ ?_), ⟨_, _, _, h, rfl, rfl⟩⟩
    all_goals (repeat' (first | exact trivial | exact Or.inl rfl | exact Or.inr rfl | refine And.intro ?_ ?_))
def vc3 (E : Env) (x1 : List (List C)) (x2 : Int) (Q : List C → Prop) : Prop :=
  Br (E.lt 140 (E.len x1))
  ((E.pok 10 [(false, [.bool])] []) ∧ (∀ r3 : Nat → C, r3 = E.res 10 [] → 
    (Q [.bool (E.gb (r3 0))])))
  ((E.pok 11 [(false, [.sl [.int .i64, .int .i64, .int .i64, .int .i64, .int .i64, .int .i64]]), (false, [.int .i64])] [.c (.sl [.int .i64, .int .i64, .int .i64, .int .i64, .int .i64, .int .i64] x1), .c (.int .i64 x2)]) ∧ (∀ r4 : Nat → C, r4 = E.res 11 [.c (.sl [.int .i64, .int .i64, .int .i64, .int .i64, .int .i64, .int .i64] x1), .c (.int .i64 x2)] → 
    ((E.pok 12 [(false, [.sl [.int .i64, .int .i64, .int .i64, .int .i64, .int .i64, .int .i64]]), (false, [.int .i64])] [.c (.sl [.int .i64, .int .i64, .int .i64, .int .i64, .int .i64, .int .i64] x1), .c (.int .i64 x2)]) ∧ (∀ r5 : Nat → C, r5 = E.res 12 [.c (.sl [.int .i64, .int .i64, .int .i64, .int .i64, .int .i64, .int .i64] x1), .c (.int .i64 x2)] → 
    ((E.pok 13 [(false, [.int .i64])] [.c (.sl [.int .i64, .int .i64, .int .i64, .int .i64, .int .i64, .int .i64] x1)]) ∧ (∀ r6 : Nat → C, r6 = E.res 13 [.c (.sl [.int .i64, .int .i64, .int .i64, .int .i64, .int .i64, .int .i64] x1)] → 
    ((E.pok 14 [(false, [.int .i64])] [.c (.sl [.int .i64, .int .i64, .int .i64, .int .i64, .int .i64, .int .i64] x1)]) ∧ (∀ r7 : Nat → C, r7 = E.res 14 [.c (.sl [.int .i64, .int .i64, .int .i64, .int .i64, .int .i64, .int .i64] x1)] → 
    ((Imp (E.eq (E.gi (r6 0)) (E.gi (r7 0))) (E.pok 15 [(false, [.bool])] [.c (.sl [.int .i64, .int .i64, .int .i64, .int .i64, .int .i64, .int .i64] (E.gl (r4 0))), .c (.sl [.int .i64, .int .i64, .int .i64, .int .i64, .int .i64, .int .i64] (E.gl (r5 0)))])) ∧ (∀ r8 : Nat → C, r8 = E.res 15 [.c (.sl [.int .i64, .int .i64, .int .i64, .int .i64, .int .i64, .int .i64] (E.gl (r4 0))), .c (.sl [.int .i64, .int .i64, .int .i64, .int .i64, .int .i64, .int .i64] (E.gl (r5 0)))] → 
    ((Imp (E.bite (E.bite (E.eq (E.gi (r6 0)) (E.gi (r7 0))) (E.gb (r8 0)) false) (E.eq (E.gi (r4 1)) (E.gi (r5 1))) false) (E.pok 10 [(false, [.bool])] [])) ∧ (∀ r9 : Nat → C, r9 = E.res 10 [] → 
    (Q [.bool (E.bite (E.bite (E.bite (E.eq (E.gi (r6 0)) (E.gi (r7 0))) (E.gb (r8 0)) false) (E.eq (E.gi (r4 1)) (E.gi (r5 1))) false) (E.gb (r9 0)) false)])))))))))))))
theorem w3 {P : Program} {tbl : FuncId → List A → List C}  {x1 : List (List C)} {x2 : Int} {row : List C} (h : vc3 (stdE P tbl) x1 x2 fun c => c = row) : WPg P tbl rf3 [(false, [.bool])] row [.c (.sl [.int .i64, .int .i64, .int .i64, .int .i64, .int .i64, .int .i64] x1), .c (.int .i64 x2)] := by
  refine ⟨?_⟩
  revert h
  generalize hE : stdE P tbl = E
  intro h
  unfold vc3 at h
  cbv
  refine ⟨fun hb10 => ?_, fun hb10 => ?_⟩
  · replace h := h.t hb10
    have c11 := h.1
    refine ⟨c11, ?_⟩
    replace h := h.2 _ rfl
    have h : _ = row := h
    subst h
    repeat' (first | exact trivial | exact rfl | refine And.intro ?_ ?_)
  · replace h := h.f hb10
    have c12 := h.1
    refine ⟨c12, ?_⟩
    replace h := h.2 _ rfl
    have c13 := h.1
    refine ⟨c13, ?_⟩
    replace h := h.2 _ rfl
    have c14 := h.1
    refine ⟨c14, ?_⟩
    replace h := h.2 _ rfl
    have c15 := h.1
    refine ⟨c15, ?_⟩
    replace h := h.2 _ rfl
    refine ⟨⟨fun hh => hh⟩, ?_⟩
    refine ⟨⟨fun hh => hh⟩, ?_⟩
    have c16 := h.1
    refine ⟨c16, ?_⟩
    replace h := h.2 _ rfl
    refine ⟨⟨fun hh => hh⟩, ?_⟩
    refine ⟨⟨fun hh => hh⟩, ?_⟩
    refine ⟨⟨fun hh => hh⟩, ?_⟩
    refine ⟨⟨fun hh => hh⟩, ?_⟩
    have c17 := h.1
    refine ⟨c17, ?_⟩
    replace h := h.2 _ rfl
    refine ⟨⟨fun hh => hh⟩, ?_⟩
    have h : _ = row := h
    subst h
    repeat' (first | exact trivial | exact rfl | refine And.intro ?_ ?_)
end Go.Proofs.Ytkdapoipnkpbeaa.V
