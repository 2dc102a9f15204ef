/- Knives: the walks of what the statements share. No conditions. -/
import Derived.Test.YtjmgphobpgajbaaSeq3
set_option linter.unusedVariables false
set_option linter.unusedSimpArgs false
namespace Go.Proofs.Ytjmgphobpgajbaa.V
open Go Go.Eng
set_option maxRecDepth 1000000
set_option maxHeartbeats 4000000
/-- papermill papermilllaw49.light -/
def rf10 : RFn := ⟨(.seq (.ops 1 [⟨(some 2), (.v (.box 0 24 (.t 0))), none, []⟩, ⟨(some 4), (.v (.mv (.k (.c (.bool false))))), none, []⟩]) (.seq (.seq (.ops 0 [⟨(some 6), (.v (.fa 4 (.t 2))), none, []⟩, ⟨(some 7), (.v (.ld (.t 6))), none, []⟩, ⟨(some 8), (.v (.lenS (.t 7))), none, []⟩, ⟨(some 9), (.v (.bin .gtr (.t 8) (.k (.c (.int .i64 20))))), none, []⟩, ⟨(some 10), (.v (.mv (.t 9))), none, []⟩, ⟨(some 11), (.v (.mv (.t 1))), (some ⟨10, false⟩), [(.t 1)]⟩, ⟨(some 12), (.v (.lenS (.t 11))), (some ⟨10, false⟩), [(.t 11)]⟩, ⟨(some 13), (.v (.bin .gtr (.t 12) (.k (.c (.int .i64 20))))), (some ⟨10, false⟩), [(.t 12), (.k (.c (.int .i64 20)))]⟩, ⟨(some 14), (.v (.pick (.t 10) (.k (.c (.bool true))) (.t 13))), none, []⟩]) (.cond (.t 14) (.seq (.ops 0 [⟨(some 4), (.v (.mv (.k (.c (.bool false))))), none, []⟩]) .ret) .skip)) (.seq (.seq (.ops 0 [⟨(some 5), (.v (.mv (.k (.c (.int .i64 0))))), none, []⟩]) (.block 0 (.loop (.seq (.seq (.ops 0 [⟨(some 15), (.v (.mv (.t 5))), none, []⟩, ⟨(some 16), (.v (.mv (.t 1))), none, []⟩, ⟨(some 17), (.v (.lenS (.t 16))), none, []⟩, ⟨(some 18), (.v (.bin .lss (.t 15) (.t 17))), none, []⟩]) (.cond (.t 18) .skip (.exit 0))) (.seq (.block 1 (.seq (.ops 0 [⟨(some 21), (.v (.mv (.t 1))), none, []⟩, ⟨(some 22), (.v (.mv (.t 5))), none, []⟩, ⟨(some 23), (.v (.ia 1 (.t 21) (.t 22))), none, []⟩, ⟨(some 24), (.v (.ld (.t 23))), none, []⟩, ⟨(some 25), (.v (.lenS (.t 24))), none, []⟩, ⟨(some 26), (.v (.bin .gtr (.t 25) (.k (.c (.int .i64 20))))), none, []⟩]) (.cond (.t 26) (.seq (.ops 0 [⟨(some 4), (.v (.mv (.k (.c (.bool false))))), none, []⟩]) .ret) .skip))) (.ops 0 [⟨(some 19), (.v (.mv (.t 5))), none, []⟩, ⟨(some 20), (.v (.bin .add (.t 19) (.k (.c (.int .i64 1))))), none, []⟩, ⟨(some 5), (.v (.mv (.t 20))), none, []⟩])))))) (.seq (.ops 0 [⟨(some 4), (.v (.mv (.k (.c (.bool true))))), none, []⟩]) .ret)))), 27, [(.t 4)]⟩
theorem h10 : fnR Try.prog DD 10 = some rf10 := by kernel_rfl
/-- papermill papermilllaw49.deckle -/
def rf23 : RFn := ⟨(.seq (.ops 1 [⟨(some 0), (.v (.alloc 0 24 [(.c (.int .i64 0)), (.c (.int .i64 0)), (.c (.int .i64 0)), (.c (.int .i64 0)), (.c .nil)])), none, []⟩]) (.seq (.ops 1 [⟨(some 1), (.v (.bsl 0 3 [(.int .i64)] [(.k (.c (.int .i64 2400))), (.k (.c (.int .i64 1600)))])), none, []⟩, ⟨(some 2), (.v (.build [(.c (.int .i64 0)), (.c (.int .i64 0)), (.c (.int .i64 0)), (.c (.int .i64 0)), (.c .nil)] [⟨0, ⟨1, (.k (.c (.int .i64 5000)))⟩⟩, ⟨1, ⟨1, (.k (.c (.int .i64 50)))⟩⟩, ⟨2, ⟨1, (.k (.c (.int .i64 900)))⟩⟩, ⟨3, ⟨1, (.k (.c (.int .i64 4)))⟩⟩, ⟨4, ⟨1, (.t 1)⟩⟩])), none, []⟩, ⟨none, (.v (.st 5 (.t 0) (.t 2))), none, []⟩]) .ret)), 3, [(.la 0 5)]⟩
theorem h23 : fnR Try.prog DD 23 = some rf23 := by kernel_rfl
/-- papermill papermilllaw49.awake -/
def rf11 : RFn := ⟨(.seq (.ops 0 [⟨(some 0), (.v (.mv (.k (.c (.bool false))))), none, []⟩]) (.seq (.ops 4 [⟨(some 11), (.v (.bsl 0 3 [(.int .i64)] [(.k (.c (.int .i64 2))), (.k (.c (.int .i64 0)))])), none, []⟩, ⟨(some 12), (.v (.bsl 1 3 [(.int .i64)] [(.k (.c (.int .i64 1))), (.k (.c (.int .i64 1)))])), none, []⟩, ⟨(some 13), (.v (.bsl 2 3 [(.int .i64)] [(.k (.c (.int .i64 0))), (.k (.c (.int .i64 3)))])), none, []⟩, ⟨(some 14), (.v (.bsl 3 22 [(.sl [(.int .i64)])] [(.t 11), (.t 12), (.t 13)])), none, []⟩, ⟨(some 1), (.v (.mv (.t 14))), none, []⟩]) (.seq (.any 0 [⟨0, ⟨[], ⟨(some 16), (.v (.det 23 [⟨true, [(.int .i64), (.int .i64), (.int .i64), (.int .i64), (.sl [(.int .i64)])]⟩] [])), none, []⟩⟩⟩, ⟨1, ⟨[], ⟨(some 17), (.v (.mv (.t 1))), none, []⟩⟩⟩, ⟨2, ⟨[1], ⟨(some 18), (.v (.ia 1 (.t 17) (.k (.c (.int .i64 2))))), none, []⟩⟩⟩, ⟨3, ⟨[2, 1], ⟨(some 19), (.v (.ld (.t 18))), none, []⟩⟩⟩, ⟨4, ⟨[3, 2, 1, 0], ⟨(some 20), (.v (.det 12 [⟨false, [(.sl [(.int .i64)])]⟩, ⟨false, [(.int .i64)]⟩] [(.t 16), (.t 19)])), none, []⟩⟩⟩, ⟨5, ⟨[4, 3, 2, 1, 0], ⟨(some 15), (.v (.mv (.t 20))), none, []⟩⟩⟩, ⟨6, ⟨[5, 4, 3, 2, 1, 0], ⟨(some 21), (.v (.ext (.t 15) 0)), none, []⟩⟩⟩, ⟨7, ⟨[5, 4, 3, 2, 1, 0], ⟨(some 22), (.v (.ext (.t 15) 1)), none, []⟩⟩⟩, ⟨8, ⟨[6, 5, 4, 3, 2, 1, 0], ⟨(some 2), (.v (.mv (.t 21))), none, []⟩⟩⟩, ⟨9, ⟨[7, 8, 6, 5, 4, 3, 2, 1, 0], ⟨(some 3), (.v (.mv (.t 22))), none, []⟩⟩⟩]) (.seq (.any 0 [⟨0, ⟨[], ⟨(some 24), (.v (.det 23 [⟨true, [(.int .i64), (.int .i64), (.int .i64), (.int .i64), (.sl [(.int .i64)])]⟩] [])), none, []⟩⟩⟩, ⟨1, ⟨[], ⟨(some 25), (.v (.mv (.t 1))), none, []⟩⟩⟩, ⟨2, ⟨[1], ⟨(some 26), (.v (.ia 1 (.t 25) (.k (.c (.int .i64 0))))), none, []⟩⟩⟩, ⟨3, ⟨[2, 1], ⟨(some 27), (.v (.ld (.t 26))), none, []⟩⟩⟩, ⟨4, ⟨[], ⟨(some 28), (.v (.mv (.t 1))), none, []⟩⟩⟩, ⟨5, ⟨[4], ⟨(some 29), (.v (.ia 1 (.t 28) (.k (.c (.int .i64 1))))), none, []⟩⟩⟩, ⟨6, ⟨[5, 4], ⟨(some 30), (.v (.ld (.t 29))), none, []⟩⟩⟩, ⟨7, ⟨[3, 2, 1, 6, 5, 4, 0], ⟨(some 31), (.v (.det 15 [⟨false, [(.int .i64)]⟩, ⟨false, [(.int .i64)]⟩] [(.t 24), (.t 27), (.t 30)])), none, []⟩⟩⟩, ⟨8, ⟨[7, 3, 2, 1, 6, 5, 4, 0], ⟨(some 23), (.v (.mv (.t 31))), none, []⟩⟩⟩, ⟨9, ⟨[8, 7, 3, 2, 1, 6, 5, 4, 0], ⟨(some 32), (.v (.ext (.t 23) 0)), none, []⟩⟩⟩, ⟨10, ⟨[8, 7, 3, 2, 1, 6, 5, 4, 0], ⟨(some 33), (.v (.ext (.t 23) 1)), none, []⟩⟩⟩, ⟨11, ⟨[9, 8, 7, 3, 2, 1, 6, 5, 4, 0], ⟨(some 4), (.v (.mv (.t 32))), none, []⟩⟩⟩, ⟨12, ⟨[10, 11, 9, 8, 7, 3, 2, 1, 6, 5, 4, 0], ⟨(some 5), (.v (.mv (.t 33))), none, []⟩⟩⟩]) (.seq (.ops 0 [⟨(some 35), (.v (.det 23 [⟨true, [(.int .i64), (.int .i64), (.int .i64), (.int .i64), (.sl [(.int .i64)])]⟩] [])), none, []⟩, ⟨(some 36), (.v (.mv (.t 1))), none, []⟩, ⟨(some 37), (.v (.det 17 [⟨false, [(.sl [(.int .i64)])]⟩, ⟨false, [(.int .i64)]⟩, ⟨false, [(.int .i64)]⟩] [(.t 35), (.t 36)])), none, []⟩, ⟨(some 34), (.v (.mv (.t 37))), none, []⟩, ⟨(some 38), (.v (.ext (.t 34) 0)), none, []⟩, ⟨(some 39), (.v (.ext (.t 34) 1)), none, []⟩, ⟨(some 40), (.v (.ext (.t 34) 2)), none, []⟩, ⟨(some 6), (.v (.mv (.t 38))), none, []⟩, ⟨(some 7), (.v (.mv (.t 39))), none, []⟩, ⟨(some 8), (.v (.mv (.t 40))), none, []⟩]) (.seq (.ops 1 [⟨(some 42), (.v (.det 23 [⟨true, [(.int .i64), (.int .i64), (.int .i64), (.int .i64), (.sl [(.int .i64)])]⟩] [])), none, []⟩, ⟨(some 43), (.v (.mv (.t 1))), none, []⟩, ⟨(some 44), (.v (.bsl 0 3 [(.int .i64)] [(.k (.c (.int .i64 0))), (.k (.c (.int .i64 1))), (.k (.c (.int .i64 2)))])), none, []⟩, ⟨(some 45), (.v (.det 19 [⟨false, [(.int .i64)]⟩, ⟨false, [(.int .i64)]⟩] [(.t 42), (.t 43), (.t 44)])), none, []⟩, ⟨(some 41), (.v (.mv (.t 45))), none, []⟩, ⟨(some 46), (.v (.ext (.t 41) 0)), none, []⟩, ⟨(some 47), (.v (.ext (.t 41) 1)), none, []⟩, ⟨(some 9), (.v (.mv (.t 46))), none, []⟩, ⟨(some 10), (.v (.mv (.t 47))), none, []⟩]) (.seq (.ops 0 [⟨(some 48), (.v (.mv (.t 3))), none, []⟩, ⟨(some 49), (.v (.bin .eql (.t 48) (.k (.c (.int .i64 0))))), none, []⟩, ⟨(some 50), (.v (.mv (.t 49))), none, []⟩, ⟨(some 51), (.v (.mv (.t 5))), (some ⟨50, true⟩), [(.t 5)]⟩, ⟨(some 52), (.v (.bin .eql (.t 51) (.k (.c (.int .i64 0))))), (some ⟨50, true⟩), [(.t 51), (.k (.c (.int .i64 0)))]⟩, ⟨(some 53), (.v (.pick (.t 50) (.t 52) (.k (.c (.bool false))))), none, []⟩, ⟨(some 54), (.v (.mv (.t 53))), none, []⟩, ⟨(some 55), (.v (.mv (.t 8))), (some ⟨54, true⟩), [(.t 8)]⟩, ⟨(some 56), (.v (.bin .eql (.t 55) (.k (.c (.int .i64 0))))), (some ⟨54, true⟩), [(.t 55), (.k (.c (.int .i64 0)))]⟩, ⟨(some 57), (.v (.pick (.t 54) (.t 56) (.k (.c (.bool false))))), none, []⟩, ⟨(some 58), (.v (.mv (.t 57))), none, []⟩, ⟨(some 59), (.v (.mv (.t 10))), (some ⟨58, true⟩), [(.t 10)]⟩, ⟨(some 60), (.v (.bin .eql (.t 59) (.k (.c (.int .i64 0))))), (some ⟨58, true⟩), [(.t 59), (.k (.c (.int .i64 0)))]⟩, ⟨(some 61), (.v (.pick (.t 58) (.t 60) (.k (.c (.bool false))))), none, []⟩, ⟨(some 62), (.v (.mv (.t 61))), none, []⟩, ⟨(some 63), (.v (.mv (.t 2))), (some ⟨62, true⟩), [(.t 2)]⟩, ⟨(some 64), (.v (.lit [(.int .i64)] [(.k (.c (.int .i64 50))), (.k (.c (.int .i64 1650))), (.k (.c (.int .i64 3250))), (.k (.c (.int .i64 4850)))])), (some ⟨62, true⟩), [(.k (.c (.int .i64 50))), (.k (.c (.int .i64 1650))), (.k (.c (.int .i64 3250))), (.k (.c (.int .i64 4850)))]⟩, ⟨(some 65), (.v (.det 14 [⟨false, [.bool]⟩] [(.t 63), (.t 64)])), (some ⟨62, true⟩), [(.k (.fn 14 [])), (.t 63), (.t 64)]⟩, ⟨(some 66), (.v (.pick (.t 62) (.t 65) (.k (.c (.bool false))))), none, []⟩, ⟨(some 67), (.v (.mv (.t 66))), none, []⟩, ⟨(some 68), (.v (.mv (.t 4))), (some ⟨67, true⟩), [(.t 4)]⟩, ⟨(some 69), (.v (.bin .eql (.t 68) (.k (.c (.int .i64 1))))), (some ⟨67, true⟩), [(.t 68), (.k (.c (.int .i64 1)))]⟩, ⟨(some 70), (.v (.pick (.t 67) (.t 69) (.k (.c (.bool false))))), none, []⟩, ⟨(some 71), (.v (.mv (.t 70))), none, []⟩, ⟨(some 72), (.v (.mv (.t 6))), (some ⟨71, true⟩), [(.t 6)]⟩, ⟨(some 73), (.v (.lit [(.int .i64)] [(.k (.c (.int .i64 1))), (.k (.c (.int .i64 0))), (.k (.c (.int .i64 2)))])), (some ⟨71, true⟩), [(.k (.c (.int .i64 1))), (.k (.c (.int .i64 0))), (.k (.c (.int .i64 2)))]⟩, ⟨(some 74), (.v (.det 14 [⟨false, [.bool]⟩] [(.t 72), (.t 73)])), (some ⟨71, true⟩), [(.k (.fn 14 [])), (.t 72), (.t 73)]⟩, ⟨(some 75), (.v (.pick (.t 71) (.t 74) (.k (.c (.bool false))))), none, []⟩, ⟨(some 76), (.v (.mv (.t 75))), none, []⟩, ⟨(some 77), (.v (.mv (.t 7))), (some ⟨76, true⟩), [(.t 7)]⟩, ⟨(some 78), (.v (.bin .eql (.t 77) (.k (.c (.int .i64 6))))), (some ⟨76, true⟩), [(.t 77), (.k (.c (.int .i64 6)))]⟩, ⟨(some 79), (.v (.pick (.t 76) (.t 78) (.k (.c (.bool false))))), none, []⟩, ⟨(some 80), (.v (.mv (.t 79))), none, []⟩, ⟨(some 81), (.v (.mv (.t 9))), (some ⟨80, true⟩), [(.t 9)]⟩, ⟨(some 82), (.v (.bin .eql (.t 81) (.k (.c (.int .i64 7))))), (some ⟨80, true⟩), [(.t 81), (.k (.c (.int .i64 7)))]⟩, ⟨(some 83), (.v (.pick (.t 80) (.t 82) (.k (.c (.bool false))))), none, []⟩, ⟨(some 0), (.v (.mv (.t 83))), none, []⟩]) .ret))))))), 84, [(.t 0)]⟩
theorem h11 : fnR Try.prog DD 11 = some rf11 := by kernel_rfl
/-- papermill papermilllaw49.less -/
def rf21 : RFn := ⟨(.seq (.ops 0 [⟨(some 4), (.v (.mv (.k (.c (.bool false))))), none, []⟩]) (.seq (.seq (.ops 0 [⟨(some 5), (.v (.mv (.k (.c (.int .i64 0))))), none, []⟩]) (.block 0 (.loop (.seq (.seq (.ops 0 [⟨(some 6), (.v (.mv (.t 5))), none, []⟩, ⟨(some 7), (.v (.mv (.t 0))), none, []⟩, ⟨(some 8), (.v (.lenS (.t 7))), none, []⟩, ⟨(some 9), (.v (.bin .lss (.t 6) (.t 8))), none, []⟩, ⟨(some 10), (.v (.mv (.t 9))), none, []⟩, ⟨(some 11), (.v (.mv (.t 5))), (some ⟨10, true⟩), [(.t 5)]⟩, ⟨(some 12), (.v (.mv (.t 1))), (some ⟨10, true⟩), [(.t 1)]⟩, ⟨(some 13), (.v (.lenS (.t 12))), (some ⟨10, true⟩), [(.t 12)]⟩, ⟨(some 14), (.v (.bin .lss (.t 11) (.t 13))), (some ⟨10, true⟩), [(.t 11), (.t 13)]⟩, ⟨(some 15), (.v (.pick (.t 10) (.t 14) (.k (.c (.bool false))))), none, []⟩]) (.cond (.t 15) .skip (.exit 0))) (.seq (.block 1 (.seq (.any 0 [⟨0, ⟨[], ⟨(some 18), (.v (.mv (.t 0))), none, []⟩⟩⟩, ⟨1, ⟨[], ⟨(some 19), (.v (.mv (.t 5))), none, []⟩⟩⟩, ⟨2, ⟨[0, 1], ⟨(some 20), (.v (.ia 1 (.t 18) (.t 19))), none, []⟩⟩⟩, ⟨3, ⟨[2, 0, 1], ⟨(some 21), (.v (.ld (.t 20))), none, []⟩⟩⟩, ⟨4, ⟨[], ⟨(some 22), (.v (.mv (.t 1))), none, []⟩⟩⟩, ⟨5, ⟨[], ⟨(some 23), (.v (.mv (.t 5))), none, []⟩⟩⟩, ⟨6, ⟨[4, 5], ⟨(some 24), (.v (.ia 1 (.t 22) (.t 23))), none, []⟩⟩⟩, ⟨7, ⟨[6, 4, 5], ⟨(some 25), (.v (.ld (.t 24))), none, []⟩⟩⟩, ⟨8, ⟨[3, 2, 0, 1, 7, 6, 4, 5], ⟨(some 26), (.v (.bin .neq (.t 21) (.t 25))), none, []⟩⟩⟩]) (.cond (.t 26) (.seq (.any 0 [⟨0, ⟨[], ⟨(some 27), (.v (.mv (.t 0))), none, []⟩⟩⟩, ⟨1, ⟨[], ⟨(some 28), (.v (.mv (.t 5))), none, []⟩⟩⟩, ⟨2, ⟨[0, 1], ⟨(some 29), (.v (.ia 1 (.t 27) (.t 28))), none, []⟩⟩⟩, ⟨3, ⟨[2, 0, 1], ⟨(some 30), (.v (.ld (.t 29))), none, []⟩⟩⟩, ⟨4, ⟨[], ⟨(some 31), (.v (.mv (.t 1))), none, []⟩⟩⟩, ⟨5, ⟨[], ⟨(some 32), (.v (.mv (.t 5))), none, []⟩⟩⟩, ⟨6, ⟨[4, 5], ⟨(some 33), (.v (.ia 1 (.t 31) (.t 32))), none, []⟩⟩⟩, ⟨7, ⟨[6, 4, 5], ⟨(some 34), (.v (.ld (.t 33))), none, []⟩⟩⟩, ⟨8, ⟨[3, 2, 0, 1, 7, 6, 4, 5], ⟨(some 35), (.v (.bin .lss (.t 30) (.t 34))), none, []⟩⟩⟩, ⟨9, ⟨[8, 3, 2, 0, 1, 7, 6, 4, 5], ⟨(some 4), (.v (.mv (.t 35))), none, []⟩⟩⟩]) .ret) .skip))) (.ops 0 [⟨(some 16), (.v (.mv (.t 5))), none, []⟩, ⟨(some 17), (.v (.bin .add (.t 16) (.k (.c (.int .i64 1))))), none, []⟩, ⟨(some 5), (.v (.mv (.t 17))), none, []⟩])))))) (.seq (.ops 0 [⟨(some 4), (.v (.mv (.k (.c (.bool false))))), none, []⟩]) .ret))), 36, [(.t 4)]⟩
theorem h21 : fnR Try.prog DD 21 = some rf21 := by kernel_rfl
def vc10 (E : Env) (x1 : Int) (x2 : Int) (x3 : Int) (x4 : Int) (x5 : List (List C)) (x6 : List (List C)) (Q : List C → Prop) : Prop :=
  Br (E.bite (E.lt 20 (E.len x5)) true (E.lt 20 (E.len x6)))
  (Q [.bool false])
  (LoopP1 (fun (i7 : Int) (K8 : (Int) → Prop) =>
    Br (E.lt i7 (E.len x6))
      (((E.le 0 i7) = true) ∧ 
        (Br (E.lt 20 (E.len (E.gl (E.cell x6 i7 0))))
        (Q [.bool false])
        (K8 ((E.add .i64 i7 1)))))
      (Q [.bool true]))
    (0))
theorem w10 {P : Program} {tbl : FuncId → List A → List C}  {x1 : Int} {x2 : Int} {x3 : Int} {x4 : Int} {x5 : List (List C)} {x6 : List (List C)} {row : List C} (h : vc10 (stdE P tbl) x1 x2 x3 x4 x5 x6 fun c => c = row) : WPg P tbl rf10 [(false, [.bool])] row [.agg [.c (.int .i64 x1), .c (.int .i64 x2), .c (.int .i64 x3), .c (.int .i64 x4), .c (.sl [.int .i64] x5)], .c (.sl [.sl [.int .i64]] x6)] := by
  refine ⟨?_⟩
  revert h
  generalize hE : stdE P tbl = E
  intro h
  unfold vc10 at h
  cbv
  refine ⟨⟨fun hh => (by first | exact hh | trivial)⟩, ?_⟩
  refine ⟨⟨fun hh => (by first | exact hh | trivial)⟩, ?_⟩
  refine ⟨⟨fun hh => (by first | exact hh | trivial)⟩, ?_⟩
  refine ⟨fun hb9 => ?_, fun hb9 => ?_⟩
  · replace h := h.t hb9
    have h : _ = row := h
    subst h
    repeat' (first | exact trivial | exact rfl | refine And.intro ?_ ?_)
  · replace h := h.f hb9
    obtain ⟨I, μ, h0, hI⟩ := h
    refine LoopW.inv (fun R R' s h k => RCode.wp_mono _ R R' s h k) (fun p : Int => (fun (i7 : Int) => (⟨[.u, .c (.sl [.sl [.int .i64]] x6), .u, .u, .u, .c (.int .i64 i7), .u, .u, .u, .u, .u, .u, .u, .u, .u, .u, .u, .u, .u, .u, .u, .u, .u, .u, .u, .u, .u], []⟩ : St)) p) (fun p => I p) (fun p => μ p) _ h0 ?_ ?_
    · refine GSt.ren [] rfl rfl rfl (fun i hi => absurd hi (Nat.not_lt_zero i)) (Nat.zero_le _) ?_ ?_
      all_goals (repeat' (first | exact trivial | exact Or.inl rfl | exact Or.inr rfl | refine And.intro ?_ ?_))
    · rintro i7 h
      replace h := hI i7 h
      cbv
      refine ⟨fun hb10 => ?_, fun hb10 => ?_⟩
      · replace h := h.t hb10
        have c11 := h.1
        refine ⟨c11, ?_⟩
        replace h := h.2
        refine ⟨hb10, ?_⟩
        refine ⟨fun hb12 => ?_, fun hb12 => ?_⟩
        · replace h := h.t hb12
          have h : _ = row := h
          subst h
          repeat' (first | exact trivial | exact rfl | refine And.intro ?_ ?_)
        · replace h := h.f hb12
          refine ⟨_, h.1, GSt.ren [] rfl rfl rfl (fun i hi => absurd hi (Nat.not_lt_zero i)) (Nat.zero_le _) ?_ ?_, h.2⟩
          all_goals (repeat' (first | exact trivial | exact Or.inl rfl | exact Or.inr rfl | refine And.intro ?_ ?_))
      · replace h := h.f hb10
        have h : _ = row := h
        subst h
        repeat' (first | exact trivial | exact rfl | refine And.intro ?_ ?_)
def vc23 (E : Env)  (Q : List C → Prop) : Prop :=
  Q [.int .i64 5000, .int .i64 50, .int .i64 900, .int .i64 4, .sl [.int .i64] [[.int .i64 2400], [.int .i64 1600]]]
theorem w23 {P : Program} {tbl : FuncId → List A → List C}   {row : List C} (h : vc23 (stdE P tbl)  fun c => c = row) : WPg P tbl rf23 [(true, [.int .i64, .int .i64, .int .i64, .int .i64, .sl [.int .i64]])] row [] := by
  refine ⟨?_⟩
  revert h
  generalize hE : stdE P tbl = E
  intro h
  unfold vc23 at h
  cbv
  have h : _ = row := h
  subst h
  repeat' (first | exact trivial | exact rfl | refine And.intro ?_ ?_)
def vc11 (E : Env)  (Q : List C → Prop) : Prop :=
  (E.pok 23 [(true, [.int .i64, .int .i64, .int .i64, .int .i64, .sl [.int .i64]])] []) ∧ (∀ r1 : Nat → C, r1 = E.res 23 [] → 
  (((E.le 0 2) = true) ∧ ((E.lt 2 (E.len [[.sl [.int .i64] [[.int .i64 2], [.int .i64 0]]], [.sl [.int .i64] [[.int .i64 1], [.int .i64 1]]], [.sl [.int .i64] [[.int .i64 0], [.int .i64 3]]]])) = true) ∧ 
  ((E.pok 12 [(false, [.sl [.int .i64]]), (false, [.int .i64])] [.agg [.c (.int .i64 (E.gi (r1 0))), .c (.int .i64 (E.gi (r1 1))), .c (.int .i64 (E.gi (r1 2))), .c (.int .i64 (E.gi (r1 3))), .c (.sl [.int .i64] (E.gl (r1 4)))], .c (.sl [.int .i64] (E.gl (E.cell [[.sl [.int .i64] [[.int .i64 2], [.int .i64 0]]], [.sl [.int .i64] [[.int .i64 1], [.int .i64 1]]], [.sl [.int .i64] [[.int .i64 0], [.int .i64 3]]]] 2 0)))]) ∧ (∀ r2 : Nat → C, r2 = E.res 12 [.agg [.c (.int .i64 (E.gi (r1 0))), .c (.int .i64 (E.gi (r1 1))), .c (.int .i64 (E.gi (r1 2))), .c (.int .i64 (E.gi (r1 3))), .c (.sl [.int .i64] (E.gl (r1 4)))], .c (.sl [.int .i64] (E.gl (E.cell [[.sl [.int .i64] [[.int .i64 2], [.int .i64 0]]], [.sl [.int .i64] [[.int .i64 1], [.int .i64 1]]], [.sl [.int .i64] [[.int .i64 0], [.int .i64 3]]]] 2 0)))] → 
  ((∀ r3 : Nat → C, r3 = E.res 23 [] → 
  (((E.le 0 0) = true) ∧ ((E.lt 0 (E.len [[.sl [.int .i64] [[.int .i64 2], [.int .i64 0]]], [.sl [.int .i64] [[.int .i64 1], [.int .i64 1]]], [.sl [.int .i64] [[.int .i64 0], [.int .i64 3]]]])) = true) ∧ 
  (((E.le 0 1) = true) ∧ ((E.lt 1 (E.len [[.sl [.int .i64] [[.int .i64 2], [.int .i64 0]]], [.sl [.int .i64] [[.int .i64 1], [.int .i64 1]]], [.sl [.int .i64] [[.int .i64 0], [.int .i64 3]]]])) = true) ∧ 
  ((E.pok 15 [(false, [.int .i64]), (false, [.int .i64])] [.agg [.c (.int .i64 (E.gi (r3 0))), .c (.int .i64 (E.gi (r3 1))), .c (.int .i64 (E.gi (r3 2))), .c (.int .i64 (E.gi (r3 3))), .c (.sl [.int .i64] (E.gl (r3 4)))], .c (.sl [.int .i64] (E.gl (E.cell [[.sl [.int .i64] [[.int .i64 2], [.int .i64 0]]], [.sl [.int .i64] [[.int .i64 1], [.int .i64 1]]], [.sl [.int .i64] [[.int .i64 0], [.int .i64 3]]]] 0 0))), .c (.sl [.int .i64] (E.gl (E.cell [[.sl [.int .i64] [[.int .i64 2], [.int .i64 0]]], [.sl [.int .i64] [[.int .i64 1], [.int .i64 1]]], [.sl [.int .i64] [[.int .i64 0], [.int .i64 3]]]] 1 0)))]) ∧ (∀ r4 : Nat → C, r4 = E.res 15 [.agg [.c (.int .i64 (E.gi (r3 0))), .c (.int .i64 (E.gi (r3 1))), .c (.int .i64 (E.gi (r3 2))), .c (.int .i64 (E.gi (r3 3))), .c (.sl [.int .i64] (E.gl (r3 4)))], .c (.sl [.int .i64] (E.gl (E.cell [[.sl [.int .i64] [[.int .i64 2], [.int .i64 0]]], [.sl [.int .i64] [[.int .i64 1], [.int .i64 1]]], [.sl [.int .i64] [[.int .i64 0], [.int .i64 3]]]] 0 0))), .c (.sl [.int .i64] (E.gl (E.cell [[.sl [.int .i64] [[.int .i64 2], [.int .i64 0]]], [.sl [.int .i64] [[.int .i64 1], [.int .i64 1]]], [.sl [.int .i64] [[.int .i64 0], [.int .i64 3]]]] 1 0)))] → 
  ((∀ r5 : Nat → C, r5 = E.res 23 [] → 
  ((E.pok 17 [(false, [.sl [.int .i64]]), (false, [.int .i64]), (false, [.int .i64])] [.agg [.c (.int .i64 (E.gi (r5 0))), .c (.int .i64 (E.gi (r5 1))), .c (.int .i64 (E.gi (r5 2))), .c (.int .i64 (E.gi (r5 3))), .c (.sl [.int .i64] (E.gl (r5 4)))], .c (.sl [.sl [.int .i64]] [[.sl [.int .i64] [[.int .i64 2], [.int .i64 0]]], [.sl [.int .i64] [[.int .i64 1], [.int .i64 1]]], [.sl [.int .i64] [[.int .i64 0], [.int .i64 3]]]])]) ∧ (∀ r6 : Nat → C, r6 = E.res 17 [.agg [.c (.int .i64 (E.gi (r5 0))), .c (.int .i64 (E.gi (r5 1))), .c (.int .i64 (E.gi (r5 2))), .c (.int .i64 (E.gi (r5 3))), .c (.sl [.int .i64] (E.gl (r5 4)))], .c (.sl [.sl [.int .i64]] [[.sl [.int .i64] [[.int .i64 2], [.int .i64 0]]], [.sl [.int .i64] [[.int .i64 1], [.int .i64 1]]], [.sl [.int .i64] [[.int .i64 0], [.int .i64 3]]]])] → 
  ((∀ r7 : Nat → C, r7 = E.res 23 [] → 
  ((E.pok 19 [(false, [.int .i64]), (false, [.int .i64])] [.agg [.c (.int .i64 (E.gi (r7 0))), .c (.int .i64 (E.gi (r7 1))), .c (.int .i64 (E.gi (r7 2))), .c (.int .i64 (E.gi (r7 3))), .c (.sl [.int .i64] (E.gl (r7 4)))], .c (.sl [.sl [.int .i64]] [[.sl [.int .i64] [[.int .i64 2], [.int .i64 0]]], [.sl [.int .i64] [[.int .i64 1], [.int .i64 1]]], [.sl [.int .i64] [[.int .i64 0], [.int .i64 3]]]]), .c (.sl [.int .i64] [[.int .i64 0], [.int .i64 1], [.int .i64 2]])]) ∧ (∀ r8 : Nat → C, r8 = E.res 19 [.agg [.c (.int .i64 (E.gi (r7 0))), .c (.int .i64 (E.gi (r7 1))), .c (.int .i64 (E.gi (r7 2))), .c (.int .i64 (E.gi (r7 3))), .c (.sl [.int .i64] (E.gl (r7 4)))], .c (.sl [.sl [.int .i64]] [[.sl [.int .i64] [[.int .i64 2], [.int .i64 0]]], [.sl [.int .i64] [[.int .i64 1], [.int .i64 1]]], [.sl [.int .i64] [[.int .i64 0], [.int .i64 3]]]]), .c (.sl [.int .i64] [[.int .i64 0], [.int .i64 1], [.int .i64 2]])] → 
  ((Imp (E.bite (E.bite (E.bite (E.eq (E.gi (r2 1)) 0) (E.eq (E.gi (r4 1)) 0) false) (E.eq (E.gi (r6 2)) 0) false) (E.eq (E.gi (r8 1)) 0) false) (E.pok 14 [(false, [.bool])] [.c (.sl [.int .i64] (E.gl (r2 0))), .c (.sl [.int .i64] [[.int .i64 50], [.int .i64 1650], [.int .i64 3250], [.int .i64 4850]])])) ∧ (∀ r9 : Nat → C, r9 = E.res 14 [.c (.sl [.int .i64] (E.gl (r2 0))), .c (.sl [.int .i64] [[.int .i64 50], [.int .i64 1650], [.int .i64 3250], [.int .i64 4850]])] → 
  ((Imp (E.bite (E.bite (E.bite (E.bite (E.bite (E.eq (E.gi (r2 1)) 0) (E.eq (E.gi (r4 1)) 0) false) (E.eq (E.gi (r6 2)) 0) false) (E.eq (E.gi (r8 1)) 0) false) (E.gb (r9 0)) false) (E.eq (E.gi (r4 0)) 1) false) (E.pok 14 [(false, [.bool])] [.c (.sl [.int .i64] (E.gl (r6 0))), .c (.sl [.int .i64] [[.int .i64 1], [.int .i64 0], [.int .i64 2]])])) ∧ (∀ r10 : Nat → C, r10 = E.res 14 [.c (.sl [.int .i64] (E.gl (r6 0))), .c (.sl [.int .i64] [[.int .i64 1], [.int .i64 0], [.int .i64 2]])] → 
  (Q [.bool (E.bite (E.bite (E.bite (E.bite (E.bite (E.bite (E.bite (E.bite (E.eq (E.gi (r2 1)) 0) (E.eq (E.gi (r4 1)) 0) false) (E.eq (E.gi (r6 2)) 0) false) (E.eq (E.gi (r8 1)) 0) false) (E.gb (r9 0)) false) (E.eq (E.gi (r4 0)) 1) false) (E.gb (r10 0)) false) (E.eq (E.gi (r6 1)) 6) false) (E.eq (E.gi (r8 0)) 7) false)])))))))))))))))))))))))
theorem w11 {P : Program} {tbl : FuncId → List A → List C}   {row : List C} (h : vc11 (stdE P tbl)  fun c => c = row) : WPg P tbl rf11 [(false, [.bool])] row [] := by
  refine ⟨?_⟩
  revert h
  generalize hE : stdE P tbl = E
  intro h
  unfold vc11 at h
  cbv
  have c11 := h.1
  refine ⟨c11, ?_⟩
  replace h := h.2 _ rfl
  have c12 := h.1
  refine ⟨c12, ?_⟩
  replace h := h.2
  have c13 := h.1
  refine ⟨c13, ?_⟩
  replace h := h.2
  have c14 := h.1
  refine ⟨c14, ?_⟩
  replace h := h.2 _ rfl
  refine ⟨c11, ?_⟩
  replace h := h _ rfl
  have c15 := h.1
  refine ⟨c15, ?_⟩
  replace h := h.2
  have c16 := h.1
  refine ⟨c16, ?_⟩
  replace h := h.2
  have c17 := h.1
  refine ⟨c17, ?_⟩
  replace h := h.2
  have c18 := h.1
  refine ⟨c18, ?_⟩
  replace h := h.2
  have c19 := h.1
  refine ⟨c19, ?_⟩
  replace h := h.2 _ rfl
  refine ⟨c11, ?_⟩
  replace h := h _ rfl
  have c20 := h.1
  refine ⟨c20, ?_⟩
  replace h := h.2 _ rfl
  refine ⟨c11, ?_⟩
  replace h := h _ rfl
  have c21 := h.1
  refine ⟨c21, ?_⟩
  replace h := h.2 _ rfl
  refine ⟨⟨fun hh => (by first | exact hh | trivial)⟩, ?_⟩
  refine ⟨⟨fun hh => (by first | exact hh | trivial)⟩, ?_⟩
  refine ⟨⟨fun hh => (by first | exact hh | trivial)⟩, ?_⟩
  refine ⟨⟨fun hh => (by first | exact hh | trivial)⟩, ?_⟩
  refine ⟨⟨fun hh => (by first | exact hh | trivial)⟩, ?_⟩
  refine ⟨⟨fun hh => (by first | exact hh | trivial)⟩, ?_⟩
  refine ⟨⟨fun hh => (by first | exact hh | trivial)⟩, ?_⟩
  refine ⟨⟨fun hh => (by first | exact hh | trivial)⟩, ?_⟩
  have c22 := h.1
  refine ⟨c22, ?_⟩
  replace h := h.2 _ rfl
  refine ⟨⟨fun hh => (by first | exact hh | trivial)⟩, ?_⟩
  refine ⟨⟨fun hh => (by first | exact hh | trivial)⟩, ?_⟩
  refine ⟨⟨fun hh => (by first | exact hh | trivial)⟩, ?_⟩
  refine ⟨⟨fun hh => (by first | exact hh | trivial)⟩, ?_⟩
  refine ⟨⟨fun hh => (by first | exact hh | trivial)⟩, ?_⟩
  have c23 := h.1
  refine ⟨c23, ?_⟩
  replace h := h.2 _ rfl
  refine ⟨⟨fun hh => (by first | exact hh | trivial)⟩, ?_⟩
  refine ⟨⟨fun hh => (by first | exact hh | trivial)⟩, ?_⟩
  refine ⟨⟨fun hh => (by first | exact hh | trivial)⟩, ?_⟩
  refine ⟨⟨fun hh => (by first | exact hh | trivial)⟩, ?_⟩
  refine ⟨⟨fun hh => (by first | exact hh | trivial)⟩, ?_⟩
  have h : _ = row := h
  subst h
  repeat' (first | exact trivial | exact rfl | refine And.intro ?_ ?_)
def vc21 (E : Env) (x1 : List (List C)) (x2 : List (List C)) (Q : List C → Prop) : Prop :=
  LoopP1 (fun (i3 : Int) (K4 : (Int) → Prop) =>
  Br (E.bite (E.lt i3 (E.len x1)) (E.lt i3 (E.len x2)) false)
    (((E.le 0 i3) = true) ∧ ((E.lt i3 (E.len x1)) = true) ∧ 
      (((E.lt i3 (E.len x2)) = true) ∧ 
      (Br (E.not (E.eq (E.gi (E.cell x1 i3 0)) (E.gi (E.cell x2 i3 0))))
      (Q [.bool (E.lt (E.gi (E.cell x1 i3 0)) (E.gi (E.cell x2 i3 0)))])
      (K4 ((E.add .i64 i3 1))))))
    (Q [.bool false]))
  (0)
theorem w21 {P : Program} {tbl : FuncId → List A → List C}  {x1 : List (List C)} {x2 : List (List C)} {row : List C} (h : vc21 (stdE P tbl) x1 x2 fun c => c = row) : WPg P tbl rf21 [(false, [.bool])] row [.c (.sl [.int .i64] x1), .c (.sl [.int .i64] x2)] := by
  refine ⟨?_⟩
  revert h
  generalize hE : stdE P tbl = E
  intro h
  unfold vc21 at h
  cbv
  obtain ⟨I, μ, h0, hI⟩ := h
  refine LoopW.inv (fun R R' s h k => RCode.wp_mono _ R R' s h k) (fun p : Int => (fun (i3 : Int) => (⟨[.c (.sl [.int .i64] x1), .c (.sl [.int .i64] x2), .u, .u, .u, .c (.int .i64 i3), .u, .u, .u, .u, .u, .u, .u, .u, .u, .u, .u, .u, .u, .u, .u, .u, .u, .u, .u, .u, .u, .u, .u, .u, .u, .u, .u, .u, .u, .u], []⟩ : St)) p) (fun p => I p) (fun p => μ p) _ h0 ?_ ?_
  · refine GSt.ren [] rfl rfl rfl (fun i hi => absurd hi (Nat.not_lt_zero i)) (Nat.zero_le _) ?_ ?_
    all_goals (repeat' (first | exact trivial | exact Or.inl rfl | exact Or.inr rfl | refine And.intro ?_ ?_))
  · rintro i3 h
    replace h := hI i3 h
    cbv
    refine ⟨⟨fun hh => (by first | exact hh | trivial)⟩, ?_⟩
    refine ⟨⟨fun hh => (by first | exact hh | trivial)⟩, ?_⟩
    refine ⟨⟨fun hh => (by first | exact hh | trivial)⟩, ?_⟩
    refine ⟨⟨fun hh => (by first | exact hh | trivial)⟩, ?_⟩
    refine ⟨fun hb5 => ?_, fun hb5 => ?_⟩
    · replace h := h.t hb5
      have c6 := h.1
      refine ⟨c6, ?_⟩
      replace h := h.2
      have c7 := h.1
      refine ⟨c7, ?_⟩
      replace h := h.2
      refine ⟨c6, ?_⟩
      have c8 := h.1
      refine ⟨c8, ?_⟩
      replace h := h.2
      refine ⟨fun hb9 => ?_, fun hb9 => ?_⟩
      · replace h := h.t hb9
        refine ⟨c6, ?_⟩
        refine ⟨c7, ?_⟩
        refine ⟨c6, ?_⟩
        refine ⟨c8, ?_⟩
        have h : _ = row := h
        subst h
        repeat' (first | exact trivial | exact rfl | refine And.intro ?_ ?_)
      · replace h := h.f hb9
        refine ⟨_, h.1, GSt.ren [] rfl rfl rfl (fun i hi => absurd hi (Nat.not_lt_zero i)) (Nat.zero_le _) ?_ ?_, h.2⟩
        all_goals (repeat' (first | exact trivial | exact Or.inl rfl | exact Or.inr rfl | refine And.intro ?_ ?_))
    · replace h := h.f hb5
      have h : _ = row := h
      subst h
      repeat' (first | exact trivial | exact rfl | refine And.intro ?_ ?_)
end Go.Proofs.Ytjmgphobpgajbaa.V
