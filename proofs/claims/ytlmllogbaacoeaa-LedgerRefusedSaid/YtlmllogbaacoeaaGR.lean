/- Ledgers: the walk of what is said of: refused postings. No conditions. -/
import Derived.Test.YtlmllogbaacoeaaEX
set_option linter.unusedVariables false
set_option linter.unusedSimpArgs false
namespace Go.Proofs.Ytlmllogbaacoeaa.V
open Go Go.Eng
set_option maxRecDepth 1000000
set_option maxHeartbeats 4000000
/-- papermill papermilllaw58.LedgerRefused -/
def rf8 : RFn := ⟨(.seq (.ops 1 [⟨(some 3), (.v (.box 0 24 (.t 1))), none, []⟩, ⟨(some 4), (.v (.mv (.k (.c (.bool false))))), none, []⟩]) (.seq (.ops 0 [⟨(some 14), (.h (.call 15 [])), none, []⟩, ⟨(some 5), (.v (.mv (.t 14))), none, []⟩]) (.seq (.seq (.ops 0 [⟨(some 15), (.v (.mv (.t 0))), none, []⟩, ⟨(some 16), (.v (.lenS (.t 15))), none, []⟩, ⟨(some 17), (.v (.bin .gtr (.t 16) (.k (.c (.int .i64 40))))), none, []⟩, ⟨(some 18), (.v (.mv (.t 17))), none, []⟩, ⟨(some 19), (.v (.mv (.t 0))), (some ⟨18, false⟩), [(.t 0)]⟩, ⟨(some 20), (.v (.det 17 [⟨false, [.bool]⟩] [(.t 19)])), (some ⟨18, false⟩), [(.k (.fn 17 [])), (.t 19)]⟩, ⟨(some 21), (.v (.pick (.t 18) (.k (.c (.bool true))) (.t 20))), none, []⟩, ⟨(some 22), (.v (.mv (.t 21))), none, []⟩, ⟨(some 23), (.v (.fa 2 (.t 3))), (some ⟨22, false⟩), [(.t 3)]⟩, ⟨(some 24), (.v (.ld (.t 23))), (some ⟨22, false⟩), [(.t 23)]⟩, ⟨(some 25), (.v (.lenS (.t 24))), (some ⟨22, false⟩), [(.t 24)]⟩, ⟨(some 26), (.v (.bin .gtr (.t 25) (.k (.c (.int .i64 40))))), (some ⟨22, false⟩), [(.t 25), (.k (.c (.int .i64 40)))]⟩, ⟨(some 27), (.v (.pick (.t 22) (.k (.c (.bool true))) (.t 26))), none, []⟩, ⟨(some 28), (.v (.mv (.t 27))), none, []⟩, ⟨(some 29), (.v (.mv (.t 5))), (some ⟨28, false⟩), [(.t 5)]⟩, ⟨(some 30), (.v (.eqn 1 false (.t 29))), (some ⟨28, false⟩), [(.t 29), (.k .np)]⟩, ⟨(some 31), (.v (.pick (.t 28) (.k (.c (.bool true))) (.t 30))), none, []⟩]) (.cond (.t 31) (.seq (.ops 0 [⟨(some 32), (.v (.det 12 [⟨false, [.bool]⟩] [])), none, []⟩, ⟨(some 4), (.v (.mv (.t 32))), none, []⟩]) .ret) .skip)) (.seq (.seq (.ops 0 [⟨(some 6), (.v (.mv (.k (.c (.int .i64 0))))), none, []⟩]) (.block 0 (.loop (.seq (.seq (.ops 0 [⟨(some 33), (.v (.mv (.t 6))), none, []⟩, ⟨(some 34), (.v (.mv (.t 0))), none, []⟩, ⟨(some 35), (.v (.lenS (.t 34))), none, []⟩, ⟨(some 36), (.v (.bin .lss (.t 33) (.t 35))), none, []⟩]) (.cond (.t 36) .skip (.exit 0))) (.seq (.block 1 (.ops 0 [⟨(some 39), (.v (.mv (.t 5))), none, []⟩, ⟨(some 40), (.v (.mv (.t 0))), none, []⟩, ⟨(some 41), (.v (.mv (.t 6))), none, []⟩, ⟨(some 42), (.v (.ia 3 (.t 40) (.t 41))), none, []⟩, ⟨(some 43), (.v (.lda 3 (.t 42))), none, []⟩, ⟨(some 44), (.h (.call 18 [(.t 39), (.t 43)])), none, []⟩])) (.ops 0 [⟨(some 37), (.v (.mv (.t 6))), none, []⟩, ⟨(some 38), (.v (.bin .add (.t 37) (.k (.c (.int .i64 1))))), none, []⟩, ⟨(some 6), (.v (.mv (.t 38))), none, []⟩])))))) (.seq (.ops 0 [⟨(some 45), (.v (.mv (.t 5))), none, []⟩, ⟨(some 46), (.h (.call 21 [(.t 45)])), none, []⟩, ⟨(some 47), (.v (.mv (.t 5))), none, []⟩, ⟨(some 48), (.h (.call 24 [(.t 47)])), none, []⟩, ⟨(some 7), (.v (.mv (.t 46))), none, []⟩, ⟨(some 8), (.v (.mv (.t 48))), none, []⟩]) (.seq (.ops 0 [⟨(some 9), (.v (.mv (.k (.c .nil)))), none, []⟩]) (.seq (.seq (.ops 0 [⟨(some 10), (.v (.mv (.k (.c (.int .i64 0))))), none, []⟩]) (.block 2 (.loop (.seq (.seq (.ops 0 [⟨(some 49), (.v (.mv (.t 10))), none, []⟩, ⟨(some 50), (.v (.fa 2 (.t 3))), none, []⟩, ⟨(some 51), (.v (.ld (.t 50))), none, []⟩, ⟨(some 52), (.v (.lenS (.t 51))), none, []⟩, ⟨(some 53), (.v (.bin .lss (.t 49) (.t 52))), none, []⟩]) (.cond (.t 53) .skip (.exit 2))) (.seq (.block 3 (.ops 2 [⟨(some 56), (.v (.mv (.t 9))), none, []⟩, ⟨(some 57), (.v (.mv (.t 5))), none, []⟩, ⟨(some 58), (.v (.fa 2 (.t 3))), none, []⟩, ⟨(some 59), (.v (.ld (.t 58))), none, []⟩, ⟨(some 60), (.v (.mv (.t 10))), none, []⟩, ⟨(some 61), (.v (.ia 2 (.t 59) (.t 60))), none, []⟩, ⟨(some 62), (.v (.fa 0 (.t 61))), none, []⟩, ⟨(some 63), (.v (.ld (.t 62))), none, []⟩, ⟨(some 64), (.h (.call 26 [(.t 57), (.t 63)])), none, []⟩, ⟨(some 65), (.v (.bsl 0 3 [(.int .i64)] [(.t 64)])), none, []⟩, ⟨(some 66), (.v (.app 1 3 [(.int .i64)] 17592186044416 (.t 56) (.t 65))), none, []⟩, ⟨(some 9), (.v (.mv (.t 66))), none, []⟩])) (.ops 0 [⟨(some 54), (.v (.mv (.t 10))), none, []⟩, ⟨(some 55), (.v (.bin .add (.t 54) (.k (.c (.int .i64 1))))), none, []⟩, ⟨(some 10), (.v (.mv (.t 55))), none, []⟩])))))) (.seq (.ops 0 [⟨(some 67), (.v (.mv (.t 5))), none, []⟩, ⟨(some 68), (.v (.lda 3 (.t 3))), none, []⟩, ⟨(some 69), (.h (.call 18 [(.t 67), (.t 68)])), none, []⟩, ⟨(some 11), (.v (.mv (.t 69))), none, []⟩]) (.seq (.ops 0 [⟨(some 70), (.v (.mv (.t 5))), none, []⟩, ⟨(some 71), (.h (.call 21 [(.t 70)])), none, []⟩, ⟨(some 12), (.v (.mv (.t 71))), none, []⟩]) (.seq (.seq (.ops 0 [⟨(some 72), (.v (.mv (.t 11))), none, []⟩, ⟨(some 73), (.v (.bin .eql (.t 72) (.k (.c (.int .i64 0))))), none, []⟩]) (.cond (.t 73) (.seq (.any 0 [⟨0, ⟨[], ⟨(some 74), (.v (.mv (.t 12))), none, []⟩⟩⟩, ⟨1, ⟨[0], ⟨(some 75), (.v (.lenS (.t 74))), none, []⟩⟩⟩, ⟨2, ⟨[], ⟨(some 76), (.v (.mv (.t 7))), none, []⟩⟩⟩, ⟨3, ⟨[2], ⟨(some 77), (.v (.lenS (.t 76))), none, []⟩⟩⟩, ⟨4, ⟨[3, 2], ⟨(some 78), (.v (.bin .add (.t 77) (.k (.c (.int .i64 1))))), none, []⟩⟩⟩, ⟨5, ⟨[1, 0, 4, 3, 2], ⟨(some 79), (.v (.bin .eql (.t 75) (.t 78))), none, []⟩⟩⟩, ⟨6, ⟨[5, 1, 0, 4, 3, 2], ⟨(some 80), (.v (.mv (.t 79))), none, []⟩⟩⟩, ⟨7, ⟨[6, 5, 1, 0, 4, 3, 2], ⟨(some 81), (.v (.mv (.t 12))), (some ⟨80, true⟩), [(.t 12)]⟩⟩⟩, ⟨8, ⟨[6, 5, 1, 0, 4, 3, 2], ⟨(some 82), (.v (.mv (.t 7))), (some ⟨80, true⟩), [(.t 7)]⟩⟩⟩, ⟨9, ⟨[8, 6, 5, 1, 0, 4, 3, 2], ⟨(some 83), (.v (.lenS (.t 82))), (some ⟨80, true⟩), [(.t 82)]⟩⟩⟩, ⟨10, ⟨[7, 9, 8, 6, 5, 1, 0, 4, 3, 2], ⟨(some 84), (.v (.sls 3 (.t 81) none (some (.t 83)))), (some ⟨80, true⟩), [(.t 81), (.t 83)]⟩⟩⟩, ⟨11, ⟨[6, 5, 1, 0, 4, 3, 2], ⟨(some 85), (.v (.mv (.t 7))), (some ⟨80, true⟩), [(.t 7)]⟩⟩⟩, ⟨12, ⟨[10, 7, 9, 8, 11, 6, 5, 1, 0, 4, 3, 2], ⟨(some 86), (.v (.det 20 [⟨false, [.bool]⟩] [(.t 84), (.t 85)])), (some ⟨80, true⟩), [(.k (.fn 20 [])), (.t 84), (.t 85)]⟩⟩⟩, ⟨13, ⟨[12, 10, 7, 9, 8, 11, 6, 5, 1, 0, 4, 3, 2], ⟨(some 87), (.v (.pick (.t 80) (.t 86) (.k (.c (.bool false))))), none, []⟩⟩⟩, ⟨14, ⟨[13, 12, 10, 7, 9, 8, 11, 6, 5, 1, 0, 4, 3, 2], ⟨(some 88), (.v (.mv (.t 87))), none, []⟩⟩⟩, ⟨15, ⟨[14, 13, 12, 10, 7, 9, 8, 11, 6, 5, 1, 0, 4, 3, 2], ⟨(some 89), (.v (.mv (.t 12))), (some ⟨88, true⟩), [(.t 12)]⟩⟩⟩, ⟨16, ⟨[14, 13, 12, 10, 7, 9, 8, 11, 6, 5, 1, 0, 4, 3, 2], ⟨(some 90), (.v (.mv (.t 7))), (some ⟨88, true⟩), [(.t 7)]⟩⟩⟩, ⟨17, ⟨[16, 14, 13, 12, 10, 7, 9, 8, 11, 6, 5, 1, 0, 4, 3, 2], ⟨(some 91), (.v (.lenS (.t 90))), (some ⟨88, true⟩), [(.t 90)]⟩⟩⟩, ⟨18, ⟨[15, 17, 16, 14, 13, 12, 10, 7, 9, 8, 11, 6, 5, 1, 0, 4, 3, 2], ⟨(some 92), (.v (.ia 3 (.t 89) (.t 91))), (some ⟨88, true⟩), [(.t 89), (.t 91)]⟩⟩⟩, ⟨19, ⟨[18, 15, 17, 16, 14, 13, 12, 10, 7, 9, 8, 11, 6, 5, 1, 0, 4, 3, 2], ⟨(some 93), (.v (.lda 3 (.t 92))), (some ⟨88, true⟩), [(.t 92)]⟩⟩⟩, ⟨20, ⟨[14, 13, 12, 10, 7, 9, 8, 11, 6, 5, 1, 0, 4, 3, 2], ⟨(some 94), (.v (.lda 3 (.t 3))), (some ⟨88, true⟩), [(.t 3)]⟩⟩⟩, ⟨21, ⟨[19, 18, 15, 17, 16, 20, 14, 13, 12, 10, 7, 9, 8, 11, 6, 5, 1, 0, 4, 3, 2], ⟨(some 95), (.v (.det 30 [⟨false, [.bool]⟩] [(.t 93), (.t 94)])), (some ⟨88, true⟩), [(.k (.fn 30 [])), (.t 93), (.t 94)]⟩⟩⟩, ⟨22, ⟨[21, 19, 18, 15, 17, 16, 20, 14, 13, 12, 10, 7, 9, 8, 11, 6, 5, 1, 0, 4, 3, 2], ⟨(some 96), (.v (.pick (.t 88) (.t 95) (.k (.c (.bool false))))), none, []⟩⟩⟩, ⟨23, ⟨[22, 21, 19, 18, 15, 17, 16, 20, 14, 13, 12, 10, 7, 9, 8, 11, 6, 5, 1, 0, 4, 3, 2], ⟨(some 97), (.v (.mv (.t 96))), none, []⟩⟩⟩, ⟨24, ⟨[23, 22, 21, 19, 18, 15, 17, 16, 20, 14, 13, 12, 10, 7, 9, 8, 11, 6, 5, 1, 0, 4, 3, 2], ⟨(some 98), (.v (.det 12 [⟨false, [.bool]⟩] [])), (some ⟨97, true⟩), [(.k (.fn 12 []))]⟩⟩⟩, ⟨25, ⟨[24, 23, 22, 21, 19, 18, 15, 17, 16, 20, 14, 13, 12, 10, 7, 9, 8, 11, 6, 5, 1, 0, 4, 3, 2], ⟨(some 99), (.v (.pick (.t 97) (.t 98) (.k (.c (.bool false))))), none, []⟩⟩⟩, ⟨26, ⟨[25, 24, 23, 22, 21, 19, 18, 15, 17, 16, 20, 14, 13, 12, 10, 7, 9, 8, 11, 6, 5, 1, 0, 4, 3, 2], ⟨(some 4), (.v (.mv (.t 99))), none, []⟩⟩⟩]) .ret) .skip)) (.seq (.seq (.ops 0 [⟨(some 13), (.v (.mv (.k (.c (.int .i64 0))))), none, []⟩]) (.block 4 (.loop (.seq (.seq (.ops 0 [⟨(some 100), (.v (.mv (.t 13))), none, []⟩, ⟨(some 101), (.v (.fa 2 (.t 3))), none, []⟩, ⟨(some 102), (.v (.ld (.t 101))), none, []⟩, ⟨(some 103), (.v (.lenS (.t 102))), none, []⟩, ⟨(some 104), (.v (.bin .lss (.t 100) (.t 103))), none, []⟩]) (.cond (.t 104) .skip (.exit 4))) (.seq (.block 5 (.seq (.any 0 [⟨0, ⟨[], ⟨(some 107), (.v (.mv (.t 5))), none, []⟩⟩⟩, ⟨1, ⟨[], ⟨(some 108), (.v (.fa 2 (.t 3))), none, []⟩⟩⟩, ⟨2, ⟨[1], ⟨(some 109), (.v (.ld (.t 108))), none, []⟩⟩⟩, ⟨3, ⟨[], ⟨(some 110), (.v (.mv (.t 13))), none, []⟩⟩⟩, ⟨4, ⟨[2, 1, 3], ⟨(some 111), (.v (.ia 2 (.t 109) (.t 110))), none, []⟩⟩⟩, ⟨5, ⟨[4, 2, 1, 3], ⟨(some 112), (.v (.fa 0 (.t 111))), none, []⟩⟩⟩, ⟨6, ⟨[5, 4, 2, 1, 3], ⟨(some 113), (.v (.ld (.t 112))), none, []⟩⟩⟩, ⟨8, ⟨[], ⟨(some 115), (.v (.mv (.t 9))), none, []⟩⟩⟩, ⟨9, ⟨[], ⟨(some 116), (.v (.mv (.t 13))), none, []⟩⟩⟩, ⟨10, ⟨[8, 9], ⟨(some 117), (.v (.ia 1 (.t 115) (.t 116))), none, []⟩⟩⟩, ⟨11, ⟨[10, 8, 9], ⟨(some 118), (.v (.ld (.t 117))), none, []⟩⟩⟩, ⟨7, ⟨[0, 6, 5, 4, 2, 1, 3], ⟨(some 114), (.h (.call 26 [(.t 107), (.t 113)])), none, []⟩⟩⟩, ⟨12, ⟨[7, 0, 6, 5, 4, 2, 1, 3, 11, 10, 8, 9], ⟨(some 119), (.v (.bin .neq (.t 114) (.t 118))), none, []⟩⟩⟩]) (.cond (.t 119) (.seq (.ops 0 [⟨(some 4), (.v (.mv (.k (.c (.bool false))))), none, []⟩]) .ret) .skip))) (.ops 0 [⟨(some 105), (.v (.mv (.t 13))), none, []⟩, ⟨(some 106), (.v (.bin .add (.t 105) (.k (.c (.int .i64 1))))), none, []⟩, ⟨(some 13), (.v (.mv (.t 106))), none, []⟩])))))) (.seq (.ops 0 [⟨(some 120), (.v (.mv (.t 12))), none, []⟩, ⟨(some 121), (.v (.mv (.t 7))), none, []⟩, ⟨(some 122), (.v (.det 20 [⟨false, [.bool]⟩] [(.t 120), (.t 121)])), none, []⟩, ⟨(some 123), (.v (.mv (.t 122))), none, []⟩, ⟨(some 124), (.v (.mv (.t 5))), (some ⟨123, true⟩), [(.t 5)]⟩, ⟨(some 125), (.h (.call 24 [(.t 124)])), (some ⟨123, true⟩), [(.k (.fn 24 [])), (.t 124)]⟩, ⟨(some 126), (.v (.mv (.t 8))), (some ⟨123, true⟩), [(.t 8)]⟩, ⟨(some 127), (.v (.det 23 [⟨false, [.bool]⟩] [(.t 125), (.t 126)])), (some ⟨123, true⟩), [(.k (.fn 23 [])), (.t 125), (.t 126)]⟩, ⟨(some 128), (.v (.pick (.t 123) (.t 127) (.k (.c (.bool false))))), none, []⟩, ⟨(some 129), (.v (.mv (.t 128))), none, []⟩, ⟨(some 130), (.v (.det 12 [⟨false, [.bool]⟩] [])), (some ⟨129, true⟩), [(.k (.fn 12 []))]⟩, ⟨(some 131), (.v (.pick (.t 129) (.t 130) (.k (.c (.bool false))))), none, []⟩, ⟨(some 4), (.v (.mv (.t 131))), none, []⟩]) .ret)))))))))))), 132, [(.t 4)]⟩
theorem h8 : fnR Try.prog DD 8 = some rf8 := by kernel_rfl
def vc8 (E : Env) (x1 : List (List C)) (x2 : Int) (x3 : Int) (x4 : List (List C)) (Q : List C → Prop) : Prop :=
  spNew  (
  (Imp (E.not (E.lt 40 (E.len x1))) (E.pok 17 [(false, [.bool])] [.c (.sl [.int .i64, .int .i64, .sl [.int .i64, .int .i64]] x1)])) ∧ (∀ r5 : Nat → C, r5 = E.res 17 [.c (.sl [.int .i64, .int .i64, .sl [.int .i64, .int .i64]] x1)] → 
    (Br (E.bite (E.bite (E.bite (E.lt 40 (E.len x1)) true (E.gb (r5 0))) true (E.lt 40 (E.len x4))) true false)
    ((E.pok 12 [(false, [.bool])] []) ∧ (∀ r6 : Nat → C, r6 = E.res 12 [] → 
      (Q [.bool (E.gb (r6 0))])))
    (LoopP3 (fun (l7 : List (List C)) (m8 : List (Int × C)) (i9 : Int) (K10 : (List (List C)) → (List (Int × C)) → (Int) → Prop) =>
      Br (E.lt i9 (E.len x1))
        (((E.le 0 i9) = true) ∧ 
          (spPost (l7) (m8) ((E.gi (E.cell x1 i9 0))) ((E.gi (E.cell x1 i9 1))) ((E.gl (E.cell x1 i9 2))) (fun (m11 : List (Int × C)) (i12 : Int) => 
          K10 (l7) (m11) ((E.add .i64 i9 1))) (fun (l13 : List (List C)) (m14 : List (Int × C)) => 
          K10 (l13) (m14) ((E.add .i64 i9 1)))))
        (spPgs (l7) (m8) (fun (l15 : List (List C)) => 
          spAcc (l7) (m8) (fun (l16 : List (List C)) (i17 : Int) => 
            LoopP2 (fun (l18 : List (List C)) (i19 : Int) (K20 : (List (List C)) → (Int) → Prop) =>
              Br (E.lt i19 (E.len x4))
                (((E.le 0 i19) = true) ∧ 
                  (spBal (l7) (m8) ((E.gi (E.cell x4 i19 0))) (fun (i21 : Int) => 
                  ((E.le (E.pl (E.len l18) (E.len [[.int .i64 i21]])) 17592186044416) = true) ∧ 
                    (K20 ((E.cat l18 [[.int .i64 i21]])) ((E.add .i64 i19 1))))))
                (spPost (l7) (m8) (x2) (x3) (x4) (fun (m22 : List (Int × C)) (i23 : Int) => 
                  spPgs (l7) (m22) (fun (l24 : List (List C)) => 
                    Br (E.eq i23 0)
                      ((Imp (E.eq (E.len l24) (E.add .i64 (E.len l15) 1)) ((E.le 0 0) = true)) ∧ (Imp (E.eq (E.len l24) (E.add .i64 (E.len l15) 1)) ((E.le 0 (E.len l15)) = true)) ∧ (Imp (E.eq (E.len l24) (E.add .i64 (E.len l15) 1)) ((E.le (E.len l15) (E.len l24)) = true)) ∧ 
                        ((Imp (E.eq (E.len l24) (E.add .i64 (E.len l15) 1)) (E.pok 20 [(false, [.bool])] [.c (.sl [.int .i64, .int .i64, .sl [.int .i64, .int .i64]] (E.cut l24 0 (E.pl 0 (E.mi (E.len l15) 0)))), .c (.sl [.int .i64, .int .i64, .sl [.int .i64, .int .i64]] l15)])) ∧ (∀ r25 : Nat → C, r25 = E.res 20 [.c (.sl [.int .i64, .int .i64, .sl [.int .i64, .int .i64]] (E.cut l24 0 (E.pl 0 (E.mi (E.len l15) 0)))), .c (.sl [.int .i64, .int .i64, .sl [.int .i64, .int .i64]] l15)] → 
                        ((Imp (E.bite (E.eq (E.len l24) (E.add .i64 (E.len l15) 1)) (E.gb (r25 0)) false) ((E.le 0 (E.len l15)) = true)) ∧ (Imp (E.bite (E.eq (E.len l24) (E.add .i64 (E.len l15) 1)) (E.gb (r25 0)) false) ((E.lt (E.len l15) (E.len l24)) = true)) ∧ 
                        ((Imp (E.bite (E.eq (E.len l24) (E.add .i64 (E.len l15) 1)) (E.gb (r25 0)) false) (E.pok 30 [(false, [.bool])] [.agg [.c (.int .i64 (E.gi (E.cell l24 (E.len l15) 0))), .c (.int .i64 (E.gi (E.cell l24 (E.len l15) 1))), .c (.sl [.int .i64, .int .i64] (E.gl (E.cell l24 (E.len l15) 2)))], .agg [.c (.int .i64 x2), .c (.int .i64 x3), .c (.sl [.int .i64, .int .i64] x4)]])) ∧ (∀ r26 : Nat → C, r26 = E.res 30 [.agg [.c (.int .i64 (E.gi (E.cell l24 (E.len l15) 0))), .c (.int .i64 (E.gi (E.cell l24 (E.len l15) 1))), .c (.sl [.int .i64, .int .i64] (E.gl (E.cell l24 (E.len l15) 2)))], .agg [.c (.int .i64 x2), .c (.int .i64 x3), .c (.sl [.int .i64, .int .i64] x4)]] → 
                        ((Imp (E.bite (E.bite (E.eq (E.len l24) (E.add .i64 (E.len l15) 1)) (E.gb (r25 0)) false) (E.gb (r26 0)) false) (E.pok 12 [(false, [.bool])] [])) ∧ (∀ r27 : Nat → C, r27 = E.res 12 [] → 
                        (Q [.bool (E.bite (E.bite (E.bite (E.eq (E.len l24) (E.add .i64 (E.len l15) 1)) (E.gb (r25 0)) false) (E.gb (r26 0)) false) (E.gb (r27 0)) false)])))))))))
                      (LoopP1 (fun (i28 : Int) (K29 : (Int) → Prop) =>
                        Br (E.lt i28 (E.len x4))
                          (((E.le 0 i28) = true) ∧ 
                            (((E.lt i28 (E.len l18)) = true) ∧ 
                            (spBal (l7) (m22) ((E.gi (E.cell x4 i28 0))) (fun (i30 : Int) => 
                            Br (E.not (E.eq i30 (E.gi (E.cell l18 i28 0))))
                              (Q [.bool false])
                              (K29 ((E.add .i64 i28 1)))))))
                          ((E.pok 20 [(false, [.bool])] [.c (.sl [.int .i64, .int .i64, .sl [.int .i64, .int .i64]] l24), .c (.sl [.int .i64, .int .i64, .sl [.int .i64, .int .i64]] l15)]) ∧ (∀ r31 : Nat → C, r31 = E.res 20 [.c (.sl [.int .i64, .int .i64, .sl [.int .i64, .int .i64]] l24), .c (.sl [.int .i64, .int .i64, .sl [.int .i64, .int .i64]] l15)] → 
                            (((E.gb (r31 0)) = true) ∧ 
                            (spAcc (l7) (m22) (fun (l32 : List (List C)) (i33 : Int) => 
                            (Imp (E.gb (r31 0)) (E.pok 23 [(false, [.bool])] [.c (.sl [.int .i64] (E.cut l32 0 (E.pl 0 i33))), .c (.sl [.int .i64] (E.cut l16 0 (E.pl 0 i17)))])) ∧ (∀ r34 : Nat → C, r34 = E.res 23 [.c (.sl [.int .i64] (E.cut l32 0 (E.pl 0 i33))), .c (.sl [.int .i64] (E.cut l16 0 (E.pl 0 i17)))] → 
                              ((Imp (E.bite (E.gb (r31 0)) (E.gb (r34 0)) false) (E.pok 12 [(false, [.bool])] [])) ∧ (∀ r35 : Nat → C, r35 = E.res 12 [] → 
                              (Q [.bool (E.bite (E.bite (E.gb (r31 0)) (E.gb (r34 0)) false) (E.gb (r35 0)) false)]))))))))))
                        (0)))) (fun (l36 : List (List C)) (m37 : List (Int × C)) => 
                  spPgs (l36) (m37) (fun (l38 : List (List C)) => 
                    Br (E.eq 0 0)
                      ((Imp (E.eq (E.len l38) (E.add .i64 (E.len l15) 1)) ((E.le 0 0) = true)) ∧ (Imp (E.eq (E.len l38) (E.add .i64 (E.len l15) 1)) ((E.le 0 (E.len l15)) = true)) ∧ (Imp (E.eq (E.len l38) (E.add .i64 (E.len l15) 1)) ((E.le (E.len l15) (E.len l38)) = true)) ∧ 
                        ((Imp (E.eq (E.len l38) (E.add .i64 (E.len l15) 1)) (E.pok 20 [(false, [.bool])] [.c (.sl [.int .i64, .int .i64, .sl [.int .i64, .int .i64]] (E.cut l38 0 (E.pl 0 (E.mi (E.len l15) 0)))), .c (.sl [.int .i64, .int .i64, .sl [.int .i64, .int .i64]] l15)])) ∧ (∀ r39 : Nat → C, r39 = E.res 20 [.c (.sl [.int .i64, .int .i64, .sl [.int .i64, .int .i64]] (E.cut l38 0 (E.pl 0 (E.mi (E.len l15) 0)))), .c (.sl [.int .i64, .int .i64, .sl [.int .i64, .int .i64]] l15)] → 
                        ((Imp (E.bite (E.eq (E.len l38) (E.add .i64 (E.len l15) 1)) (E.gb (r39 0)) false) ((E.le 0 (E.len l15)) = true)) ∧ (Imp (E.bite (E.eq (E.len l38) (E.add .i64 (E.len l15) 1)) (E.gb (r39 0)) false) ((E.lt (E.len l15) (E.len l38)) = true)) ∧ 
                        ((Imp (E.bite (E.eq (E.len l38) (E.add .i64 (E.len l15) 1)) (E.gb (r39 0)) false) (E.pok 30 [(false, [.bool])] [.agg [.c (.int .i64 (E.gi (E.cell l38 (E.len l15) 0))), .c (.int .i64 (E.gi (E.cell l38 (E.len l15) 1))), .c (.sl [.int .i64, .int .i64] (E.gl (E.cell l38 (E.len l15) 2)))], .agg [.c (.int .i64 x2), .c (.int .i64 x3), .c (.sl [.int .i64, .int .i64] x4)]])) ∧ (∀ r40 : Nat → C, r40 = E.res 30 [.agg [.c (.int .i64 (E.gi (E.cell l38 (E.len l15) 0))), .c (.int .i64 (E.gi (E.cell l38 (E.len l15) 1))), .c (.sl [.int .i64, .int .i64] (E.gl (E.cell l38 (E.len l15) 2)))], .agg [.c (.int .i64 x2), .c (.int .i64 x3), .c (.sl [.int .i64, .int .i64] x4)]] → 
                        ((Imp (E.bite (E.bite (E.eq (E.len l38) (E.add .i64 (E.len l15) 1)) (E.gb (r39 0)) false) (E.gb (r40 0)) false) (E.pok 12 [(false, [.bool])] [])) ∧ (∀ r41 : Nat → C, r41 = E.res 12 [] → 
                        (Q [.bool (E.bite (E.bite (E.bite (E.eq (E.len l38) (E.add .i64 (E.len l15) 1)) (E.gb (r39 0)) false) (E.gb (r40 0)) false) (E.gb (r41 0)) false)])))))))))
                      (LoopP1 (fun (i42 : Int) (K43 : (Int) → Prop) =>
                        Br (E.lt i42 (E.len x4))
                          (((E.le 0 i42) = true) ∧ 
                            (((E.lt i42 (E.len l18)) = true) ∧ 
                            (spBal (l36) (m37) ((E.gi (E.cell x4 i42 0))) (fun (i44 : Int) => 
                            Br (E.not (E.eq i44 (E.gi (E.cell l18 i42 0))))
                              (Q [.bool false])
                              (K43 ((E.add .i64 i42 1)))))))
                          ((E.pok 20 [(false, [.bool])] [.c (.sl [.int .i64, .int .i64, .sl [.int .i64, .int .i64]] l38), .c (.sl [.int .i64, .int .i64, .sl [.int .i64, .int .i64]] l15)]) ∧ (∀ r45 : Nat → C, r45 = E.res 20 [.c (.sl [.int .i64, .int .i64, .sl [.int .i64, .int .i64]] l38), .c (.sl [.int .i64, .int .i64, .sl [.int .i64, .int .i64]] l15)] → 
                            (((E.gb (r45 0)) = true) ∧ 
                            (spAcc (l36) (m37) (fun (l46 : List (List C)) (i47 : Int) => 
                            (Imp (E.gb (r45 0)) (E.pok 23 [(false, [.bool])] [.c (.sl [.int .i64] (E.cut l46 0 (E.pl 0 i47))), .c (.sl [.int .i64] (E.cut l16 0 (E.pl 0 i17)))])) ∧ (∀ r48 : Nat → C, r48 = E.res 23 [.c (.sl [.int .i64] (E.cut l46 0 (E.pl 0 i47))), .c (.sl [.int .i64] (E.cut l16 0 (E.pl 0 i17)))] → 
                              ((Imp (E.bite (E.gb (r45 0)) (E.gb (r48 0)) false) (E.pok 12 [(false, [.bool])] [])) ∧ (∀ r49 : Nat → C, r49 = E.res 12 [] → 
                              (Q [.bool (E.bite (E.bite (E.gb (r45 0)) (E.gb (r48 0)) false) (E.gb (r49 0)) false)]))))))))))
                        (0))))))
              ([]) (0)))))
      ([]) ([]) (0)))))
theorem w8 {P : Program} {tbl : FuncId → List A → List C} (ce15 : NewC P 15) (ce18 : PostC P 18) (ce21 : PgsC P 21) (ce24 : AccC P 24) (ce26 : BalC P 26) {x1 : List (List C)} {x2 : Int} {x3 : Int} {x4 : List (List C)} {row : List C} (h : vc8 (stdE P tbl) x1 x2 x3 x4 fun c => c = row) : WPg P tbl rf8 [(false, [.bool])] row [.c (.sl [.int .i64, .int .i64, .sl [.int .i64, .int .i64]] x1), .agg [.c (.int .i64 x2), .c (.int .i64 x3), .c (.sl [.int .i64, .int .i64] x4)]] := by
  refine ⟨?_⟩
  revert h
  generalize hE : stdE P tbl = E
  intro h
  unfold vc8 at h
  cbv
  refine HCall.mk ce15.1 ((ACalls.frame (ce15.2  _ h) (H := _) (tgt := []) rfl (by decide) ?_).mono fun r H' hq => ?_)
  · intro i o ho
    cases ho
  obtain ⟨r1, H1', ⟨h, rfl, rfl⟩, _, rfl, rfl⟩ := hq
  cbv
  refine ⟨⟨fun hh => hh⟩, ?_⟩
  have c50 := h.1
  refine ⟨c50, ?_⟩
  replace h := h.2 _ rfl
  refine ⟨⟨fun hh => hh⟩, ?_⟩
  refine ⟨⟨fun hh => hh⟩, ?_⟩
  refine ⟨⟨fun hh => hh⟩, ?_⟩
  refine ⟨⟨fun hh => hh⟩, ?_⟩
  refine ⟨⟨fun hh => hh⟩, ?_⟩
  refine ⟨⟨fun hh => hh⟩, ?_⟩
  refine ⟨⟨fun hh => hh⟩, ?_⟩
  refine ⟨fun hb51 => ?_, fun hb51 => ?_⟩
  · replace h := h.t hb51
    have c52 := h.1
    refine ⟨c52, ?_⟩
    replace h := h.2 _ rfl
    have h : _ = row := h
    subst h
    repeat' (first | exact trivial | exact rfl | refine And.intro ?_ ?_)
  · replace h := h.f hb51
    obtain ⟨I, μ, h0, hI⟩ := h
    refine LoopW.inv (fun R R' s h k => RCode.wp_mono _ R R' s h k) (fun p : List (List C) × List (Int × C) × Int => (fun (l7 : List (List C)) (m8 : List (Int × C)) (i9 : Int) => (⟨[.c (.sl [.int .i64, .int .i64, .sl [.int .i64, .int .i64]] x1), .u, .u, .ptr 0 0, .u, .ptr 1 0, .c (.int .i64 i9), .u, .u, .u, .u, .u, .u, .u, .u, .u, .u, .u, .u, .u, .u, .u, .u, .u, .u, .u, .u, .u, .u, .u, .u, .u, .u, .u, .u, .u, .u, .u, .u, .u, .u, .u, .u, .u, .u, .u, .u, .u, .u, .u, .u, .u, .u, .u, .u, .u, .u, .u, .u, .u, .u, .u, .u, .u, .u, .u, .u, .u, .u, .u, .u, .u, .u, .u, .u, .u, .u, .u, .u, .u, .u, .u, .u, .u, .u, .u, .u, .u, .u, .u, .u, .u, .u, .u, .u, .u, .u, .u, .u, .u, .u, .u, .u, .u, .u, .u, .u, .u, .u, .u, .u, .u, .u, .u, .u, .u, .u, .u, .u, .u, .u, .u, .u, .u, .u, .u, .u, .u, .u, .u, .u, .u], [.box 24 [.c (.int .i64 x2), .c (.int .i64 x3), .c (.sl [.int .i64, .int .i64] x4)], .box 54 [.gr 2, .map 3], .arr 24 [.int .i64, .int .i64, .sl [.int .i64, .int .i64]] l7, .mp .i64 (.int .i64) m8]⟩ : St)) p.1 p.2.1 p.2.2) (fun p => I p.1 p.2.1 p.2.2) (fun p => μ p.1 p.2.1 p.2.2) (_, _, _) h0 ?_ ?_
    · refine GSt.ren [0, 1, 2, 3] rfl rfl rfl (fun i hi => absurd hi (Nat.not_lt_zero i)) (Nat.zero_le _) ?_ ?_
      all_goals (repeat' (first | exact trivial | exact Or.inl rfl | exact Or.inr rfl | refine And.intro ?_ ?_))
    · rintro ⟨l7, m8, i9⟩ h
      replace h := hI l7 m8 i9 h
      cbv
      refine ⟨fun hb53 => ?_, fun hb53 => ?_⟩
      · replace h := h.t hb53
        have c54 := h.1
        refine ⟨c54, ?_⟩
        replace h := h.2
        refine ⟨hb53, ?_⟩
        refine HCall.mk ce18.1 ((ACalls.frame (ce18.2.1 _ _ _ _ _ _ _ h) (H := _) (tgt := [1, 2, 3]) rfl (by decide) ?_).mono fun r H' hq => ?_)
        · intro i o ho
          match i, ho with
          | 0, ho => cases ho; rfl
          | 1, ho => cases ho; rfl
          | 2, ho => cases ho; rfl
        obtain ⟨r1, H1', hd, _, hr1, hr2⟩ := hq
        rcases hd with ⟨m11, i12, h, rfl, rfl⟩ | ⟨l13, m14, h, rfl, rfl⟩
        · subst hr1 hr2
          cbv
          refine ⟨(_, _, _), h.1, GSt.ren [0, 1, 2, 3] rfl rfl rfl (fun i hi => absurd hi (Nat.not_lt_zero i)) (Nat.zero_le _) ?_ ?_, h.2⟩
          all_goals (repeat' (first | exact trivial | exact Or.inl rfl | exact Or.inr rfl | refine And.intro ?_ ?_))
        · subst hr1 hr2
          cbv
          refine ⟨(_, _, _), h.1, GSt.ren [0, 1, 4, 3] rfl rfl rfl (fun i hi => absurd hi (Nat.not_lt_zero i)) (Nat.zero_le _) ?_ ?_, h.2⟩
          all_goals (repeat' (first | exact trivial | exact Or.inl rfl | exact Or.inr rfl | refine And.intro ?_ ?_))
      · replace h := h.f hb53
        refine HCall.mk ce21.1 ((ACalls.frame (ce21.2.1 _ _ _ h) (H := _) (tgt := [1, 2, 3]) rfl (by decide) ?_).mono fun r H' hq => ?_)
        · intro i o ho
          match i, ho with
          | 0, ho => cases ho; rfl
          | 1, ho => cases ho; rfl
          | 2, ho => cases ho; rfl
        obtain ⟨r1, H1', ⟨l15, h, rfl, rfl⟩, _, rfl, rfl⟩ := hq
        cbv
        refine HCall.mk ce24.1 ((ACalls.frame (ce24.2.1 _ _ _ h) (H := _) (tgt := [1, 2, 3]) rfl (by decide) ?_).mono fun r H' hq => ?_)
        · intro i o ho
          match i, ho with
          | 0, ho => cases ho; rfl
          | 1, ho => cases ho; rfl
          | 2, ho => cases ho; rfl
        obtain ⟨r1, H1', ⟨l16, i17, h, rfl, rfl⟩, _, rfl, rfl⟩ := hq
        cbv
        obtain ⟨I, μ, h0, hI⟩ := h
        refine LoopW.inv (fun R R' s h k => RCode.wp_mono _ R R' s h k) (fun p : List (List C) × Int => (fun (l18 : List (List C)) (i19 : Int) => (⟨[.u, .u, .u, .ptr 0 0, .u, .ptr 1 0, .u, .gr 4, .own 5 0 i17, .gr 6, .c (.int .i64 i19), .u, .u, .u, .u, .u, .u, .u, .u, .u, .u, .u, .u, .u, .u, .u, .u, .u, .u, .u, .u, .u, .u, .u, .u, .u, .u, .u, .u, .u, .u, .u, .u, .u, .u, .u, .u, .u, .u, .u, .u, .u, .u, .u, .u, .u, .u, .u, .u, .u, .u, .u, .u, .u, .u, .u, .u, .u, .u, .u, .u, .u, .u, .u, .u, .u, .u, .u, .u, .u, .u, .u, .u, .u, .u, .u, .u, .u, .u, .u, .u, .u, .u, .u, .u, .u, .u, .u, .u, .u, .u, .u, .u, .u, .u, .u, .u, .u, .u, .u, .u, .u, .u, .u, .u, .u, .u, .u, .u, .u, .u, .u, .u, .u, .u, .u, .u, .u, .u, .u, .u, .u], [.box 24 [.c (.int .i64 x2), .c (.int .i64 x3), .c (.sl [.int .i64, .int .i64] x4)], .box 54 [.gr 2, .map 3], .arr 24 [.int .i64, .int .i64, .sl [.int .i64, .int .i64]] l7, .mp .i64 (.int .i64) m8, .arr 24 [.int .i64, .int .i64, .sl [.int .i64, .int .i64]] l15, .arr 3 [.int .i64] l16, .arr 3 [.int .i64] l18]⟩ : St)) p.1 p.2) (fun p => I p.1 p.2) (fun p => μ p.1 p.2) (_, _) h0 ?_ ?_
        · refine GSt.trans (GSt.nil 9 3 [.int .i64] rfl) (GSt.ren [0, 1, 2, 3, 4, 5, 6] rfl rfl rfl (fun i hi => absurd hi (Nat.not_lt_zero i)) (Nat.zero_le _) ?_ ?_)
          all_goals (repeat' (first | exact trivial | exact Or.inl rfl | exact Or.inr rfl | refine And.intro ?_ ?_))
        · rintro ⟨l18, i19⟩ h
          replace h := hI l18 i19 h
          cbv
          refine ⟨fun hb55 => ?_, fun hb55 => ?_⟩
          · replace h := h.t hb55
            have c56 := h.1
            refine ⟨c56, ?_⟩
            replace h := h.2
            refine ⟨hb55, ?_⟩
            refine HCall.mk ce26.1 ((ACalls.frame (ce26.2.1 _ _ _ _ h) (H := _) (tgt := [1, 2, 3]) rfl (by decide) ?_).mono fun r H' hq => ?_)
            · intro i o ho
              match i, ho with
              | 0, ho => cases ho; rfl
              | 1, ho => cases ho; rfl
              | 2, ho => cases ho; rfl
            obtain ⟨r1, H1', ⟨i21, h, rfl, rfl⟩, _, rfl, rfl⟩ := hq
            cbv
            have c57 := h.1
            refine ⟨c57, ?_⟩
            replace h := h.2
            refine ⟨(_, _), h.1, GSt.ren [0, 1, 2, 3, 4, 5, 8] rfl rfl rfl (fun i hi => absurd hi (Nat.not_lt_zero i)) (Nat.zero_le _) ?_ ?_, h.2⟩
            all_goals (repeat' (first | exact trivial | exact Or.inl rfl | exact Or.inr rfl | refine And.intro ?_ ?_))
          · replace h := h.f hb55
            refine HCall.mk ce18.1 ((ACalls.frame (ce18.2.1 _ _ _ _ _ _ _ h) (H := _) (tgt := [1, 2, 3]) rfl (by decide) ?_).mono fun r H' hq => ?_)
            · intro i o ho
              match i, ho with
              | 0, ho => cases ho; rfl
              | 1, ho => cases ho; rfl
              | 2, ho => cases ho; rfl
            obtain ⟨r1, H1', hd, _, hr1, hr2⟩ := hq
            rcases hd with ⟨m22, i23, h, rfl, rfl⟩ | ⟨l36, m37, h, rfl, rfl⟩
            · subst hr1 hr2
              cbv
              refine HCall.mk ce21.1 ((ACalls.frame (ce21.2.1 _ _ _ h) (H := _) (tgt := [1, 2, 3]) rfl (by decide) ?_).mono fun r H' hq => ?_)
              · intro i o ho
                match i, ho with
                | 0, ho => cases ho; rfl
                | 1, ho => cases ho; rfl
                | 2, ho => cases ho; rfl
              obtain ⟨r1, H1', ⟨l24, h, rfl, rfl⟩, _, rfl, rfl⟩ := hq
              cbv
              refine ⟨fun hb58 => ?_, fun hb58 => ?_⟩
              · replace h := h.t hb58
                refine ⟨⟨fun hh => hh⟩, ?_⟩
                refine ⟨⟨fun hh => hh⟩, ?_⟩
                refine ⟨⟨fun hh => hh⟩, ?_⟩
                have c59 := h.1
                refine ⟨c59, ?_⟩
                replace h := h.2
                have c60 := h.1
                refine ⟨c60, ?_⟩
                replace h := h.2
                have c61 := h.1
                refine ⟨c61, ?_⟩
                replace h := h.2
                refine ⟨⟨fun hh => hh⟩, ?_⟩
                refine ⟨⟨fun hh => hh⟩, ?_⟩
                have c62 := h.1
                refine ⟨c62, ?_⟩
                replace h := h.2 _ rfl
                refine ⟨⟨fun hh => hh⟩, ?_⟩
                refine ⟨⟨fun hh => hh⟩, ?_⟩
                refine ⟨⟨fun hh => hh⟩, ?_⟩
                refine ⟨⟨fun hh => hh⟩, ?_⟩
                have c63 := h.1
                refine ⟨c63, ?_⟩
                replace h := h.2
                have c64 := h.1
                refine ⟨c64, ?_⟩
                replace h := h.2
                refine ⟨⟨fun hh => hh⟩, ?_⟩
                refine ⟨⟨fun hh => hh⟩, ?_⟩
                refine ⟨⟨fun hh => hh⟩, ?_⟩
                have c65 := h.1
                refine ⟨c65, ?_⟩
                replace h := h.2 _ rfl
                refine ⟨⟨fun hh => hh⟩, ?_⟩
                have c66 := h.1
                refine ⟨c66, ?_⟩
                replace h := h.2 _ rfl
                refine ⟨⟨fun hh => hh⟩, ?_⟩
                have h : _ = row := h
                subst h
                repeat' (first | exact trivial | exact rfl | refine And.intro ?_ ?_)
              · replace h := h.f hb58
                obtain ⟨I, μ, h0, hI⟩ := h
                refine LoopW.inv (fun R R' s h k => RCode.wp_mono _ R R' s h k) (fun p : Int => (fun (i28 : Int) => (⟨[.u, .u, .u, .ptr 0 0, .u, .ptr 1 0, .u, .gr 4, .own 5 0 i17, .c (.sl [.int .i64] l18), .u, .u, .gr 6, .c (.int .i64 i28), .u, .u, .u, .u, .u, .u, .u, .u, .u, .u, .u, .u, .u, .u, .u, .u, .u, .u, .u, .u, .u, .u, .u, .u, .u, .u, .u, .u, .u, .u, .u, .u, .u, .u, .u, .u, .u, .u, .u, .u, .u, .u, .u, .u, .u, .u, .u, .u, .u, .u, .u, .u, .u, .u, .u, .u, .u, .u, .u, .u, .u, .u, .u, .u, .u, .u, .u, .u, .u, .u, .u, .u, .u, .u, .u, .u, .u, .u, .u, .u, .u, .u, .u, .u, .u, .u, .u, .u, .u, .u, .u, .u, .u, .u, .u, .u, .u, .u, .u, .u, .u, .u, .u, .u, .u, .u, .u, .u, .u, .u, .u, .u, .u, .u, .u, .u, .u, .u], [.box 24 [.c (.int .i64 x2), .c (.int .i64 x3), .c (.sl [.int .i64, .int .i64] x4)], .box 54 [.gr 2, .map 3], .arr 24 [.int .i64, .int .i64, .sl [.int .i64, .int .i64]] l7, .mp .i64 (.int .i64) m22, .arr 24 [.int .i64, .int .i64, .sl [.int .i64, .int .i64]] l15, .arr 3 [.int .i64] l16, .arr 24 [.int .i64, .int .i64, .sl [.int .i64, .int .i64]] l24]⟩ : St)) p) (fun p => I p) (fun p => μ p) _ h0 ?_ ?_
                · refine GSt.trans (GSt.frzGr 9 6 rfl rfl) (GSt.ren [0, 1, 2, 3, 4, 5, 7] rfl rfl rfl (fun i hi => absurd hi (Nat.not_lt_zero i)) (Nat.zero_le _) ?_ ?_)
                  all_goals (repeat' (first | exact trivial | exact Or.inl rfl | exact Or.inr rfl | refine And.intro ?_ ?_))
                · rintro i28 h
                  replace h := hI i28 h
                  cbv
                  refine ⟨fun hb67 => ?_, fun hb67 => ?_⟩
                  · replace h := h.t hb67
                    have c68 := h.1
                    refine ⟨c68, ?_⟩
                    replace h := h.2
                    refine ⟨hb67, ?_⟩
                    refine ⟨c68, ?_⟩
                    have c69 := h.1
                    refine ⟨c69, ?_⟩
                    replace h := h.2
                    refine HCall.mk ce26.1 ((ACalls.frame (ce26.2.1 _ _ _ _ h) (H := _) (tgt := [1, 2, 3]) rfl (by decide) ?_).mono fun r H' hq => ?_)
                    · intro i o ho
                      match i, ho with
                      | 0, ho => cases ho; rfl
                      | 1, ho => cases ho; rfl
                      | 2, ho => cases ho; rfl
                    obtain ⟨r1, H1', ⟨i30, h, rfl, rfl⟩, _, rfl, rfl⟩ := hq
                    cbv
                    refine ⟨fun hb70 => ?_, fun hb70 => ?_⟩
                    · replace h := h.t hb70
                      have h : _ = row := h
                      subst h
                      repeat' (first | exact trivial | exact rfl | refine And.intro ?_ ?_)
                    · replace h := h.f hb70
                      refine ⟨_, h.1, GSt.ren [0, 1, 2, 3, 4, 5, 6] rfl rfl rfl (fun i hi => absurd hi (Nat.not_lt_zero i)) (Nat.zero_le _) ?_ ?_, h.2⟩
                      all_goals (repeat' (first | exact trivial | exact Or.inl rfl | exact Or.inr rfl | refine And.intro ?_ ?_))
                  · replace h := h.f hb67
                    have c71 := h.1
                    refine ⟨c71, ?_⟩
                    replace h := h.2 _ rfl
                    refine ⟨⟨fun hh => hh⟩, ?_⟩
                    have hb72 := h.1
                    refine ⟨fun _ => ?_, fun hb => absurd (hb.symm.trans hb72) Bool.false_ne_true⟩
                    replace h := h.2
                    refine HCall.mk ce24.1 ((ACalls.frame (ce24.2.1 _ _ _ h) (H := _) (tgt := [1, 2, 3]) rfl (by decide) ?_).mono fun r H' hq => ?_)
                    · intro i o ho
                      match i, ho with
                      | 0, ho => cases ho; rfl
                      | 1, ho => cases ho; rfl
                      | 2, ho => cases ho; rfl
                    obtain ⟨r1, H1', ⟨l32, i33, h, rfl, rfl⟩, _, rfl, rfl⟩ := hq
                    cbv
                    refine ⟨⟨fun _ => hb72⟩, ?_⟩
                    have c73 := h.1
                    refine ⟨c73, ?_⟩
                    replace h := h.2 _ rfl
                    refine ⟨⟨fun _ => hb72⟩, ?_⟩
                    have c74 := h.1
                    refine ⟨c74, ?_⟩
                    replace h := h.2 _ rfl
                    refine ⟨⟨fun hh => hh⟩, ?_⟩
                    have h : _ = row := h
                    subst h
                    repeat' (first | exact trivial | exact rfl | refine And.intro ?_ ?_)
            · subst hr1 hr2
              cbv
              refine HCall.mk ce21.1 ((ACalls.frame (ce21.2.1 _ _ _ h) (H := _) (tgt := [1, 7, 3]) rfl (by decide) ?_).mono fun r H' hq => ?_)
              · intro i o ho
                match i, ho with
                | 0, ho => cases ho; rfl
                | 1, ho => cases ho; rfl
                | 2, ho => cases ho; rfl
              obtain ⟨r1, H1', ⟨l38, h, rfl, rfl⟩, _, rfl, rfl⟩ := hq
              cbv
              refine ⟨fun hb75 => ?_, fun hb75 => ?_⟩
              · replace h := h.t hb75
                refine ⟨⟨fun hh => hh⟩, ?_⟩
                refine ⟨⟨fun hh => hh⟩, ?_⟩
                refine ⟨⟨fun hh => hh⟩, ?_⟩
                have c76 := h.1
                refine ⟨c76, ?_⟩
                replace h := h.2
                have c77 := h.1
                refine ⟨c77, ?_⟩
                replace h := h.2
                have c78 := h.1
                refine ⟨c78, ?_⟩
                replace h := h.2
                refine ⟨⟨fun hh => hh⟩, ?_⟩
                refine ⟨⟨fun hh => hh⟩, ?_⟩
                have c79 := h.1
                refine ⟨c79, ?_⟩
                replace h := h.2 _ rfl
                refine ⟨⟨fun hh => hh⟩, ?_⟩
                refine ⟨⟨fun hh => hh⟩, ?_⟩
                refine ⟨⟨fun hh => hh⟩, ?_⟩
                refine ⟨⟨fun hh => hh⟩, ?_⟩
                have c80 := h.1
                refine ⟨c80, ?_⟩
                replace h := h.2
                have c81 := h.1
                refine ⟨c81, ?_⟩
                replace h := h.2
                refine ⟨⟨fun hh => hh⟩, ?_⟩
                refine ⟨⟨fun hh => hh⟩, ?_⟩
                refine ⟨⟨fun hh => hh⟩, ?_⟩
                have c82 := h.1
                refine ⟨c82, ?_⟩
                replace h := h.2 _ rfl
                refine ⟨⟨fun hh => hh⟩, ?_⟩
                have c83 := h.1
                refine ⟨c83, ?_⟩
                replace h := h.2 _ rfl
                refine ⟨⟨fun hh => hh⟩, ?_⟩
                have h : _ = row := h
                subst h
                repeat' (first | exact trivial | exact rfl | refine And.intro ?_ ?_)
              · replace h := h.f hb75
                obtain ⟨I, μ, h0, hI⟩ := h
                refine LoopW.inv (fun R R' s h k => RCode.wp_mono _ R R' s h k) (fun p : Int => (fun (i42 : Int) => (⟨[.u, .u, .u, .ptr 0 0, .u, .ptr 1 0, .u, .gr 4, .own 5 0 i17, .c (.sl [.int .i64] l18), .u, .u, .gr 6, .c (.int .i64 i42), .u, .u, .u, .u, .u, .u, .u, .u, .u, .u, .u, .u, .u, .u, .u, .u, .u, .u, .u, .u, .u, .u, .u, .u, .u, .u, .u, .u, .u, .u, .u, .u, .u, .u, .u, .u, .u, .u, .u, .u, .u, .u, .u, .u, .u, .u, .u, .u, .u, .u, .u, .u, .u, .u, .u, .u, .u, .u, .u, .u, .u, .u, .u, .u, .u, .u, .u, .u, .u, .u, .u, .u, .u, .u, .u, .u, .u, .u, .u, .u, .u, .u, .u, .u, .u, .u, .u, .u, .u, .u, .u, .u, .u, .u, .u, .u, .u, .u, .u, .u, .u, .u, .u, .u, .u, .u, .u, .u, .u, .u, .u, .u, .u, .u, .u, .u, .u, .u], [.box 24 [.c (.int .i64 x2), .c (.int .i64 x3), .c (.sl [.int .i64, .int .i64] x4)], .box 54 [.gr 2, .map 3], .arr 24 [.int .i64, .int .i64, .sl [.int .i64, .int .i64]] l36, .mp .i64 (.int .i64) m37, .arr 24 [.int .i64, .int .i64, .sl [.int .i64, .int .i64]] l15, .arr 3 [.int .i64] l16, .arr 24 [.int .i64, .int .i64, .sl [.int .i64, .int .i64]] l38]⟩ : St)) p) (fun p => I p) (fun p => μ p) _ h0 ?_ ?_
                · refine GSt.trans (GSt.frzGr 9 6 rfl rfl) (GSt.ren [0, 1, 7, 3, 4, 5, 8] rfl rfl rfl (fun i hi => absurd hi (Nat.not_lt_zero i)) (Nat.zero_le _) ?_ ?_)
                  all_goals (repeat' (first | exact trivial | exact Or.inl rfl | exact Or.inr rfl | refine And.intro ?_ ?_))
                · rintro i42 h
                  replace h := hI i42 h
                  cbv
                  refine ⟨fun hb84 => ?_, fun hb84 => ?_⟩
                  · replace h := h.t hb84
                    have c85 := h.1
                    refine ⟨c85, ?_⟩
                    replace h := h.2
                    refine ⟨hb84, ?_⟩
                    refine ⟨c85, ?_⟩
                    have c86 := h.1
                    refine ⟨c86, ?_⟩
                    replace h := h.2
                    refine HCall.mk ce26.1 ((ACalls.frame (ce26.2.1 _ _ _ _ h) (H := _) (tgt := [1, 2, 3]) rfl (by decide) ?_).mono fun r H' hq => ?_)
                    · intro i o ho
                      match i, ho with
                      | 0, ho => cases ho; rfl
                      | 1, ho => cases ho; rfl
                      | 2, ho => cases ho; rfl
                    obtain ⟨r1, H1', ⟨i44, h, rfl, rfl⟩, _, rfl, rfl⟩ := hq
                    cbv
                    refine ⟨fun hb87 => ?_, fun hb87 => ?_⟩
                    · replace h := h.t hb87
                      have h : _ = row := h
                      subst h
                      repeat' (first | exact trivial | exact rfl | refine And.intro ?_ ?_)
                    · replace h := h.f hb87
                      refine ⟨_, h.1, GSt.ren [0, 1, 2, 3, 4, 5, 6] rfl rfl rfl (fun i hi => absurd hi (Nat.not_lt_zero i)) (Nat.zero_le _) ?_ ?_, h.2⟩
                      all_goals (repeat' (first | exact trivial | exact Or.inl rfl | exact Or.inr rfl | refine And.intro ?_ ?_))
                  · replace h := h.f hb84
                    have c88 := h.1
                    refine ⟨c88, ?_⟩
                    replace h := h.2 _ rfl
                    refine ⟨⟨fun hh => hh⟩, ?_⟩
                    have hb89 := h.1
                    refine ⟨fun _ => ?_, fun hb => absurd (hb.symm.trans hb89) Bool.false_ne_true⟩
                    replace h := h.2
                    refine HCall.mk ce24.1 ((ACalls.frame (ce24.2.1 _ _ _ h) (H := _) (tgt := [1, 2, 3]) rfl (by decide) ?_).mono fun r H' hq => ?_)
                    · intro i o ho
                      match i, ho with
                      | 0, ho => cases ho; rfl
                      | 1, ho => cases ho; rfl
                      | 2, ho => cases ho; rfl
                    obtain ⟨r1, H1', ⟨l46, i47, h, rfl, rfl⟩, _, rfl, rfl⟩ := hq
                    cbv
                    refine ⟨⟨fun _ => hb89⟩, ?_⟩
                    have c90 := h.1
                    refine ⟨c90, ?_⟩
                    replace h := h.2 _ rfl
                    refine ⟨⟨fun _ => hb89⟩, ?_⟩
                    have c91 := h.1
                    refine ⟨c91, ?_⟩
                    replace h := h.2 _ rfl
                    refine ⟨⟨fun hh => hh⟩, ?_⟩
                    have h : _ = row := h
                    subst h
                    repeat' (first | exact trivial | exact rfl | refine And.intro ?_ ?_)
end Go.Proofs.Ytlmllogbaacoeaa.V
