/- Ledgers: the walk of what is said of: all balances. No conditions. -/
import Derived.Test.YtlmllogbaacoeaaEX
set_option linter.unusedVariables false
set_option linter.unusedSimpArgs false
namespace Go.Proofs.Ytlmllogbaacoeaa.V
open Go Go.Eng
set_option maxRecDepth 1000000
set_option maxHeartbeats 4000000
/-- papermill papermilllaw58.LedgerZero -/
def rf6 : RFn := ⟨(.seq (.ops 0 [⟨(some 4), (.v (.mv (.k (.c (.bool false))))), none, []⟩]) (.seq (.ops 0 [⟨(some 13), (.h (.call 15 [])), none, []⟩, ⟨(some 5), (.v (.mv (.t 13))), none, []⟩]) (.seq (.seq (.ops 0 [⟨(some 14), (.v (.mv (.t 0))), none, []⟩, ⟨(some 15), (.v (.lenS (.t 14))), none, []⟩, ⟨(some 16), (.v (.bin .gtr (.t 15) (.k (.c (.int .i64 80))))), none, []⟩, ⟨(some 17), (.v (.mv (.t 16))), none, []⟩, ⟨(some 18), (.v (.mv (.t 0))), (some ⟨17, false⟩), [(.t 0)]⟩, ⟨(some 19), (.v (.det 17 [⟨false, [.bool]⟩] [(.t 18)])), (some ⟨17, false⟩), [(.k (.fn 17 [])), (.t 18)]⟩, ⟨(some 20), (.v (.pick (.t 17) (.k (.c (.bool true))) (.t 19))), none, []⟩, ⟨(some 21), (.v (.mv (.t 20))), none, []⟩, ⟨(some 22), (.v (.mv (.t 5))), (some ⟨21, false⟩), [(.t 5)]⟩, ⟨(some 23), (.v (.eqn 1 false (.t 22))), (some ⟨21, false⟩), [(.t 22), (.k .np)]⟩, ⟨(some 24), (.v (.pick (.t 21) (.k (.c (.bool true))) (.t 23))), none, []⟩]) (.cond (.t 24) (.seq (.ops 0 [⟨(some 25), (.v (.det 12 [⟨false, [.bool]⟩] [])), none, []⟩, ⟨(some 4), (.v (.mv (.t 25))), none, []⟩]) .ret) .skip)) (.seq (.seq (.ops 0 [⟨(some 6), (.v (.mv (.k (.c (.int .i64 0))))), none, []⟩]) (.block 0 (.loop (.seq (.seq (.ops 0 [⟨(some 26), (.v (.mv (.t 6))), none, []⟩, ⟨(some 27), (.v (.mv (.t 0))), none, []⟩, ⟨(some 28), (.v (.lenS (.t 27))), none, []⟩, ⟨(some 29), (.v (.bin .lss (.t 26) (.t 28))), none, []⟩]) (.cond (.t 29) .skip (.exit 0))) (.seq (.block 1 (.ops 0 [⟨(some 32), (.v (.mv (.t 5))), none, []⟩, ⟨(some 33), (.v (.mv (.t 0))), none, []⟩, ⟨(some 34), (.v (.mv (.t 6))), none, []⟩, ⟨(some 35), (.v (.ia 3 (.t 33) (.t 34))), none, []⟩, ⟨(some 36), (.v (.lda 3 (.t 35))), none, []⟩, ⟨(some 37), (.h (.call 18 [(.t 32), (.t 36)])), none, []⟩])) (.ops 0 [⟨(some 30), (.v (.mv (.t 6))), none, []⟩, ⟨(some 31), (.v (.bin .add (.t 30) (.k (.c (.int .i64 1))))), none, []⟩, ⟨(some 6), (.v (.mv (.t 31))), none, []⟩])))))) (.seq (.ops 0 [⟨(some 38), (.v (.mv (.t 5))), none, []⟩, ⟨(some 39), (.h (.call 24 [(.t 38)])), none, []⟩, ⟨(some 7), (.v (.mv (.t 39))), none, []⟩]) (.seq (.seq (.ops 0 [⟨(some 40), (.v (.mv (.t 7))), none, []⟩, ⟨(some 41), (.v (.lenS (.t 40))), none, []⟩, ⟨(some 42), (.v (.bin .gtr (.t 41) (.k (.c (.int .i64 1280))))), none, []⟩]) (.cond (.t 42) (.seq (.ops 0 [⟨(some 4), (.v (.mv (.k (.c (.bool false))))), none, []⟩]) .ret) .skip)) (.seq (.ops 0 [⟨(some 8), (.v (.mv (.k (.c (.int .i64 0))))), none, []⟩, ⟨(some 9), (.v (.mv (.k (.c (.int .i64 0))))), none, []⟩]) (.seq (.seq (.ops 0 [⟨(some 10), (.v (.mv (.k (.c (.int .i64 0))))), none, []⟩]) (.block 2 (.loop (.seq (.seq (.ops 0 [⟨(some 43), (.v (.mv (.t 10))), none, []⟩, ⟨(some 44), (.v (.mv (.t 7))), none, []⟩, ⟨(some 45), (.v (.lenS (.t 44))), none, []⟩, ⟨(some 46), (.v (.bin .lss (.t 43) (.t 45))), none, []⟩]) (.cond (.t 46) .skip (.exit 2))) (.seq (.block 3 (.seq (.any 0 [⟨0, ⟨[], ⟨(some 49), (.v (.mv (.t 5))), none, []⟩⟩⟩, ⟨1, ⟨[], ⟨(some 50), (.v (.mv (.t 7))), none, []⟩⟩⟩, ⟨2, ⟨[], ⟨(some 51), (.v (.mv (.t 10))), none, []⟩⟩⟩, ⟨3, ⟨[1, 2], ⟨(some 52), (.v (.ia 1 (.t 50) (.t 51))), none, []⟩⟩⟩, ⟨4, ⟨[3, 1, 2], ⟨(some 53), (.v (.ld (.t 52))), none, []⟩⟩⟩, ⟨6, ⟨[], ⟨(some 55), (.v (.mv (.t 5))), none, []⟩⟩⟩, ⟨7, ⟨[], ⟨(some 56), (.v (.mv (.t 7))), none, []⟩⟩⟩, ⟨8, ⟨[], ⟨(some 57), (.v (.mv (.t 10))), none, []⟩⟩⟩, ⟨9, ⟨[7, 8], ⟨(some 58), (.v (.ia 1 (.t 56) (.t 57))), none, []⟩⟩⟩, ⟨10, ⟨[9, 7, 8], ⟨(some 59), (.v (.ld (.t 58))), none, []⟩⟩⟩, ⟨11, ⟨[], ⟨(some 60), (.v (.mv (.t 1))), none, []⟩⟩⟩, ⟨5, ⟨[0, 4, 3, 1, 2], ⟨(some 54), (.h (.call 26 [(.t 49), (.t 53)])), none, []⟩⟩⟩, ⟨12, ⟨[6, 10, 9, 7, 8, 11, 5, 0, 4, 3, 1, 2], ⟨(some 61), (.h (.call 28 [(.t 55), (.t 59), (.t 60)])), none, []⟩⟩⟩, ⟨13, ⟨[12, 6, 10, 9, 7, 8, 11, 5, 0, 4, 3, 1, 2], ⟨(some 11), (.v (.mv (.t 54))), none, []⟩⟩⟩, ⟨14, ⟨[13, 12, 6, 10, 9, 7, 8, 11, 5, 0, 4, 3, 1, 2], ⟨(some 12), (.v (.mv (.t 61))), none, []⟩⟩⟩]) (.seq (.seq (.any 0 [⟨0, ⟨[], ⟨(some 62), (.v (.mv (.t 10))), none, []⟩⟩⟩, ⟨1, ⟨[0], ⟨(some 63), (.v (.bin .gtr (.t 62) (.k (.c (.int .i64 0))))), none, []⟩⟩⟩, ⟨2, ⟨[1, 0], ⟨(some 64), (.v (.mv (.t 63))), none, []⟩⟩⟩, ⟨3, ⟨[2, 1, 0], ⟨(some 65), (.v (.mv (.t 7))), (some ⟨64, true⟩), [(.t 7)]⟩⟩⟩, ⟨4, ⟨[2, 1, 0], ⟨(some 66), (.v (.mv (.t 10))), (some ⟨64, true⟩), [(.t 10)]⟩⟩⟩, ⟨5, ⟨[3, 4, 2, 1, 0], ⟨(some 67), (.v (.ia 1 (.t 65) (.t 66))), (some ⟨64, true⟩), [(.t 65), (.t 66)]⟩⟩⟩, ⟨6, ⟨[5, 3, 4, 2, 1, 0], ⟨(some 68), (.v (.ld (.t 67))), (some ⟨64, true⟩), [(.t 67)]⟩⟩⟩, ⟨7, ⟨[2, 1, 0], ⟨(some 69), (.v (.mv (.t 7))), (some ⟨64, true⟩), [(.t 7)]⟩⟩⟩, ⟨8, ⟨[2, 1, 0], ⟨(some 70), (.v (.mv (.t 10))), (some ⟨64, true⟩), [(.t 10)]⟩⟩⟩, ⟨9, ⟨[8, 2, 1, 0], ⟨(some 71), (.v (.bin .sub (.t 70) (.k (.c (.int .i64 1))))), (some ⟨64, true⟩), [(.t 70), (.k (.c (.int .i64 1)))]⟩⟩⟩, ⟨10, ⟨[7, 9, 8, 2, 1, 0], ⟨(some 72), (.v (.ia 1 (.t 69) (.t 71))), (some ⟨64, true⟩), [(.t 69), (.t 71)]⟩⟩⟩, ⟨11, ⟨[10, 7, 9, 8, 2, 1, 0], ⟨(some 73), (.v (.ld (.t 72))), (some ⟨64, true⟩), [(.t 72)]⟩⟩⟩, ⟨12, ⟨[6, 5, 3, 4, 11, 10, 7, 9, 8, 2, 1, 0], ⟨(some 74), (.v (.bin .leq (.t 68) (.t 73))), (some ⟨64, true⟩), [(.t 68), (.t 73)]⟩⟩⟩, ⟨13, ⟨[12, 6, 5, 3, 4, 11, 10, 7, 9, 8, 2, 1, 0], ⟨(some 75), (.v (.pick (.t 64) (.t 74) (.k (.c (.bool false))))), none, []⟩⟩⟩, ⟨14, ⟨[13, 12, 6, 5, 3, 4, 11, 10, 7, 9, 8, 2, 1, 0], ⟨(some 76), (.v (.mv (.t 75))), none, []⟩⟩⟩, ⟨15, ⟨[14, 13, 12, 6, 5, 3, 4, 11, 10, 7, 9, 8, 2, 1, 0], ⟨(some 77), (.v (.mv (.t 11))), (some ⟨76, false⟩), [(.t 11)]⟩⟩⟩, ⟨16, ⟨[15, 14, 13, 12, 6, 5, 3, 4, 11, 10, 7, 9, 8, 2, 1, 0], ⟨(some 78), (.v (.bin .lss (.t 77) (.k (.c (.int .i64 (-1000000000000)))))), (some ⟨76, false⟩), [(.t 77), (.k (.c (.int .i64 (-1000000000000))))]⟩⟩⟩, ⟨17, ⟨[16, 15, 14, 13, 12, 6, 5, 3, 4, 11, 10, 7, 9, 8, 2, 1, 0], ⟨(some 79), (.v (.pick (.t 76) (.k (.c (.bool true))) (.t 78))), none, []⟩⟩⟩, ⟨18, ⟨[17, 16, 15, 14, 13, 12, 6, 5, 3, 4, 11, 10, 7, 9, 8, 2, 1, 0], ⟨(some 80), (.v (.mv (.t 79))), none, []⟩⟩⟩, ⟨19, ⟨[18, 17, 16, 15, 14, 13, 12, 6, 5, 3, 4, 11, 10, 7, 9, 8, 2, 1, 0], ⟨(some 81), (.v (.mv (.t 11))), (some ⟨80, false⟩), [(.t 11)]⟩⟩⟩, ⟨20, ⟨[19, 18, 17, 16, 15, 14, 13, 12, 6, 5, 3, 4, 11, 10, 7, 9, 8, 2, 1, 0], ⟨(some 82), (.v (.bin .gtr (.t 81) (.k (.c (.int .i64 1000000000000))))), (some ⟨80, false⟩), [(.t 81), (.k (.c (.int .i64 1000000000000)))]⟩⟩⟩, ⟨21, ⟨[20, 19, 18, 17, 16, 15, 14, 13, 12, 6, 5, 3, 4, 11, 10, 7, 9, 8, 2, 1, 0], ⟨(some 83), (.v (.pick (.t 80) (.k (.c (.bool true))) (.t 82))), none, []⟩⟩⟩, ⟨22, ⟨[21, 20, 19, 18, 17, 16, 15, 14, 13, 12, 6, 5, 3, 4, 11, 10, 7, 9, 8, 2, 1, 0], ⟨(some 84), (.v (.mv (.t 83))), none, []⟩⟩⟩, ⟨23, ⟨[22, 21, 20, 19, 18, 17, 16, 15, 14, 13, 12, 6, 5, 3, 4, 11, 10, 7, 9, 8, 2, 1, 0], ⟨(some 85), (.v (.mv (.t 5))), (some ⟨84, false⟩), [(.t 5)]⟩⟩⟩, ⟨24, ⟨[22, 21, 20, 19, 18, 17, 16, 15, 14, 13, 12, 6, 5, 3, 4, 11, 10, 7, 9, 8, 2, 1, 0], ⟨(some 86), (.v (.mv (.t 7))), (some ⟨84, false⟩), [(.t 7)]⟩⟩⟩, ⟨25, ⟨[22, 21, 20, 19, 18, 17, 16, 15, 14, 13, 12, 6, 5, 3, 4, 11, 10, 7, 9, 8, 2, 1, 0], ⟨(some 87), (.v (.mv (.t 10))), (some ⟨84, false⟩), [(.t 10)]⟩⟩⟩, ⟨26, ⟨[24, 25, 22, 21, 20, 19, 18, 17, 16, 15, 14, 13, 12, 6, 5, 3, 4, 11, 10, 7, 9, 8, 2, 1, 0], ⟨(some 88), (.v (.ia 1 (.t 86) (.t 87))), (some ⟨84, false⟩), [(.t 86), (.t 87)]⟩⟩⟩, ⟨27, ⟨[26, 24, 25, 22, 21, 20, 19, 18, 17, 16, 15, 14, 13, 12, 6, 5, 3, 4, 11, 10, 7, 9, 8, 2, 1, 0], ⟨(some 89), (.v (.ld (.t 88))), (some ⟨84, false⟩), [(.t 88)]⟩⟩⟩, ⟨29, ⟨[22, 21, 20, 19, 18, 17, 16, 15, 14, 13, 12, 6, 5, 3, 4, 11, 10, 7, 9, 8, 2, 1, 0], ⟨(some 91), (.v (.mv (.t 11))), (some ⟨84, false⟩), [(.t 11)]⟩⟩⟩, ⟨28, ⟨[23, 27, 26, 24, 25, 22, 21, 20, 19, 18, 17, 16, 15, 14, 13, 12, 6, 5, 3, 4, 11, 10, 7, 9, 8, 2, 1, 0], ⟨(some 90), (.h (.call 28 [(.t 85), (.t 89), (.k (.c (.int .i64 2147483647)))])), (some ⟨84, false⟩), [(.k (.fn 28 [])), (.t 85), (.t 89), (.k (.c (.int .i64 2147483647)))]⟩⟩⟩, ⟨30, ⟨[28, 23, 27, 26, 24, 25, 29, 22, 21, 20, 19, 18, 17, 16, 15, 14, 13, 12, 6, 5, 3, 4, 11, 10, 7, 9, 8, 2, 1, 0], ⟨(some 92), (.v (.bin .neq (.t 90) (.t 91))), (some ⟨84, false⟩), [(.t 90), (.t 91)]⟩⟩⟩, ⟨31, ⟨[30, 28, 23, 27, 26, 24, 25, 29, 22, 21, 20, 19, 18, 17, 16, 15, 14, 13, 12, 6, 5, 3, 4, 11, 10, 7, 9, 8, 2, 1, 0], ⟨(some 93), (.v (.pick (.t 84) (.k (.c (.bool true))) (.t 92))), none, []⟩⟩⟩]) (.cond (.t 93) (.seq (.ops 0 [⟨(some 4), (.v (.mv (.k (.c (.bool false))))), none, []⟩]) .ret) .skip)) (.ops 0 [⟨(some 94), (.v (.mv (.t 8))), none, []⟩, ⟨(some 95), (.v (.mv (.t 11))), none, []⟩, ⟨(some 96), (.v (.bin .add (.t 94) (.t 95))), none, []⟩, ⟨(some 97), (.v (.mv (.t 9))), none, []⟩, ⟨(some 98), (.v (.mv (.t 12))), none, []⟩, ⟨(some 99), (.v (.bin .add (.t 97) (.t 98))), none, []⟩, ⟨(some 8), (.v (.mv (.t 96))), none, []⟩, ⟨(some 9), (.v (.mv (.t 99))), none, []⟩])))) (.ops 0 [⟨(some 47), (.v (.mv (.t 10))), none, []⟩, ⟨(some 48), (.v (.bin .add (.t 47) (.k (.c (.int .i64 1))))), none, []⟩, ⟨(some 10), (.v (.mv (.t 48))), none, []⟩])))))) (.seq (.ops 0 [⟨(some 100), (.v (.mv (.t 8))), none, []⟩, ⟨(some 101), (.v (.bin .eql (.t 100) (.k (.c (.int .i64 0))))), none, []⟩, ⟨(some 102), (.v (.mv (.t 101))), none, []⟩, ⟨(some 103), (.v (.mv (.t 9))), (some ⟨102, true⟩), [(.t 9)]⟩, ⟨(some 104), (.v (.bin .eql (.t 103) (.k (.c (.int .i64 0))))), (some ⟨102, true⟩), [(.t 103), (.k (.c (.int .i64 0)))]⟩, ⟨(some 105), (.v (.pick (.t 102) (.t 104) (.k (.c (.bool false))))), none, []⟩, ⟨(some 106), (.v (.mv (.t 105))), none, []⟩, ⟨(some 107), (.v (.det 12 [⟨false, [.bool]⟩] [])), (some ⟨106, true⟩), [(.k (.fn 12 []))]⟩, ⟨(some 108), (.v (.pick (.t 106) (.t 107) (.k (.c (.bool false))))), none, []⟩, ⟨(some 4), (.v (.mv (.t 108))), none, []⟩]) .ret))))))))), 109, [(.t 4)]⟩
theorem h6 : fnR Try.prog DD 6 = some rf6 := by kernel_rfl
def vc6 (E : Env) (x1 : List (List C)) (x2 : Int) (Q : List C → Prop) : Prop :=
  spNew  (
  (Imp (E.not (E.lt 80 (E.len x1))) (E.pok 17 [(false, [.bool])] [.c (.sl [.int .i64, .int .i64, .sl [.int .i64, .int .i64]] x1)])) ∧ (∀ r3 : Nat → C, r3 = E.res 17 [.c (.sl [.int .i64, .int .i64, .sl [.int .i64, .int .i64]] x1)] → 
    (Br (E.bite (E.bite (E.lt 80 (E.len x1)) true (E.gb (r3 0))) true false)
    ((E.pok 12 [(false, [.bool])] []) ∧ (∀ r4 : Nat → C, r4 = E.res 12 [] → 
      (Q [.bool (E.gb (r4 0))])))
    (LoopP3 (fun (l5 : List (List C)) (m6 : List (Int × C)) (i7 : Int) (K8 : (List (List C)) → (List (Int × C)) → (Int) → Prop) =>
      Br (E.lt i7 (E.len x1))
        (((E.le 0 i7) = true) ∧ 
          (spPost (l5) (m6) ((E.gi (E.cell x1 i7 0))) ((E.gi (E.cell x1 i7 1))) ((E.gl (E.cell x1 i7 2))) (fun (m9 : List (Int × C)) (i10 : Int) => 
          K8 (l5) (m9) ((E.add .i64 i7 1))) (fun (l11 : List (List C)) (m12 : List (Int × C)) => 
          K8 (l11) (m12) ((E.add .i64 i7 1)))))
        (spAccD (l5) (m6) (fun (l13 : List (List C)) => 
          Br (E.lt 1280 (E.len l13))
            (Q [.bool false])
            (LoopP3 (fun (i14 : Int) (i15 : Int) (i16 : Int) (K17 : (Int) → (Int) → (Int) → Prop) =>
              Br (E.lt i16 (E.len l13))
                (((E.le 0 i16) = true) ∧ 
                  (spBal (l5) (m6) ((E.gi (E.cell l13 i16 0))) (fun (i18 : Int) => 
                  spAt (l5) (m6) ((E.gi (E.cell l13 i16 0))) (x2) (fun (i19 : Int) => 
                    (Imp (E.lt 0 i16) ((E.le 0 (E.sub .i64 i16 1)) = true)) ∧ (Imp (E.lt 0 i16) ((E.lt (E.sub .i64 i16 1) (E.len l13)) = true)) ∧ 
                      (((E.not (E.bite (E.bite (E.bite (E.lt 0 i16) (E.le (E.gi (E.cell l13 i16 0)) (E.gi (E.cell l13 (E.sub .i64 i16 1) 0))) false) true (E.lt i18 (-1000000000000))) true (E.lt 1000000000000 i18))) = true) ∧ 
                      (spAt (l5) (m6) ((E.gi (E.cell l13 i16 0))) (2147483647) (fun (i20 : Int) => 
                      Br (E.bite (E.bite (E.bite (E.bite (E.lt 0 i16) (E.le (E.gi (E.cell l13 i16 0)) (E.gi (E.cell l13 (E.sub .i64 i16 1) 0))) false) true (E.lt i18 (-1000000000000))) true (E.lt 1000000000000 i18)) true (E.not (E.eq i20 i18)))
                        (Q [.bool false])
                        (K17 ((E.add .i64 i14 i18)) ((E.add .i64 i15 i19)) ((E.add .i64 i16 1))))))))))
                ((Imp (E.bite (E.eq i14 0) (E.eq i15 0) false) (E.pok 12 [(false, [.bool])] [])) ∧ (∀ r21 : Nat → C, r21 = E.res 12 [] → 
                  (Q [.bool (E.bite (E.bite (E.eq i14 0) (E.eq i15 0) false) (E.gb (r21 0)) false)]))))
              (0) (0) (0)))))
      ([]) ([]) (0)))))
theorem w6 {P : Program} {tbl : FuncId → List A → List C} (ce15 : NewC P 15) (ce18 : PostC P 18) (ce24 : AccDC P 24) (ce26 : BalC P 26) (ce28 : AtC P 28) {x1 : List (List C)} {x2 : Int} {row : List C} (h : vc6 (stdE P tbl) x1 x2 fun c => c = row) : WPg P tbl rf6 [(false, [.bool])] row [.c (.sl [.int .i64, .int .i64, .sl [.int .i64, .int .i64]] x1), .c (.int .i64 x2)] := by
  refine ⟨?_⟩
  revert h
  generalize hE : stdE P tbl = E
  intro h
  unfold vc6 at h
  cbv
  refine HCall.mk ce15.1 ((ACalls.frame (ce15.2  _ h) (H := _) (tgt := []) rfl (by decide) ?_).mono fun r H' hq => ?_)
  · intro i o ho
    cases ho
  obtain ⟨r1, H1', ⟨h, rfl, rfl⟩, _, rfl, rfl⟩ := hq
  cbv
  refine ⟨⟨fun hh => hh⟩, ?_⟩
  have c22 := h.1
  refine ⟨c22, ?_⟩
  replace h := h.2 _ rfl
  refine ⟨⟨fun hh => hh⟩, ?_⟩
  refine ⟨⟨fun hh => hh⟩, ?_⟩
  refine ⟨⟨fun hh => hh⟩, ?_⟩
  refine ⟨fun hb23 => ?_, fun hb23 => ?_⟩
  · replace h := h.t hb23
    have c24 := h.1
    refine ⟨c24, ?_⟩
    replace h := h.2 _ rfl
    have h : _ = row := h
    subst h
    repeat' (first | exact trivial | exact rfl | refine And.intro ?_ ?_)
  · replace h := h.f hb23
    obtain ⟨I, μ, h0, hI⟩ := h
    refine LoopW.inv (fun R R' s h k => RCode.wp_mono _ R R' s h k) (fun p : List (List C) × List (Int × C) × Int => (fun (l5 : List (List C)) (m6 : List (Int × C)) (i7 : Int) => (⟨[.c (.sl [.int .i64, .int .i64, .sl [.int .i64, .int .i64]] x1), .c (.int .i64 x2), .u, .u, .u, .ptr 0 0, .c (.int .i64 i7), .u, .u, .u, .u, .u, .u, .u, .u, .u, .u, .u, .u, .u, .u, .u, .u, .u, .u, .u, .u, .u, .u, .u, .u, .u, .u, .u, .u, .u, .u, .u, .u, .u, .u, .u, .u, .u, .u, .u, .u, .u, .u, .u, .u, .u, .u, .u, .u, .u, .u, .u, .u, .u, .u, .u, .u, .u, .u, .u, .u, .u, .u, .u, .u, .u, .u, .u, .u, .u, .u, .u, .u, .u, .u, .u, .u, .u, .u, .u, .u, .u, .u, .u, .u, .u, .u, .u, .u, .u, .u, .u, .u, .u, .u, .u, .u, .u, .u, .u, .u, .u, .u], [.box 54 [.gr 1, .map 2], .arr 24 [.int .i64, .int .i64, .sl [.int .i64, .int .i64]] l5, .mp .i64 (.int .i64) m6]⟩ : St)) p.1 p.2.1 p.2.2) (fun p => I p.1 p.2.1 p.2.2) (fun p => μ p.1 p.2.1 p.2.2) (_, _, _) h0 ?_ ?_
    · refine GSt.ren [0, 1, 2] rfl rfl rfl (fun i hi => absurd hi (Nat.not_lt_zero i)) (Nat.zero_le _) ?_ ?_
      all_goals (repeat' (first | exact trivial | exact Or.inl rfl | exact Or.inr rfl | refine And.intro ?_ ?_))
    · rintro ⟨l5, m6, i7⟩ h
      replace h := hI l5 m6 i7 h
      cbv
      refine ⟨fun hb25 => ?_, fun hb25 => ?_⟩
      · replace h := h.t hb25
        have c26 := h.1
        refine ⟨c26, ?_⟩
        replace h := h.2
        refine ⟨hb25, ?_⟩
        refine HCall.mk ce18.1 ((ACalls.frame (ce18.2.1 _ _ _ _ _ _ _ h) (H := _) (tgt := [0, 1, 2]) rfl (by decide) ?_).mono fun r H' hq => ?_)
        · intro i o ho
          match i, ho with
          | 0, ho => cases ho; rfl
          | 1, ho => cases ho; rfl
          | 2, ho => cases ho; rfl
        obtain ⟨r1, H1', hd, _, hr1, hr2⟩ := hq
        rcases hd with ⟨m9, i10, h, rfl, rfl⟩ | ⟨l11, m12, h, rfl, rfl⟩
        · subst hr1 hr2
          cbv
          refine ⟨(_, _, _), h.1, GSt.ren [0, 1, 2] rfl rfl rfl (fun i hi => absurd hi (Nat.not_lt_zero i)) (Nat.zero_le _) ?_ ?_, h.2⟩
          all_goals (repeat' (first | exact trivial | exact Or.inl rfl | exact Or.inr rfl | refine And.intro ?_ ?_))
        · subst hr1 hr2
          cbv
          refine ⟨(_, _, _), h.1, GSt.ren [0, 3, 2] rfl rfl rfl (fun i hi => absurd hi (Nat.not_lt_zero i)) (Nat.zero_le _) ?_ ?_, h.2⟩
          all_goals (repeat' (first | exact trivial | exact Or.inl rfl | exact Or.inr rfl | refine And.intro ?_ ?_))
      · replace h := h.f hb25
        refine HCall.mk ce24.1 ((ACalls.frame (ce24.2 _ _ _ h) (H := _) (tgt := [0, 1, 2]) rfl (by decide) ?_).mono fun r H' hq => ?_)
        · intro i o ho
          match i, ho with
          | 0, ho => cases ho; rfl
          | 1, ho => cases ho; rfl
          | 2, ho => cases ho; rfl
        obtain ⟨r1, H1', ⟨l13, h, rfl, rfl⟩, _, rfl, rfl⟩ := hq
        cbv
        refine ⟨fun hb27 => ?_, fun hb27 => ?_⟩
        · replace h := h.t hb27
          have h : _ = row := h
          subst h
          repeat' (first | exact trivial | exact rfl | refine And.intro ?_ ?_)
        · replace h := h.f hb27
          obtain ⟨I, μ, h0, hI⟩ := h
          refine LoopW.inv (fun R R' s h k => RCode.wp_mono _ R R' s h k) (fun p : Int × Int × Int => (fun (i14 : Int) (i15 : Int) (i16 : Int) => (⟨[.u, .c (.int .i64 x2), .u, .u, .u, .ptr 0 0, .u, .c (.sl [.int .i64] l13), .c (.int .i64 i14), .c (.int .i64 i15), .c (.int .i64 i16), .u, .u, .u, .u, .u, .u, .u, .u, .u, .u, .u, .u, .u, .u, .u, .u, .u, .u, .u, .u, .u, .u, .u, .u, .u, .u, .u, .u, .u, .u, .u, .u, .u, .u, .u, .u, .u, .u, .u, .u, .u, .u, .u, .u, .u, .u, .u, .u, .u, .u, .u, .u, .u, .u, .u, .u, .u, .u, .u, .u, .u, .u, .u, .u, .u, .u, .u, .u, .u, .u, .u, .u, .u, .u, .u, .u, .u, .u, .u, .u, .u, .u, .u, .u, .u, .u, .u, .u, .u, .u, .u, .u, .u, .u, .u, .u, .u, .u], [.box 54 [.gr 1, .map 2], .arr 24 [.int .i64, .int .i64, .sl [.int .i64, .int .i64]] l5, .mp .i64 (.int .i64) m6]⟩ : St)) p.1 p.2.1 p.2.2) (fun p => I p.1 p.2.1 p.2.2) (fun p => μ p.1 p.2.1 p.2.2) (_, _, _) h0 ?_ ?_
          · refine GSt.ren [0, 1, 2] rfl rfl rfl (fun i hi => absurd hi (Nat.not_lt_zero i)) (Nat.zero_le _) ?_ ?_
            all_goals (repeat' (first | exact trivial | exact Or.inl rfl | exact Or.inr rfl | refine And.intro ?_ ?_))
          · rintro ⟨i14, i15, i16⟩ h
            replace h := hI i14 i15 i16 h
            cbv
            refine ⟨fun hb28 => ?_, fun hb28 => ?_⟩
            · replace h := h.t hb28
              have c29 := h.1
              refine ⟨c29, ?_⟩
              replace h := h.2
              refine ⟨hb28, ?_⟩
              refine ⟨c29, ?_⟩
              refine ⟨hb28, ?_⟩
              refine HCall.mk ce26.1 ((ACalls.frame (ce26.2.1 _ _ _ _ h) (H := _) (tgt := [0, 1, 2]) rfl (by decide) ?_).mono fun r H' hq => ?_)
              · intro i o ho
                match i, ho with
                | 0, ho => cases ho; rfl
                | 1, ho => cases ho; rfl
                | 2, ho => cases ho; rfl
              obtain ⟨r1, H1', ⟨i18, h, rfl, rfl⟩, _, rfl, rfl⟩ := hq
              cbv
              refine HCall.mk ce28.1 ((ACalls.frame (ce28.2.1 _ _ _ _ _ h) (H := _) (tgt := [0, 1, 2]) rfl (by decide) ?_).mono fun r H' hq => ?_)
              · intro i o ho
                match i, ho with
                | 0, ho => cases ho; rfl
                | 1, ho => cases ho; rfl
                | 2, ho => cases ho; rfl
              obtain ⟨r1, H1', ⟨i19, h, rfl, rfl⟩, _, rfl, rfl⟩ := hq
              cbv
              refine ⟨⟨fun hh => hh⟩, ?_⟩
              refine ⟨⟨fun hh => hh⟩, ?_⟩
              refine ⟨⟨fun _ => c29⟩, ?_⟩
              refine ⟨⟨fun _ => hb28⟩, ?_⟩
              refine ⟨⟨fun hh => hh⟩, ?_⟩
              refine ⟨⟨fun hh => hh⟩, ?_⟩
              refine ⟨⟨fun hh => hh⟩, ?_⟩
              refine ⟨⟨fun hh => hh⟩, ?_⟩
              have c30 := h.1
              refine ⟨c30, ?_⟩
              replace h := h.2
              have c31 := h.1
              refine ⟨c31, ?_⟩
              replace h := h.2
              refine ⟨⟨fun hh => hh⟩, ?_⟩
              refine ⟨⟨fun hh => hh⟩, ?_⟩
              refine ⟨⟨fun hh => hh⟩, ?_⟩
              refine ⟨⟨fun hh => hh⟩, ?_⟩
              refine ⟨⟨fun hh => hh⟩, ?_⟩
              refine ⟨⟨fun hh => hh⟩, ?_⟩
              refine ⟨⟨fun hh => hh⟩, ?_⟩
              refine ⟨⟨fun hh => hh⟩, ?_⟩
              refine ⟨⟨fun hh => hh⟩, ?_⟩
              refine ⟨⟨fun hh => hh⟩, ?_⟩
              refine ⟨⟨fun _ => c29⟩, ?_⟩
              refine ⟨⟨fun _ => hb28⟩, ?_⟩
              refine ⟨⟨fun hh => hh⟩, ?_⟩
              refine ⟨⟨fun hh => hh⟩, ?_⟩
              refine ⟨⟨fun hh => hh⟩, ?_⟩
              have hb32 := h.1
              refine ⟨fun _ => ?_, fun hb => absurd (hb.symm.trans hb32) Bool.false_ne_true⟩
              replace h := h.2
              refine HCall.mk ce28.1 ((ACalls.frame (ce28.2.1 _ _ _ _ _ h) (H := _) (tgt := [0, 1, 2]) rfl (by decide) ?_).mono fun r H' hq => ?_)
              · intro i o ho
                match i, ho with
                | 0, ho => cases ho; rfl
                | 1, ho => cases ho; rfl
                | 2, ho => cases ho; rfl
              obtain ⟨r1, H1', ⟨i20, h, rfl, rfl⟩, _, rfl, rfl⟩ := hq
              cbv
              refine ⟨⟨fun _ => hb32⟩, ?_⟩
              refine ⟨⟨fun _ => hb32⟩, ?_⟩
              refine ⟨fun hb33 => ?_, fun hb33 => ?_⟩
              · replace h := h.t hb33
                have h : _ = row := h
                subst h
                repeat' (first | exact trivial | exact rfl | refine And.intro ?_ ?_)
              · replace h := h.f hb33
                refine ⟨(_, _, _), h.1, GSt.ren [0, 1, 2] rfl rfl rfl (fun i hi => absurd hi (Nat.not_lt_zero i)) (Nat.zero_le _) ?_ ?_, h.2⟩
                all_goals (repeat' (first | exact trivial | exact Or.inl rfl | exact Or.inr rfl | refine And.intro ?_ ?_))
            · replace h := h.f hb28
              refine ⟨⟨fun hh => hh⟩, ?_⟩
              refine ⟨⟨fun hh => hh⟩, ?_⟩
              have c34 := h.1
              refine ⟨c34, ?_⟩
              replace h := h.2 _ rfl
              refine ⟨⟨fun hh => hh⟩, ?_⟩
              have h : _ = row := h
              subst h
              repeat' (first | exact trivial | exact rfl | refine And.intro ?_ ?_)
end Go.Proofs.Ytlmllogbaacoeaa.V
