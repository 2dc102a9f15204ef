/- Warehouses: the walk of what is said of them: last. No conditions. -/
import Derived.Test.YtniijahjfbgfpaaGB
set_option linter.unusedVariables false
set_option linter.unusedSimpArgs false
namespace Go.Proofs.Ytniijahjfbgfpaa.V
open Go Go.Eng
set_option maxRecDepth 1000000
set_option maxHeartbeats 4000000
/-- papermill papermilllaw54.StoreLast -/
def rf8 : RFn := ⟨(.seq (.ops 1 [⟨(some 5), (.v (.box 0 33 (.t 2))), none, []⟩, ⟨(some 6), (.v (.mv (.k (.c (.bool false))))), none, []⟩]) (.seq (.seq (.ops 0 [⟨(some 17), (.v (.mv (.t 0))), none, []⟩, ⟨(some 18), (.v (.lenS (.t 17))), none, []⟩, ⟨(some 19), (.v (.bin .gtr (.t 18) (.k (.c (.int .i64 40))))), none, []⟩, ⟨(some 20), (.v (.mv (.t 19))), none, []⟩, ⟨(some 21), (.v (.mv (.t 1))), (some ⟨20, false⟩), [(.t 1)]⟩, ⟨(some 22), (.v (.lenS (.t 21))), (some ⟨20, false⟩), [(.t 21)]⟩, ⟨(some 23), (.v (.bin .gtr (.t 22) (.k (.c (.int .i64 120))))), (some ⟨20, false⟩), [(.t 22), (.k (.c (.int .i64 120)))]⟩, ⟨(some 24), (.v (.pick (.t 20) (.k (.c (.bool true))) (.t 23))), none, []⟩]) (.cond (.t 24) (.seq (.ops 0 [⟨(some 25), (.v (.det 11 [⟨false, [.bool]⟩] [])), none, []⟩, ⟨(some 6), (.v (.mv (.t 25))), none, []⟩]) .ret) .skip)) (.seq (.ops 0 [⟨(some 27), (.v (.mv (.t 0))), none, []⟩, ⟨(some 28), (.h (.call 24 [(.t 27)])), none, []⟩, ⟨(some 26), (.v (.mv (.t 28))), none, []⟩, ⟨(some 29), (.v (.ext (.t 26) 0)), none, []⟩, ⟨(some 30), (.v (.ext (.t 26) 1)), none, []⟩, ⟨(some 7), (.v (.mv (.t 29))), none, []⟩, ⟨(some 8), (.v (.mv (.t 30))), none, []⟩]) (.seq (.seq (.ops 0 [⟨(some 31), (.v (.mv (.t 8))), none, []⟩, ⟨(some 32), (.v (.bin .neq (.t 31) (.k (.c (.int .i64 0))))), none, []⟩, ⟨(some 33), (.v (.mv (.t 32))), none, []⟩, ⟨(some 34), (.v (.mv (.t 7))), (some ⟨33, false⟩), [(.t 7)]⟩, ⟨(some 35), (.v (.eqn 1 false (.t 34))), (some ⟨33, false⟩), [(.t 34), (.k .np)]⟩, ⟨(some 36), (.v (.pick (.t 33) (.k (.c (.bool true))) (.t 35))), none, []⟩]) (.cond (.t 36) (.seq (.ops 0 [⟨(some 37), (.v (.mv (.t 8))), none, []⟩, ⟨(some 38), (.v (.bin .neq (.t 37) (.k (.c (.int .i64 0))))), none, []⟩, ⟨(some 39), (.v (.mv (.t 38))), none, []⟩, ⟨(some 40), (.v (.mv (.t 7))), (some ⟨39, true⟩), [(.t 7)]⟩, ⟨(some 41), (.v (.eqn 1 false (.t 40))), (some ⟨39, true⟩), [(.t 40), (.k .np)]⟩, ⟨(some 42), (.v (.pick (.t 39) (.t 41) (.k (.c (.bool false))))), none, []⟩, ⟨(some 43), (.v (.mv (.t 42))), none, []⟩, ⟨(some 44), (.v (.det 11 [⟨false, [.bool]⟩] [])), (some ⟨43, true⟩), [(.k (.fn 11 []))]⟩, ⟨(some 45), (.v (.pick (.t 43) (.t 44) (.k (.c (.bool false))))), none, []⟩, ⟨(some 6), (.v (.mv (.t 45))), none, []⟩]) .ret) .skip)) (.seq (.seq (.ops 0 [⟨(some 9), (.v (.mv (.k (.c (.int .i64 0))))), none, []⟩]) (.block 0 (.loop (.seq (.seq (.ops 0 [⟨(some 46), (.v (.mv (.t 9))), none, []⟩, ⟨(some 47), (.v (.mv (.t 1))), none, []⟩, ⟨(some 48), (.v (.lenS (.t 47))), none, []⟩, ⟨(some 49), (.v (.bin .lss (.t 46) (.t 48))), none, []⟩]) (.cond (.t 49) .skip (.exit 0))) (.seq (.block 1 (.ops 0 [⟨(some 52), (.v (.mv (.t 7))), none, []⟩, ⟨(some 53), (.v (.mv (.t 1))), none, []⟩, ⟨(some 54), (.v (.mv (.t 9))), none, []⟩, ⟨(some 55), (.v (.ia 5 (.t 53) (.t 54))), none, []⟩, ⟨(some 56), (.v (.lda 5 (.t 55))), none, []⟩, ⟨(some 57), (.h (.call 12 [(.t 52), (.t 56)])), none, []⟩])) (.ops 0 [⟨(some 50), (.v (.mv (.t 9))), none, []⟩, ⟨(some 51), (.v (.bin .add (.t 50) (.k (.c (.int .i64 1))))), none, []⟩, ⟨(some 9), (.v (.mv (.t 51))), none, []⟩])))))) (.seq (.seq (.ops 0 [⟨(some 58), (.v (.mv (.t 7))), none, []⟩, ⟨(some 59), (.v (.fa 1 (.t 5))), none, []⟩, ⟨(some 60), (.v (.ld (.t 59))), none, []⟩, ⟨(some 61), (.v (.fa 2 (.t 5))), none, []⟩, ⟨(some 62), (.v (.ld (.t 61))), none, []⟩, ⟨(some 63), (.v (.fa 3 (.t 5))), none, []⟩, ⟨(some 64), (.v (.ld (.t 63))), none, []⟩, ⟨(some 65), (.h (.call 26 [(.t 58), (.t 60), (.t 62), (.t 64), (.k (.c (.int .i64 2147483647)))])), none, []⟩, ⟨(some 66), (.v (.bin .neq (.t 65) (.k (.c (.int .i64 0))))), none, []⟩, ⟨(some 67), (.v (.mv (.t 66))), none, []⟩, ⟨(some 68), (.v (.mv (.t 7))), (some ⟨67, true⟩), [(.t 7)]⟩, ⟨(some 69), (.v (.fa 1 (.t 5))), (some ⟨67, true⟩), [(.t 5)]⟩, ⟨(some 70), (.v (.ld (.t 69))), (some ⟨67, true⟩), [(.t 69)]⟩, ⟨(some 71), (.v (.fa 3 (.t 5))), (some ⟨67, true⟩), [(.t 5)]⟩, ⟨(some 72), (.v (.ld (.t 71))), (some ⟨67, true⟩), [(.t 71)]⟩, ⟨(some 73), (.h (.call 27 [(.t 68), (.t 70), (.t 72), (.k (.c (.int .i64 2147483647)))])), (some ⟨67, true⟩), [(.k (.fn 27 [])), (.t 68), (.t 70), (.t 72), (.k (.c (.int .i64 2147483647)))]⟩, ⟨(some 74), (.v (.bin .neq (.t 73) (.k (.c (.int .i64 0))))), (some ⟨67, true⟩), [(.t 73), (.k (.c (.int .i64 0)))]⟩, ⟨(some 75), (.v (.pick (.t 67) (.t 74) (.k (.c (.bool false))))), none, []⟩]) (.cond (.t 75) (.seq (.ops 0 [⟨(some 76), (.v (.det 11 [⟨false, [.bool]⟩] [])), none, []⟩, ⟨(some 6), (.v (.mv (.t 76))), none, []⟩]) .ret) .skip)) (.seq (.ops 0 [⟨(some 78), (.v (.mv (.t 7))), none, []⟩, ⟨(some 79), (.v (.fa 3 (.t 5))), none, []⟩, ⟨(some 80), (.v (.ld (.t 79))), none, []⟩, ⟨(some 81), (.h (.call 17 [(.t 78), (.t 80)])), none, []⟩, ⟨(some 77), (.v (.mv (.t 81))), none, []⟩, ⟨(some 82), (.v (.ext (.t 77) 0)), none, []⟩, ⟨(some 83), (.v (.ext (.t 77) 1)), none, []⟩, ⟨(some 10), (.v (.mv (.t 82))), none, []⟩, ⟨(some 11), (.v (.mv (.t 83))), none, []⟩]) (.seq (.seq (.any 0 [⟨0, ⟨[], ⟨(some 84), (.v (.mv (.t 11))), none, []⟩⟩⟩, ⟨1, ⟨[0], ⟨(some 85), (.v (.bin .neq (.t 84) (.k (.c (.int .i64 0))))), none, []⟩⟩⟩, ⟨2, ⟨[1, 0], ⟨(some 86), (.v (.mv (.t 85))), none, []⟩⟩⟩, ⟨3, ⟨[2, 1, 0], ⟨(some 87), (.v (.mv (.t 10))), (some ⟨86, false⟩), [(.t 10)]⟩⟩⟩, ⟨4, ⟨[3, 2, 1, 0], ⟨(some 88), (.v (.lenS (.t 87))), (some ⟨86, false⟩), [(.t 87)]⟩⟩⟩, ⟨5, ⟨[4, 3, 2, 1, 0], ⟨(some 89), (.v (.bin .eql (.t 88) (.k (.c (.int .i64 0))))), (some ⟨86, false⟩), [(.t 88), (.k (.c (.int .i64 0)))]⟩⟩⟩, ⟨6, ⟨[5, 4, 3, 2, 1, 0], ⟨(some 90), (.v (.pick (.t 86) (.k (.c (.bool true))) (.t 89))), none, []⟩⟩⟩, ⟨7, ⟨[6, 5, 4, 3, 2, 1, 0], ⟨(some 91), (.v (.mv (.t 90))), none, []⟩⟩⟩, ⟨8, ⟨[7, 6, 5, 4, 3, 2, 1, 0], ⟨(some 92), (.v (.mv (.t 10))), (some ⟨91, false⟩), [(.t 10)]⟩⟩⟩, ⟨9, ⟨[7, 6, 5, 4, 3, 2, 1, 0], ⟨(some 93), (.v (.mv (.t 10))), (some ⟨91, false⟩), [(.t 10)]⟩⟩⟩, ⟨10, ⟨[9, 7, 6, 5, 4, 3, 2, 1, 0], ⟨(some 94), (.v (.lenS (.t 93))), (some ⟨91, false⟩), [(.t 93)]⟩⟩⟩, ⟨11, ⟨[10, 9, 7, 6, 5, 4, 3, 2, 1, 0], ⟨(some 95), (.v (.bin .sub (.t 94) (.k (.c (.int .i64 1))))), (some ⟨91, false⟩), [(.t 94), (.k (.c (.int .i64 1)))]⟩⟩⟩, ⟨12, ⟨[8, 11, 10, 9, 7, 6, 5, 4, 3, 2, 1, 0], ⟨(some 96), (.v (.ia 3 (.t 92) (.t 95))), (some ⟨91, false⟩), [(.t 92), (.t 95)]⟩⟩⟩, ⟨13, ⟨[12, 8, 11, 10, 9, 7, 6, 5, 4, 3, 2, 1, 0], ⟨(some 97), (.v (.lda 3 (.t 96))), (some ⟨91, false⟩), [(.t 96)]⟩⟩⟩, ⟨14, ⟨[7, 6, 5, 4, 3, 2, 1, 0], ⟨(some 98), (.v (.fa 1 (.t 5))), (some ⟨91, false⟩), [(.t 5)]⟩⟩⟩, ⟨15, ⟨[14, 7, 6, 5, 4, 3, 2, 1, 0], ⟨(some 99), (.v (.ld (.t 98))), (some ⟨91, false⟩), [(.t 98)]⟩⟩⟩, ⟨16, ⟨[7, 6, 5, 4, 3, 2, 1, 0], ⟨(some 100), (.v (.fa 3 (.t 5))), (some ⟨91, false⟩), [(.t 5)]⟩⟩⟩, ⟨17, ⟨[16, 7, 6, 5, 4, 3, 2, 1, 0], ⟨(some 101), (.v (.ld (.t 100))), (some ⟨91, false⟩), [(.t 100)]⟩⟩⟩, ⟨18, ⟨[15, 14, 17, 16, 7, 6, 5, 4, 3, 2, 1, 0], ⟨(some 102), (.v (.build [(.c (.int .i64 0)), (.c (.int .i64 0)), (.c (.int .i64 0))] [⟨0, ⟨1, (.t 99)⟩⟩, ⟨1, ⟨1, (.t 101)⟩⟩, ⟨2, ⟨1, (.k (.c (.int .i64 2147483647)))⟩⟩])), (some ⟨91, false⟩), [(.t 99), (.t 101), (.k (.c (.int .i64 2147483647)))]⟩⟩⟩, ⟨19, ⟨[13, 12, 8, 11, 10, 9, 18, 15, 14, 17, 16, 7, 6, 5, 4, 3, 2, 1, 0], ⟨(some 103), (.v (.eqs [(.int .i64), (.int .i64), (.int .i64)] true (.t 97) (.t 102))), (some ⟨91, false⟩), [(.t 97), (.t 102)]⟩⟩⟩, ⟨20, ⟨[19, 13, 12, 8, 11, 10, 9, 18, 15, 14, 17, 16, 7, 6, 5, 4, 3, 2, 1, 0], ⟨(some 104), (.v (.pick (.t 91) (.k (.c (.bool true))) (.t 103))), none, []⟩⟩⟩]) (.cond (.t 104) (.seq (.ops 0 [⟨(some 6), (.v (.mv (.k (.c (.bool false))))), none, []⟩]) .ret) .skip)) (.seq (.ops 0 [⟨(some 106), (.v (.mv (.t 7))), none, []⟩, ⟨(some 107), (.v (.fa 1 (.t 5))), none, []⟩, ⟨(some 108), (.v (.ld (.t 107))), none, []⟩, ⟨(some 109), (.h (.call 25 [(.t 106), (.t 108)])), none, []⟩, ⟨(some 105), (.v (.mv (.t 109))), none, []⟩, ⟨(some 110), (.v (.ext (.t 105) 0)), none, []⟩, ⟨(some 111), (.v (.ext (.t 105) 1)), none, []⟩, ⟨(some 12), (.v (.mv (.t 110))), none, []⟩, ⟨(some 13), (.v (.mv (.t 111))), none, []⟩]) (.seq (.ops 0 [⟨(some 112), (.v (.mv (.t 7))), none, []⟩, ⟨(some 113), (.v (.fa 1 (.t 5))), none, []⟩, ⟨(some 114), (.v (.ld (.t 113))), none, []⟩, ⟨(some 115), (.v (.fa 3 (.t 5))), none, []⟩, ⟨(some 116), (.v (.ld (.t 115))), none, []⟩, ⟨(some 117), (.h (.call 26 [(.t 112), (.t 114), (.k (.c (.int .i64 1))), (.t 116), (.k (.c (.int .i64 2147483647)))])), none, []⟩, ⟨(some 14), (.v (.mv (.t 117))), none, []⟩]) (.seq (.ops 0 [⟨(some 119), (.v (.mv (.t 7))), none, []⟩, ⟨(some 120), (.v (.fa 3 (.t 5))), none, []⟩, ⟨(some 121), (.v (.ld (.t 120))), none, []⟩, ⟨(some 122), (.h (.call 17 [(.t 119), (.t 121)])), none, []⟩, ⟨(some 118), (.v (.mv (.t 122))), none, []⟩, ⟨(some 123), (.v (.ext (.t 118) 0)), none, []⟩, ⟨(some 124), (.v (.ext (.t 118) 1)), none, []⟩, ⟨(some 15), (.v (.mv (.t 123))), none, []⟩, ⟨(some 16), (.v (.mv (.t 124))), none, []⟩]) (.seq (.ops 0 [⟨(some 125), (.v (.mv (.t 12))), none, []⟩, ⟨(some 126), (.v (.fa 3 (.t 5))), none, []⟩, ⟨(some 127), (.v (.ld (.t 126))), none, []⟩, ⟨(some 128), (.v (.bin .eql (.t 125) (.t 127))), none, []⟩, ⟨(some 129), (.v (.mv (.t 128))), none, []⟩, ⟨(some 130), (.v (.mv (.t 13))), (some ⟨129, true⟩), [(.t 13)]⟩, ⟨(some 131), (.v (.bin .eql (.t 130) (.k (.c (.int .i64 0))))), (some ⟨129, true⟩), [(.t 130), (.k (.c (.int .i64 0)))]⟩, ⟨(some 132), (.v (.pick (.t 129) (.t 131) (.k (.c (.bool false))))), none, []⟩, ⟨(some 133), (.v (.mv (.t 132))), none, []⟩, ⟨(some 134), (.v (.mv (.t 14))), (some ⟨133, true⟩), [(.t 14)]⟩, ⟨(some 135), (.v (.bin .eql (.t 134) (.k (.c (.int .i64 0))))), (some ⟨133, true⟩), [(.t 134), (.k (.c (.int .i64 0)))]⟩, ⟨(some 136), (.v (.pick (.t 133) (.t 135) (.k (.c (.bool false))))), none, []⟩, ⟨(some 137), (.v (.mv (.t 136))), none, []⟩, ⟨(some 138), (.v (.mv (.t 16))), (some ⟨137, true⟩), [(.t 16)]⟩, ⟨(some 139), (.v (.bin .eql (.t 138) (.k (.c (.int .i64 0))))), (some ⟨137, true⟩), [(.t 138), (.k (.c (.int .i64 0)))]⟩, ⟨(some 140), (.v (.pick (.t 137) (.t 139) (.k (.c (.bool false))))), none, []⟩, ⟨(some 141), (.v (.mv (.t 140))), none, []⟩, ⟨(some 142), (.v (.mv (.t 10))), (some ⟨141, true⟩), [(.t 10)]⟩, ⟨(some 143), (.v (.mv (.t 15))), (some ⟨141, true⟩), [(.t 15)]⟩, ⟨(some 144), (.v (.det 19 [⟨false, [.bool]⟩] [(.t 142), (.t 143)])), (some ⟨141, true⟩), [(.k (.fn 19 [])), (.t 142), (.t 143)]⟩, ⟨(some 145), (.v (.pick (.t 141) (.t 144) (.k (.c (.bool false))))), none, []⟩, ⟨(some 146), (.v (.mv (.t 145))), none, []⟩, ⟨(some 147), (.v (.mv (.t 7))), (some ⟨146, true⟩), [(.t 7)]⟩, ⟨(some 148), (.v (.fa 1 (.t 5))), (some ⟨146, true⟩), [(.t 5)]⟩, ⟨(some 149), (.v (.ld (.t 148))), (some ⟨146, true⟩), [(.t 148)]⟩, ⟨(some 150), (.v (.fa 3 (.t 5))), (some ⟨146, true⟩), [(.t 5)]⟩, ⟨(some 151), (.v (.ld (.t 150))), (some ⟨146, true⟩), [(.t 150)]⟩, ⟨(some 152), (.h (.call 26 [(.t 147), (.t 149), (.k (.c (.int .i64 1))), (.t 151), (.k (.c (.int .i64 2147483647)))])), (some ⟨146, true⟩), [(.k (.fn 26 [])), (.t 147), (.t 149), (.k (.c (.int .i64 1))), (.t 151), (.k (.c (.int .i64 2147483647)))]⟩, ⟨(some 153), (.v (.bin .eql (.t 152) (.k (.c (.int .i64 6))))), (some ⟨146, true⟩), [(.t 152), (.k (.c (.int .i64 6)))]⟩, ⟨(some 154), (.v (.pick (.t 146) (.t 153) (.k (.c (.bool false))))), none, []⟩, ⟨(some 155), (.v (.mv (.t 154))), none, []⟩, ⟨(some 156), (.v (.det 11 [⟨false, [.bool]⟩] [])), (some ⟨155, true⟩), [(.k (.fn 11 []))]⟩, ⟨(some 157), (.v (.pick (.t 155) (.t 156) (.k (.c (.bool false))))), none, []⟩, ⟨(some 6), (.v (.mv (.t 157))), none, []⟩]) .ret)))))))))))), 158, [(.t 6)]⟩
theorem h8 : fnR Try.prog DD 8 = some rf8 := by kernel_rfl
def vc8 (E : Env) (x1 : List (List C)) (x2 : List (List C)) (x3 : Int) (x4 : Int) (x5 : Int) (x6 : Int) (x7 : Int) (Q : List C → Prop) : Prop :=
  Br (E.bite (E.lt 40 (E.len x1)) true (E.lt 120 (E.len x2)))
  ((E.pok 11 [(false, [.bool])] []) ∧ (∀ r8 : Nat → C, r8 = E.res 11 [] → 
    (Q [.bool (E.gb (r8 0))])))
  (spNew (x1) (fun (i9 : Int) => 
    Br (E.bite (E.not (E.eq i9 0)) true true)
      ((Imp (E.bite (E.not (E.eq i9 0)) true false) (E.pok 11 [(false, [.bool])] [])) ∧ (∀ r10 : Nat → C, r10 = E.res 11 [] → 
        (Q [.bool (E.bite (E.bite (E.not (E.eq i9 0)) true false) (E.gb (r10 0)) false)])))
      (False)) (
    Br (E.bite (E.not (E.eq 0 0)) true false)
      (False)
      (LoopP4 (fun (m11 : List (Int × List C)) (i12 : Int) (i13 : Int) (i14 : Int) (K15 : (List (Int × List C)) → (Int) → (Int) → (Int) → Prop) =>
        Br (E.lt i14 (E.len x2))
          (((E.le 0 i14) = true) ∧ 
            (spDo (x1) (m11) (i12) (i13) ((E.gi (E.cell x2 i14 0))) ((E.gi (E.cell x2 i14 1))) ((E.gi (E.cell x2 i14 2))) ((E.gi (E.cell x2 i14 3))) ((E.gi (E.cell x2 i14 4))) (fun (m16 : List (Int × List C)) (i17 : Int) (i18 : Int) (i19 : Int) (i20 : Int) => 
            K15 (m16) (i17) (i18) ((E.add .i64 i14 1)))))
          (spPut (x1) (m11) (i12) (i13) (x4) (x5) (x6) (2147483647) (fun (m21 : List (Int × List C)) (i22 : Int) (i23 : Int) (i24 : Int) => 
            Br (E.not (E.eq i24 0))
              (spMove (x1) (m21) (i22) (i23) (x4) (x6) (2147483647) (fun (m25 : List (Int × List C)) (i26 : Int) (i27 : Int) (i28 : Int) => 
                Br (E.bite (E.not (E.eq i24 0)) (E.not (E.eq i28 0)) false)
                  ((E.pok 11 [(false, [.bool])] []) ∧ (∀ r29 : Nat → C, r29 = E.res 11 [] → 
                    (Q [.bool (E.gb (r29 0))])))
                  (spBay (x1) (m25) (i26) (i27) (x6) (fun (l30 : List (List C)) (i31 : Int) => 
                    (Imp (E.not (E.bite (E.not (E.eq i31 0)) true (E.eq (E.len l30) 0))) ((E.le 0 (E.sub .i64 (E.len l30) 1)) = true)) ∧ (Imp (E.not (E.bite (E.not (E.eq i31 0)) true (E.eq (E.len l30) 0))) ((E.lt (E.sub .i64 (E.len l30) 1) (E.len l30)) = true)) ∧ 
                      (Br (E.bite (E.bite (E.not (E.eq i31 0)) true (E.eq (E.len l30) 0)) true (E.not (E.and (E.eq (E.gi (E.cell l30 (E.sub .i64 (E.len l30) 1) 0)) x4) (E.and (E.eq (E.gi (E.cell l30 (E.sub .i64 (E.len l30) 1) 1)) x6) (E.and (E.eq (E.gi (E.cell l30 (E.sub .i64 (E.len l30) 1) 2)) 2147483647) true)))))
                      (Q [.bool false])
                      (spTake (x1) (m25) (i26) (i27) (x4) (fun (m32 : List (Int × List C)) (i33 : Int) (i34 : Int) (i35 : Int) (i36 : Int) => 
                        spPut (x1) (m32) (i33) (i34) (x4) (1) (x6) (2147483647) (fun (m37 : List (Int × List C)) (i38 : Int) (i39 : Int) (i40 : Int) => 
                          spBay (x1) (m37) (i38) (i39) (x6) (fun (l41 : List (List C)) (i42 : Int) => 
                            (Imp (E.bite (E.bite (E.bite (E.eq i35 x6) (E.eq i36 0) false) (E.eq i40 0) false) (E.eq i42 0) false) (E.pok 19 [(false, [.bool])] [.c (.sl [.int .i64, .int .i64, .int .i64] l30), .c (.sl [.int .i64, .int .i64, .int .i64] l41)])) ∧ (∀ r43 : Nat → C, r43 = E.res 19 [.c (.sl [.int .i64, .int .i64, .int .i64] l30), .c (.sl [.int .i64, .int .i64, .int .i64] l41)] → 
                              (Br (E.bite (E.bite (E.bite (E.bite (E.eq i35 x6) (E.eq i36 0) false) (E.eq i40 0) false) (E.eq i42 0) false) (E.gb (r43 0)) false)
                              (spPut (x1) (m37) (i38) (i39) (x4) (1) (x6) (2147483647) (fun (m44 : List (Int × List C)) (i45 : Int) (i46 : Int) (i47 : Int) => 
                                (Imp (E.bite (E.bite (E.bite (E.bite (E.bite (E.eq i35 x6) (E.eq i36 0) false) (E.eq i40 0) false) (E.eq i42 0) false) (E.gb (r43 0)) false) (E.eq i47 6) false) (E.pok 11 [(false, [.bool])] [])) ∧ (∀ r48 : Nat → C, r48 = E.res 11 [] → 
                                  (Q [.bool (E.bite (E.bite (E.bite (E.bite (E.bite (E.bite (E.eq i35 x6) (E.eq i36 0) false) (E.eq i40 0) false) (E.eq i42 0) false) (E.gb (r43 0)) false) (E.eq i47 6) false) (E.gb (r48 0)) false)]))))
                              ((Imp false (E.pok 11 [(false, [.bool])] [])) ∧ (∀ r49 : Nat → C, r49 = E.res 11 [] → 
                                (Q [.bool (E.bite false (E.gb (r49 0)) false)]))))))))))))))
              (Br false
                (False)
                (spBay (x1) (m21) (i22) (i23) (x6) (fun (l50 : List (List C)) (i51 : Int) => 
                  (Imp (E.not (E.bite (E.not (E.eq i51 0)) true (E.eq (E.len l50) 0))) ((E.le 0 (E.sub .i64 (E.len l50) 1)) = true)) ∧ (Imp (E.not (E.bite (E.not (E.eq i51 0)) true (E.eq (E.len l50) 0))) ((E.lt (E.sub .i64 (E.len l50) 1) (E.len l50)) = true)) ∧ 
                    (Br (E.bite (E.bite (E.not (E.eq i51 0)) true (E.eq (E.len l50) 0)) true (E.not (E.and (E.eq (E.gi (E.cell l50 (E.sub .i64 (E.len l50) 1) 0)) x4) (E.and (E.eq (E.gi (E.cell l50 (E.sub .i64 (E.len l50) 1) 1)) x6) (E.and (E.eq (E.gi (E.cell l50 (E.sub .i64 (E.len l50) 1) 2)) 2147483647) true)))))
                    (Q [.bool false])
                    (spTake (x1) (m21) (i22) (i23) (x4) (fun (m52 : List (Int × List C)) (i53 : Int) (i54 : Int) (i55 : Int) (i56 : Int) => 
                      spPut (x1) (m52) (i53) (i54) (x4) (1) (x6) (2147483647) (fun (m57 : List (Int × List C)) (i58 : Int) (i59 : Int) (i60 : Int) => 
                        spBay (x1) (m57) (i58) (i59) (x6) (fun (l61 : List (List C)) (i62 : Int) => 
                          (Imp (E.bite (E.bite (E.bite (E.eq i55 x6) (E.eq i56 0) false) (E.eq i60 0) false) (E.eq i62 0) false) (E.pok 19 [(false, [.bool])] [.c (.sl [.int .i64, .int .i64, .int .i64] l50), .c (.sl [.int .i64, .int .i64, .int .i64] l61)])) ∧ (∀ r63 : Nat → C, r63 = E.res 19 [.c (.sl [.int .i64, .int .i64, .int .i64] l50), .c (.sl [.int .i64, .int .i64, .int .i64] l61)] → 
                            (Br (E.bite (E.bite (E.bite (E.bite (E.eq i55 x6) (E.eq i56 0) false) (E.eq i60 0) false) (E.eq i62 0) false) (E.gb (r63 0)) false)
                            (spPut (x1) (m57) (i58) (i59) (x4) (1) (x6) (2147483647) (fun (m64 : List (Int × List C)) (i65 : Int) (i66 : Int) (i67 : Int) => 
                              (Imp (E.bite (E.bite (E.bite (E.bite (E.bite (E.eq i55 x6) (E.eq i56 0) false) (E.eq i60 0) false) (E.eq i62 0) false) (E.gb (r63 0)) false) (E.eq i67 6) false) (E.pok 11 [(false, [.bool])] [])) ∧ (∀ r68 : Nat → C, r68 = E.res 11 [] → 
                                (Q [.bool (E.bite (E.bite (E.bite (E.bite (E.bite (E.bite (E.eq i55 x6) (E.eq i56 0) false) (E.eq i60 0) false) (E.eq i62 0) false) (E.gb (r63 0)) false) (E.eq i67 6) false) (E.gb (r68 0)) false)]))))
                            ((∀ r69 : Nat → C, r69 = E.res 11 [] → 
                              (Q [.bool (E.bite false (E.gb (r69 0)) false)]))))))))))))))))
        ([]) (0) (0) (0))))
theorem w8 {P : Program} {tbl : FuncId → List A → List C} (ce12 : DoC P 12) (ce17 : BayC P 17) (ce24 : NewC P 24) (ce25 : TakeC P 25) (ce26 : PutC P 26) (ce27 : MoveC P 27) {x1 : List (List C)} {x2 : List (List C)} {x3 : Int} {x4 : Int} {x5 : Int} {x6 : Int} {x7 : Int} {row : List C} (h : vc8 (stdE P tbl) x1 x2 x3 x4 x5 x6 x7 fun c => c = row) : WPg P tbl rf8 [(false, [.bool])] row [.c (.sl [.int .i64, .int .i64] x1), .c (.sl [.int .i64, .int .i64, .int .i64, .int .i64, .int .i64] x2), .agg [.c (.int .i64 x3), .c (.int .i64 x4), .c (.int .i64 x5), .c (.int .i64 x6), .c (.int .i64 x7)]] := by
  refine ⟨?_⟩
  revert h
  generalize hE : stdE P tbl = E
  intro h
  unfold vc8 at h
  cbv
  refine ⟨⟨fun hh => (by first | exact hh | trivial)⟩, ?_⟩
  refine ⟨⟨fun hh => (by first | exact hh | trivial)⟩, ?_⟩
  refine ⟨⟨fun hh => (by first | exact hh | trivial)⟩, ?_⟩
  refine ⟨fun hb70 => ?_, fun hb70 => ?_⟩
  · replace h := h.t hb70
    have c71 := h.1
    refine ⟨c71, ?_⟩
    replace h := h.2 _ rfl
    have h : _ = row := h
    subst h
    repeat' (first | exact trivial | exact rfl | refine And.intro ?_ ?_)
  · replace h := h.f hb70
    refine HCall.mk ce24.1 ((ACalls.frame (ce24.2 _ _ _ h) (H := _) (tgt := []) rfl (by decide) ?_).mono fun r H' hq => ?_)
    · intro i o ho
      cases ho
    obtain ⟨r1, H1', hd, _, hr1, hr2⟩ := hq
    rcases hd with ⟨i9, h, rfl, rfl⟩ | ⟨h, rfl, rfl⟩
    · subst hr1 hr2
      cbv
      refine ⟨⟨fun hh => (by first | exact hh | trivial)⟩, ?_⟩
      refine ⟨⟨fun hh => (by first | exact hh | trivial)⟩, ?_⟩
      refine ⟨fun hb72 => ?_, fun hb72 => ?_⟩
      · replace h := h.t hb72
        refine ⟨⟨fun hh => (by first | exact hh | trivial)⟩, ?_⟩
        refine ⟨⟨fun hh => (by first | exact hh | trivial)⟩, ?_⟩
        have c73 := h.1
        refine ⟨c73, ?_⟩
        replace h := h.2 _ rfl
        refine ⟨⟨fun hh => (by first | exact hh | trivial)⟩, ?_⟩
        have h : _ = row := h
        subst h
        repeat' (first | exact trivial | exact rfl | refine And.intro ?_ ?_)
      · replace h := h.f hb72
        exact h.elim
    · subst hr1 hr2
      cbv
      refine ⟨⟨fun hh => (by first | exact hh | trivial)⟩, ?_⟩
      refine ⟨⟨fun hh => (by first | exact hh | trivial)⟩, ?_⟩
      refine ⟨fun hb74 => ?_, fun hb74 => ?_⟩
      · replace h := h.t hb74
        exact h.elim
      · replace h := h.f hb74
        obtain ⟨I, μ, h0, hI⟩ := h
        refine LoopW.inv (fun R R' s h k => RCode.wp_mono _ R R' s h k) (fun p : List (Int × List C) × Int × Int × Int => (fun (m11 : List (Int × List C)) (i12 : Int) (i13 : Int) (i14 : Int) => (⟨[.u, .c (.sl [.int .i64, .int .i64, .int .i64, .int .i64, .int .i64] x2), .u, .u, .u, .ptr 0 0, .u, .ptr 1 0, .u, .c (.int .i64 i14), .u, .u, .u, .u, .u, .u, .u, .u, .u, .u, .u, .u, .u, .u, .u, .u, .u, .u, .u, .u, .u, .u, .u, .u, .u, .u, .u, .u, .u, .u, .u, .u, .u, .u, .u, .u, .u, .u, .u, .u, .u, .u, .u, .u, .u, .u, .u, .u, .u, .u, .u, .u, .u, .u, .u, .u, .u, .u, .u, .u, .u, .u, .u, .u, .u, .u, .u, .u, .u, .u, .u, .u, .u, .u, .u, .u, .u, .u, .u, .u, .u, .u, .u, .u, .u, .u, .u, .u, .u, .u, .u, .u, .u, .u, .u, .u, .u, .u, .u, .u, .u, .u, .u, .u, .u, .u, .u, .u, .u, .u, .u, .u, .u, .u, .u, .u, .u, .u, .u, .u, .u, .u, .u, .u, .u, .u, .u, .u, .u, .u, .u, .u, .u, .u, .u, .u, .u, .u, .u, .u, .u, .u, .u, .u, .u, .u, .u, .u], [.box 33 [.c (.int .i64 x3), .c (.int .i64 x4), .c (.int .i64 x5), .c (.int .i64 x6), .c (.int .i64 x7)], .box 64 [.c (.sl [.int .i64, .int .i64] x1), .map 2, .c (.int .i64 i12), .c (.int .i64 i13)], .mp .i64 true [.int .i64, .int .i64, .int .i64, .int .i64, .int .i64] m11]⟩ : St)) p.1 p.2.1 p.2.2.1 p.2.2.2) (fun p => I p.1 p.2.1 p.2.2.1 p.2.2.2) (fun p => μ p.1 p.2.1 p.2.2.1 p.2.2.2) (_, _, _, _) h0 ?_ ?_
        · refine GSt.ren [0, 1, 2] rfl rfl rfl (fun i hi => absurd hi (Nat.not_lt_zero i)) (Nat.zero_le _) ?_ ?_
          all_goals (repeat' (first | exact trivial | exact Or.inl rfl | exact Or.inr rfl | refine And.intro ?_ ?_))
        · rintro ⟨m11, i12, i13, i14⟩ h
          replace h := hI m11 i12 i13 i14 h
          cbv
          refine ⟨fun hb75 => ?_, fun hb75 => ?_⟩
          · replace h := h.t hb75
            have c76 := h.1
            refine ⟨c76, ?_⟩
            replace h := h.2
            refine ⟨hb75, ?_⟩
            refine HCall.mk ce12.1 ((ACalls.frame (ce12.2.1 _ _ _ _ _ _ _ _ _ _ h) (H := _) (tgt := [1, 2]) rfl (by decide) ?_).mono fun r H' hq => ?_)
            · intro i o ho
              match i, ho with
              | 0, ho => cases ho; rfl
              | 1, ho => cases ho; rfl
            obtain ⟨r1, H1', ⟨m16, i17, i18, i19, i20, h, rfl, rfl⟩, _, rfl, rfl⟩ := hq
            cbv
            refine ⟨(_, _, _, _), h.1, GSt.ren [0, 1, 2] rfl rfl rfl (fun i hi => absurd hi (Nat.not_lt_zero i)) (Nat.zero_le _) ?_ ?_, h.2⟩
            all_goals (repeat' (first | exact trivial | exact Or.inl rfl | exact Or.inr rfl | refine And.intro ?_ ?_))
          · replace h := h.f hb75
            refine HCall.mk ce26.1 ((ACalls.frame (ce26.2.1 _ _ _ _ _ _ _ _ _ h) (H := _) (tgt := [1, 2]) rfl (by decide) ?_).mono fun r H' hq => ?_)
            · intro i o ho
              match i, ho with
              | 0, ho => cases ho; rfl
              | 1, ho => cases ho; rfl
            obtain ⟨r1, H1', ⟨m21, i22, i23, i24, h, rfl, rfl⟩, _, rfl, rfl⟩ := hq
            cbv
            refine ⟨⟨fun hh => (by first | exact hh | trivial)⟩, ?_⟩
            refine ⟨⟨fun hh => (by first | exact hh | trivial)⟩, ?_⟩
            refine ⟨⟨fun hh => (by first | exact hh | trivial)⟩, ?_⟩
            refine ⟨⟨fun hh => (by first | exact hh | trivial)⟩, ?_⟩
            refine ⟨⟨fun hh => (by first | exact hh | trivial)⟩, ?_⟩
            refine ⟨fun hb77 => ?_, fun hb77 => ?_⟩
            · replace h := h.t hb77
              refine HCall.mk ce27.1 ((ACalls.frame (ce27.2.1 _ _ _ _ _ _ _ _ h) (H := _) (tgt := [1, 2]) rfl (by decide) ?_).mono fun r H' hq => ?_)
              · intro i o ho
                match i, ho with
                | 0, ho => cases ho; rfl
                | 1, ho => cases ho; rfl
              obtain ⟨r1, H1', ⟨m25, i26, i27, i28, h, rfl, rfl⟩, _, rfl, rfl⟩ := hq
              cbv
              refine ⟨⟨fun _ => hb77⟩, ?_⟩
              refine ⟨fun hb78 => ?_, fun hb78 => ?_⟩
              · replace h := h.t hb78
                have c79 := h.1
                refine ⟨c79, ?_⟩
                replace h := h.2 _ rfl
                have h : _ = row := h
                subst h
                repeat' (first | exact trivial | exact rfl | refine And.intro ?_ ?_)
              · replace h := h.f hb78
                refine HCall.mk ce17.1 ((ACalls.frame (ce17.2.1 _ _ _ _ _ _ h) (H := _) (tgt := [1, 2]) rfl (by decide) ?_).mono fun r H' hq => ?_)
                · intro i o ho
                  match i, ho with
                  | 0, ho => cases ho; rfl
                  | 1, ho => cases ho; rfl
                obtain ⟨r1, H1', ⟨l30, i31, h, rfl, rfl⟩, _, rfl, rfl⟩ := hq
                cbv
                refine ⟨⟨fun hh => (by first | exact hh | trivial)⟩, ?_⟩
                refine ⟨⟨fun hh => (by first | exact hh | trivial)⟩, ?_⟩
                refine ⟨⟨fun hh => (by first | exact hh | trivial)⟩, ?_⟩
                refine ⟨⟨fun hh => (by first | exact hh | trivial)⟩, ?_⟩
                refine ⟨⟨fun hh => (by first | exact hh | trivial)⟩, ?_⟩
                refine ⟨⟨fun hh => (by first | exact hh | trivial)⟩, ?_⟩
                refine ⟨⟨fun hh => (by first | exact hh | trivial)⟩, ?_⟩
                have c80 := h.1
                refine ⟨c80, ?_⟩
                replace h := h.2
                have c81 := h.1
                refine ⟨c81, ?_⟩
                replace h := h.2
                refine ⟨⟨fun hh => (by first | exact hh | trivial)⟩, ?_⟩
                refine ⟨⟨fun hh => (by first | exact hh | trivial)⟩, ?_⟩
                refine ⟨⟨fun hh => (by first | exact hh | trivial)⟩, ?_⟩
                refine ⟨⟨fun hh => (by first | exact hh | trivial)⟩, ?_⟩
                refine ⟨⟨fun hh => (by first | exact hh | trivial)⟩, ?_⟩
                refine ⟨⟨fun hh => (by first | exact hh | trivial)⟩, ?_⟩
                refine ⟨⟨fun hh => (by first | exact hh | trivial)⟩, ?_⟩
                refine ⟨⟨fun hh => (by first | exact hh | trivial)⟩, ?_⟩
                refine ⟨fun hb82 => ?_, fun hb82 => ?_⟩
                · replace h := h.t hb82
                  have h : _ = row := h
                  subst h
                  repeat' (first | exact trivial | exact rfl | refine And.intro ?_ ?_)
                · replace h := h.f hb82
                  refine HCall.mk ce25.1 ((ACalls.frame (ce25.2.1 _ _ _ _ _ _ h) (H := _) (tgt := [1, 2]) rfl (by decide) ?_).mono fun r H' hq => ?_)
                  · intro i o ho
                    match i, ho with
                    | 0, ho => cases ho; rfl
                    | 1, ho => cases ho; rfl
                  obtain ⟨r1, H1', ⟨m32, i33, i34, i35, i36, h, rfl, rfl⟩, _, rfl, rfl⟩ := hq
                  cbv
                  refine HCall.mk ce26.1 ((ACalls.frame (ce26.2.1 _ _ _ _ _ _ _ _ _ h) (H := _) (tgt := [1, 2]) rfl (by decide) ?_).mono fun r H' hq => ?_)
                  · intro i o ho
                    match i, ho with
                    | 0, ho => cases ho; rfl
                    | 1, ho => cases ho; rfl
                  obtain ⟨r1, H1', ⟨m37, i38, i39, i40, h, rfl, rfl⟩, _, rfl, rfl⟩ := hq
                  cbv
                  refine HCall.mk ce17.1 ((ACalls.frame (ce17.2.1 _ _ _ _ _ _ h) (H := _) (tgt := [1, 2]) rfl (by decide) ?_).mono fun r H' hq => ?_)
                  · intro i o ho
                    match i, ho with
                    | 0, ho => cases ho; rfl
                    | 1, ho => cases ho; rfl
                  obtain ⟨r1, H1', ⟨l41, i42, h, rfl, rfl⟩, _, rfl, rfl⟩ := hq
                  cbv
                  refine ⟨⟨fun hh => (by first | exact hh | trivial)⟩, ?_⟩
                  refine ⟨⟨fun hh => (by first | exact hh | trivial)⟩, ?_⟩
                  refine ⟨⟨fun hh => (by first | exact hh | trivial)⟩, ?_⟩
                  refine ⟨⟨fun hh => (by first | exact hh | trivial)⟩, ?_⟩
                  refine ⟨⟨fun hh => (by first | exact hh | trivial)⟩, ?_⟩
                  refine ⟨⟨fun hh => (by first | exact hh | trivial)⟩, ?_⟩
                  refine ⟨⟨fun hh => (by first | exact hh | trivial)⟩, ?_⟩
                  refine ⟨⟨fun hh => (by first | exact hh | trivial)⟩, ?_⟩
                  have c83 := h.1
                  refine ⟨c83, ?_⟩
                  replace h := h.2 _ rfl
                  refine ⟨⟨fun hh => (by first | exact hh | trivial)⟩, ?_⟩
                  refine ⟨⟨fun hh => (by first | exact hh | trivial)⟩, ?_⟩
                  refine ⟨⟨fun hh => (by first | exact hh | trivial)⟩, ?_⟩
                  refine ⟨⟨fun hh => (by first | exact hh | trivial)⟩, ?_⟩
                  refine ⟨⟨fun hh => (by first | exact hh | trivial)⟩, ?_⟩
                  refine ⟨⟨fun hh => (by first | exact hh | trivial)⟩, ?_⟩
                  refine ⟨fun hb84 => ?_, fun hb84 => ?_⟩
                  · replace h := h.t hb84
                    refine HCall.mk ce26.1 ((ACalls.frame (ce26.2.1 _ _ _ _ _ _ _ _ _ h) (H := _) (tgt := [1, 2]) rfl (by decide) ?_).mono fun r H' hq => ?_)
                    · intro i o ho
                      match i, ho with
                      | 0, ho => cases ho; rfl
                      | 1, ho => cases ho; rfl
                    obtain ⟨r1, H1', ⟨m44, i45, i46, i47, h, rfl, rfl⟩, _, rfl, rfl⟩ := hq
                    cbv
                    refine ⟨⟨fun _ => hb84⟩, ?_⟩
                    have c85 := h.1
                    refine ⟨c85, ?_⟩
                    replace h := h.2 _ rfl
                    refine ⟨⟨fun hh => (by first | exact hh | trivial)⟩, ?_⟩
                    have h : _ = row := h
                    subst h
                    repeat' (first | exact trivial | exact rfl | refine And.intro ?_ ?_)
                  · replace h := h.f hb84
                    refine ⟨⟨fun hh => Bool.noConfusion (hh.symm.trans hb84)⟩, ?_⟩
                    refine ⟨⟨fun hh => Bool.noConfusion (hh.symm.trans hb84)⟩, ?_⟩
                    refine ⟨hb84, ?_⟩
                    have c86 := h.1
                    refine ⟨c86, ?_⟩
                    replace h := h.2 _ rfl
                    refine ⟨⟨fun hh => (by first | exact hh | trivial)⟩, ?_⟩
                    have h : _ = row := h
                    subst h
                    repeat' (first | exact trivial | exact rfl | refine And.intro ?_ ?_)
            · replace h := h.f hb77
              refine ⟨⟨fun hh => Bool.noConfusion (hh.symm.trans hb77)⟩, ?_⟩
              refine ⟨⟨fun hh => Bool.noConfusion (hh.symm.trans hb77)⟩, ?_⟩
              refine ⟨hb77, ?_⟩
              refine ⟨fun hb87 => ?_, fun hb87 => ?_⟩
              · replace h := h.t hb87
                exact h.elim
              · replace h := h.f hb87
                refine HCall.mk ce17.1 ((ACalls.frame (ce17.2.1 _ _ _ _ _ _ h) (H := _) (tgt := [1, 2]) rfl (by decide) ?_).mono fun r H' hq => ?_)
                · intro i o ho
                  match i, ho with
                  | 0, ho => cases ho; rfl
                  | 1, ho => cases ho; rfl
                obtain ⟨r1, H1', ⟨l50, i51, h, rfl, rfl⟩, _, rfl, rfl⟩ := hq
                cbv
                refine ⟨⟨fun hh => (by first | exact hh | trivial)⟩, ?_⟩
                refine ⟨⟨fun hh => (by first | exact hh | trivial)⟩, ?_⟩
                refine ⟨⟨fun hh => (by first | exact hh | trivial)⟩, ?_⟩
                refine ⟨⟨fun hh => (by first | exact hh | trivial)⟩, ?_⟩
                refine ⟨⟨fun hh => (by first | exact hh | trivial)⟩, ?_⟩
                refine ⟨⟨fun hh => (by first | exact hh | trivial)⟩, ?_⟩
                refine ⟨⟨fun hh => (by first | exact hh | trivial)⟩, ?_⟩
                have c88 := h.1
                refine ⟨c88, ?_⟩
                replace h := h.2
                have c89 := h.1
                refine ⟨c89, ?_⟩
                replace h := h.2
                refine ⟨⟨fun hh => (by first | exact hh | trivial)⟩, ?_⟩
                refine ⟨⟨fun hh => (by first | exact hh | trivial)⟩, ?_⟩
                refine ⟨⟨fun hh => (by first | exact hh | trivial)⟩, ?_⟩
                refine ⟨⟨fun hh => (by first | exact hh | trivial)⟩, ?_⟩
                refine ⟨⟨fun hh => (by first | exact hh | trivial)⟩, ?_⟩
                refine ⟨⟨fun hh => (by first | exact hh | trivial)⟩, ?_⟩
                refine ⟨⟨fun hh => (by first | exact hh | trivial)⟩, ?_⟩
                refine ⟨⟨fun hh => (by first | exact hh | trivial)⟩, ?_⟩
                refine ⟨fun hb90 => ?_, fun hb90 => ?_⟩
                · replace h := h.t hb90
                  have h : _ = row := h
                  subst h
                  repeat' (first | exact trivial | exact rfl | refine And.intro ?_ ?_)
                · replace h := h.f hb90
                  refine HCall.mk ce25.1 ((ACalls.frame (ce25.2.1 _ _ _ _ _ _ h) (H := _) (tgt := [1, 2]) rfl (by decide) ?_).mono fun r H' hq => ?_)
                  · intro i o ho
                    match i, ho with
                    | 0, ho => cases ho; rfl
                    | 1, ho => cases ho; rfl
                  obtain ⟨r1, H1', ⟨m52, i53, i54, i55, i56, h, rfl, rfl⟩, _, rfl, rfl⟩ := hq
                  cbv
                  refine HCall.mk ce26.1 ((ACalls.frame (ce26.2.1 _ _ _ _ _ _ _ _ _ h) (H := _) (tgt := [1, 2]) rfl (by decide) ?_).mono fun r H' hq => ?_)
                  · intro i o ho
                    match i, ho with
                    | 0, ho => cases ho; rfl
                    | 1, ho => cases ho; rfl
                  obtain ⟨r1, H1', ⟨m57, i58, i59, i60, h, rfl, rfl⟩, _, rfl, rfl⟩ := hq
                  cbv
                  refine HCall.mk ce17.1 ((ACalls.frame (ce17.2.1 _ _ _ _ _ _ h) (H := _) (tgt := [1, 2]) rfl (by decide) ?_).mono fun r H' hq => ?_)
                  · intro i o ho
                    match i, ho with
                    | 0, ho => cases ho; rfl
                    | 1, ho => cases ho; rfl
                  obtain ⟨r1, H1', ⟨l61, i62, h, rfl, rfl⟩, _, rfl, rfl⟩ := hq
                  cbv
                  refine ⟨⟨fun hh => (by first | exact hh | trivial)⟩, ?_⟩
                  refine ⟨⟨fun hh => (by first | exact hh | trivial)⟩, ?_⟩
                  refine ⟨⟨fun hh => (by first | exact hh | trivial)⟩, ?_⟩
                  refine ⟨⟨fun hh => (by first | exact hh | trivial)⟩, ?_⟩
                  refine ⟨⟨fun hh => (by first | exact hh | trivial)⟩, ?_⟩
                  refine ⟨⟨fun hh => (by first | exact hh | trivial)⟩, ?_⟩
                  refine ⟨⟨fun hh => (by first | exact hh | trivial)⟩, ?_⟩
                  refine ⟨⟨fun hh => (by first | exact hh | trivial)⟩, ?_⟩
                  have c91 := h.1
                  refine ⟨c91, ?_⟩
                  replace h := h.2 _ rfl
                  refine ⟨⟨fun hh => (by first | exact hh | trivial)⟩, ?_⟩
                  refine ⟨⟨fun hh => (by first | exact hh | trivial)⟩, ?_⟩
                  refine ⟨⟨fun hh => (by first | exact hh | trivial)⟩, ?_⟩
                  refine ⟨⟨fun hh => (by first | exact hh | trivial)⟩, ?_⟩
                  refine ⟨⟨fun hh => (by first | exact hh | trivial)⟩, ?_⟩
                  refine ⟨⟨fun hh => (by first | exact hh | trivial)⟩, ?_⟩
                  refine ⟨fun hb92 => ?_, fun hb92 => ?_⟩
                  · replace h := h.t hb92
                    refine HCall.mk ce26.1 ((ACalls.frame (ce26.2.1 _ _ _ _ _ _ _ _ _ h) (H := _) (tgt := [1, 2]) rfl (by decide) ?_).mono fun r H' hq => ?_)
                    · intro i o ho
                      match i, ho with
                      | 0, ho => cases ho; rfl
                      | 1, ho => cases ho; rfl
                    obtain ⟨r1, H1', ⟨m64, i65, i66, i67, h, rfl, rfl⟩, _, rfl, rfl⟩ := hq
                    cbv
                    refine ⟨⟨fun _ => hb92⟩, ?_⟩
                    have c93 := h.1
                    refine ⟨c93, ?_⟩
                    replace h := h.2 _ rfl
                    refine ⟨⟨fun hh => (by first | exact hh | trivial)⟩, ?_⟩
                    have h : _ = row := h
                    subst h
                    repeat' (first | exact trivial | exact rfl | refine And.intro ?_ ?_)
                  · replace h := h.f hb92
                    refine ⟨⟨fun hh => Bool.noConfusion (hh.symm.trans hb92)⟩, ?_⟩
                    refine ⟨⟨fun hh => Bool.noConfusion (hh.symm.trans hb92)⟩, ?_⟩
                    refine ⟨hb92, ?_⟩
                    refine ⟨⟨fun hh => Bool.noConfusion (hh.symm.trans hb87)⟩, ?_⟩
                    replace h := h _ rfl
                    refine ⟨⟨fun hh => Bool.noConfusion (hh.symm.trans hb87)⟩, ?_⟩
                    have h : _ = row := h
                    subst h
                    repeat' (first | exact trivial | exact rfl | refine And.intro ?_ ?_)
end Go.Proofs.Ytniijahjfbgfpaa.V
