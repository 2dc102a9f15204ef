/- Defects: the walks of what clips and selects them. No conditions. -/
import Derived.Test.YtkdapoipnkpbeaaPairs
set_option linter.unusedVariables false
set_option linter.unusedSimpArgs false
namespace Go.Proofs.Ytkdapoipnkpbeaa.V
open Go Go.Eng
set_option maxRecDepth 1000000
set_option maxHeartbeats 1000000
/-- papermill defect.Clip -/
def rf27 : RFn := ⟨(.seq (.ops 1 [⟨(some 3), (.v (.box 0 36 (.t 1))), none, []⟩, ⟨(some 4), (.v (.mv (.k (.c .nil)))), none, []⟩, ⟨(some 5), (.v (.mv (.k (.c (.int .i64 0))))), none, []⟩]) (.seq (.seq (.ops 0 [⟨(some 13), (.v (.lda 4 (.t 3))), none, []⟩, ⟨(some 14), (.v (.det 37 [⟨false, [(.int .i64)]⟩] [(.t 13)])), none, []⟩, ⟨(some 6), (.v (.mv (.t 14))), none, []⟩]) (.seq (.ops 0 [⟨(some 15), (.v (.mv (.t 6))), none, []⟩, ⟨(some 16), (.v (.bin .neq (.t 15) (.k (.c (.int .i64 0))))), none, []⟩]) (.cond (.t 16) (.seq (.ops 0 [⟨(some 17), (.v (.mv (.t 6))), none, []⟩, ⟨(some 4), (.v (.mv (.k (.c .nil)))), none, []⟩, ⟨(some 5), (.v (.mv (.t 17))), none, []⟩]) .ret) .skip))) (.seq (.seq (.ops 0 [⟨(some 18), (.v (.mv (.t 0))), none, []⟩, ⟨(some 19), (.v (.det 13 [⟨false, [(.int .i64)]⟩] [(.t 18)])), none, []⟩, ⟨(some 7), (.v (.mv (.t 19))), none, []⟩]) (.seq (.ops 0 [⟨(some 20), (.v (.mv (.t 7))), none, []⟩, ⟨(some 21), (.v (.bin .neq (.t 20) (.k (.c (.int .i64 0))))), none, []⟩]) (.cond (.t 21) (.seq (.ops 0 [⟨(some 22), (.v (.mv (.t 7))), none, []⟩, ⟨(some 4), (.v (.mv (.k (.c .nil)))), none, []⟩, ⟨(some 5), (.v (.mv (.t 22))), none, []⟩]) .ret) .skip))) (.seq (.ops 0 [⟨(some 8), (.v (.mv (.k (.c .nil)))), none, []⟩]) (.seq (.seq (.ops 0 [⟨(some 23), (.v (.mv (.t 0))), none, []⟩, ⟨(some 24), (.v (.lenS (.t 23))), none, []⟩, ⟨(some 25), (.v (.mv (.k (.c (.int .i64 0))))), none, []⟩]) (.block 0 (.loop (.seq (.ops 0 [⟨(some 26), (.v (.bin .lss (.t 25) (.t 24))), none, []⟩]) (.seq (.cond (.t 26) .skip (.exit 0)) (.seq (.block 1 (.seq (.ops 1 [⟨(some 27), (.v (.ia 6 (.t 23) (.t 25))), none, []⟩, ⟨(some 28), (.v (.lda 6 (.t 27))), none, []⟩, ⟨(some 10), (.v (.alloc 0 38 [(.c (.int .i64 0)), (.c (.int .i64 0)), (.c (.int .i64 0)), (.c (.int .i64 0)), (.c (.int .i64 0)), (.c (.int .i64 0))])), none, []⟩, ⟨none, (.v (.st 6 (.t 10) (.t 28))), none, []⟩]) (.seq (.ops 1 [⟨(some 30), (.v (.fa 0 (.t 10))), none, []⟩, ⟨(some 31), (.v (.lda 4 (.t 30))), none, []⟩, ⟨(some 32), (.v (.lda 4 (.t 3))), none, []⟩, ⟨(some 33), (.v (.det 29 [⟨true, [(.int .i64), (.int .i64), (.int .i64), (.int .i64)]⟩, ⟨false, [.bool]⟩] [(.t 31), (.t 32)])), none, []⟩, ⟨(some 29), (.v (.mv (.t 33))), none, []⟩, ⟨(some 34), (.v (.ext (.t 29) 0)), none, []⟩, ⟨(some 35), (.v (.ext (.t 29) 1)), none, []⟩, ⟨(some 11), (.v (.alloc 0 36 [(.c (.int .i64 0)), (.c (.int .i64 0)), (.c (.int .i64 0)), (.c (.int .i64 0))])), none, []⟩, ⟨none, (.v (.st 4 (.t 11) (.t 34))), none, []⟩, ⟨(some 12), (.v (.mv (.t 35))), none, []⟩]) (.seq (.ops 0 [⟨(some 36), (.v (.mv (.t 12))), none, []⟩]) (.cond (.t 36) (.ops 2 [⟨(some 37), (.v (.mv (.t 8))), none, []⟩, ⟨(some 38), (.v (.lda 4 (.t 11))), none, []⟩, ⟨(some 39), (.v (.fa 4 (.t 10))), none, []⟩, ⟨(some 40), (.v (.ld (.t 39))), none, []⟩, ⟨(some 41), (.v (.fa 5 (.t 10))), none, []⟩, ⟨(some 42), (.v (.ld (.t 41))), none, []⟩, ⟨(some 43), (.v (.build [(.c (.int .i64 0)), (.c (.int .i64 0)), (.c (.int .i64 0)), (.c (.int .i64 0)), (.c (.int .i64 0)), (.c (.int .i64 0))] [⟨0, ⟨4, (.t 38)⟩⟩, ⟨4, ⟨1, (.t 40)⟩⟩, ⟨5, ⟨1, (.t 42)⟩⟩])), none, []⟩, ⟨(some 44), (.v (.bsl 0 38 [(.int .i64), (.int .i64), (.int .i64), (.int .i64), (.int .i64), (.int .i64)] [(.t 43)])), none, []⟩, ⟨(some 45), (.v (.app 1 38 [(.int .i64), (.int .i64), (.int .i64), (.int .i64), (.int .i64), (.int .i64)] 2932031007402 (.t 37) (.t 44))), none, []⟩, ⟨(some 8), (.v (.mv (.t 45))), none, []⟩]) .skip))))) (.ops 0 [⟨(some 46), (.v (.bin .add (.t 25) (.k (.c (.int .i64 1))))), none, []⟩, ⟨(some 25), (.v (.mv (.t 46))), none, []⟩]))))))) (.seq (.ops 0 [⟨(some 47), (.v (.mv (.t 8))), none, []⟩, ⟨(some 4), (.v (.mv (.t 47))), none, []⟩, ⟨(some 5), (.v (.mv (.k (.c (.int .i64 0))))), none, []⟩]) .ret)))))), 48, [(.t 4), (.t 5)]⟩
theorem h27 : fnR Try.prog DD 27 = some rf27 := by kernel_rfl
/-- papermill papermillref36.Clip -/
def rf28 : RFn := ⟨(.seq (.ops 1 [⟨(some 3), (.v (.box 0 36 (.t 1))), none, []⟩, ⟨(some 4), (.v (.mv (.k (.c .nil)))), none, []⟩, ⟨(some 5), (.v (.mv (.k (.c (.int .i64 0))))), none, []⟩]) (.seq (.seq (.ops 0 [⟨(some 12), (.v (.lda 4 (.t 3))), none, []⟩, ⟨(some 13), (.v (.det 38 [⟨false, [(.int .i64)]⟩] [(.t 12)])), none, []⟩, ⟨(some 6), (.v (.mv (.t 13))), none, []⟩]) (.seq (.ops 0 [⟨(some 14), (.v (.mv (.t 6))), none, []⟩, ⟨(some 15), (.v (.bin .neq (.t 14) (.k (.c (.int .i64 0))))), none, []⟩]) (.cond (.t 15) (.seq (.ops 0 [⟨(some 16), (.v (.mv (.t 6))), none, []⟩, ⟨(some 4), (.v (.mv (.k (.c .nil)))), none, []⟩, ⟨(some 5), (.v (.mv (.t 16))), none, []⟩]) .ret) .skip))) (.seq (.seq (.ops 0 [⟨(some 17), (.v (.mv (.t 0))), none, []⟩, ⟨(some 18), (.v (.det 14 [⟨false, [(.int .i64)]⟩] [(.t 17)])), none, []⟩, ⟨(some 7), (.v (.mv (.t 18))), none, []⟩]) (.seq (.ops 0 [⟨(some 19), (.v (.mv (.t 7))), none, []⟩, ⟨(some 20), (.v (.bin .neq (.t 19) (.k (.c (.int .i64 0))))), none, []⟩]) (.cond (.t 20) (.seq (.ops 0 [⟨(some 21), (.v (.mv (.t 7))), none, []⟩, ⟨(some 4), (.v (.mv (.k (.c .nil)))), none, []⟩, ⟨(some 5), (.v (.mv (.t 21))), none, []⟩]) .ret) .skip))) (.seq (.ops 0 [⟨(some 8), (.v (.mv (.k (.c .nil)))), none, []⟩]) (.seq (.seq (.ops 0 [⟨(some 9), (.v (.mv (.k (.c (.int .i64 0))))), none, []⟩]) (.block 0 (.loop (.seq (.seq (.ops 0 [⟨(some 22), (.v (.mv (.t 9))), none, []⟩, ⟨(some 23), (.v (.mv (.t 0))), none, []⟩, ⟨(some 24), (.v (.lenS (.t 23))), none, []⟩, ⟨(some 25), (.v (.bin .lss (.t 22) (.t 24))), none, []⟩]) (.cond (.t 25) .skip (.exit 0))) (.seq (.block 1 (.seq (.any 1 [⟨0, ⟨[], ⟨(some 29), (.v (.mv (.t 0))), none, []⟩⟩⟩, ⟨1, ⟨[], ⟨(some 30), (.v (.mv (.t 9))), none, []⟩⟩⟩, ⟨2, ⟨[0, 1], ⟨(some 31), (.v (.ia 6 (.t 29) (.t 30))), none, []⟩⟩⟩, ⟨3, ⟨[2, 0, 1], ⟨(some 32), (.v (.fa 0 (.t 31))), none, []⟩⟩⟩, ⟨4, ⟨[3, 2, 0, 1], ⟨(some 33), (.v (.lda 4 (.t 32))), none, []⟩⟩⟩, ⟨5, ⟨[], ⟨(some 34), (.v (.lda 4 (.t 3))), none, []⟩⟩⟩, ⟨6, ⟨[4, 3, 2, 0, 1, 5], ⟨(some 35), (.v (.det 46 [⟨true, [(.int .i64), (.int .i64), (.int .i64), (.int .i64)]⟩, ⟨false, [.bool]⟩] [(.t 33), (.t 34)])), none, []⟩⟩⟩, ⟨7, ⟨[6, 4, 3, 2, 0, 1, 5], ⟨(some 28), (.v (.mv (.t 35))), none, []⟩⟩⟩, ⟨8, ⟨[7, 6, 4, 3, 2, 0, 1, 5], ⟨(some 36), (.v (.ext (.t 28) 0)), none, []⟩⟩⟩, ⟨9, ⟨[7, 6, 4, 3, 2, 0, 1, 5], ⟨(some 37), (.v (.ext (.t 28) 1)), none, []⟩⟩⟩, ⟨10, ⟨[], ⟨(some 10), (.v (.alloc 0 36 [(.c (.int .i64 0)), (.c (.int .i64 0)), (.c (.int .i64 0)), (.c (.int .i64 0))])), none, []⟩⟩⟩, ⟨11, ⟨[8, 7, 6, 4, 3, 2, 0, 1, 5, 10], ⟨none, (.v (.st 4 (.t 10) (.t 36))), none, []⟩⟩⟩, ⟨12, ⟨[9, 11, 8, 7, 6, 4, 3, 2, 0, 1, 5, 10], ⟨(some 11), (.v (.mv (.t 37))), none, []⟩⟩⟩]) (.seq (.ops 0 [⟨(some 38), (.v (.mv (.t 11))), none, []⟩]) (.cond (.t 38) (.any 2 [⟨0, ⟨[], ⟨(some 39), (.v (.mv (.t 8))), none, []⟩⟩⟩, ⟨1, ⟨[], ⟨(some 40), (.v (.lda 4 (.t 10))), none, []⟩⟩⟩, ⟨2, ⟨[], ⟨(some 41), (.v (.mv (.t 0))), none, []⟩⟩⟩, ⟨3, ⟨[], ⟨(some 42), (.v (.mv (.t 9))), none, []⟩⟩⟩, ⟨4, ⟨[2, 3], ⟨(some 43), (.v (.ia 6 (.t 41) (.t 42))), none, []⟩⟩⟩, ⟨5, ⟨[4, 2, 3], ⟨(some 44), (.v (.fa 4 (.t 43))), none, []⟩⟩⟩, ⟨6, ⟨[5, 4, 2, 3], ⟨(some 45), (.v (.ld (.t 44))), none, []⟩⟩⟩, ⟨7, ⟨[], ⟨(some 46), (.v (.mv (.t 0))), none, []⟩⟩⟩, ⟨8, ⟨[], ⟨(some 47), (.v (.mv (.t 9))), none, []⟩⟩⟩, ⟨9, ⟨[7, 8], ⟨(some 48), (.v (.ia 6 (.t 46) (.t 47))), none, []⟩⟩⟩, ⟨10, ⟨[9, 7, 8], ⟨(some 49), (.v (.fa 5 (.t 48))), none, []⟩⟩⟩, ⟨11, ⟨[10, 9, 7, 8], ⟨(some 50), (.v (.ld (.t 49))), none, []⟩⟩⟩, ⟨12, ⟨[1, 6, 5, 4, 2, 3, 11, 10, 9, 7, 8], ⟨(some 51), (.v (.build [(.c (.int .i64 0)), (.c (.int .i64 0)), (.c (.int .i64 0)), (.c (.int .i64 0)), (.c (.int .i64 0)), (.c (.int .i64 0))] [⟨0, ⟨4, (.t 40)⟩⟩, ⟨4, ⟨1, (.t 45)⟩⟩, ⟨5, ⟨1, (.t 50)⟩⟩])), none, []⟩⟩⟩, ⟨13, ⟨[12, 1, 6, 5, 4, 2, 3, 11, 10, 9, 7, 8], ⟨(some 52), (.v (.bsl 0 38 [(.int .i64), (.int .i64), (.int .i64), (.int .i64), (.int .i64), (.int .i64)] [(.t 51)])), none, []⟩⟩⟩, ⟨14, ⟨[0, 13, 12, 1, 6, 5, 4, 2, 3, 11, 10, 9, 7, 8], ⟨(some 53), (.v (.app 1 38 [(.int .i64), (.int .i64), (.int .i64), (.int .i64), (.int .i64), (.int .i64)] 2932031007402 (.t 39) (.t 52))), none, []⟩⟩⟩, ⟨15, ⟨[14, 0, 13, 12, 1, 6, 5, 4, 2, 3, 11, 10, 9, 7, 8], ⟨(some 8), (.v (.mv (.t 53))), none, []⟩⟩⟩]) .skip)))) (.ops 0 [⟨(some 26), (.v (.mv (.t 9))), none, []⟩, ⟨(some 27), (.v (.bin .add (.t 26) (.k (.c (.int .i64 1))))), none, []⟩, ⟨(some 9), (.v (.mv (.t 27))), none, []⟩])))))) (.seq (.ops 0 [⟨(some 54), (.v (.mv (.t 8))), none, []⟩, ⟨(some 4), (.v (.mv (.t 54))), none, []⟩, ⟨(some 5), (.v (.mv (.k (.c (.int .i64 0))))), none, []⟩]) .ret)))))), 55, [(.t 4), (.t 5)]⟩
theorem h28 : fnR Try.prog DD 28 = some rf28 := by kernel_rfl
/-- papermill papermilllaw36.DefectClips -/
def rf8 : RFn := ⟨(.seq (.ops 1 [⟨(some 3), (.v (.box 0 36 (.t 1))), none, []⟩, ⟨(some 4), (.v (.mv (.k (.c (.bool false))))), none, []⟩]) (.seq (.seq (.ops 0 [⟨(some 9), (.v (.mv (.t 0))), none, []⟩, ⟨(some 10), (.v (.lenS (.t 9))), none, []⟩, ⟨(some 11), (.v (.bin .gtr (.t 10) (.k (.c (.int .i64 140))))), none, []⟩]) (.cond (.t 11) (.seq (.ops 0 [⟨(some 12), (.v (.det 10 [⟨false, [.bool]⟩] [])), none, []⟩, ⟨(some 4), (.v (.mv (.t 12))), none, []⟩]) .ret) .skip)) (.seq (.ops 0 [⟨(some 14), (.v (.mv (.t 0))), none, []⟩, ⟨(some 15), (.v (.lda 4 (.t 3))), none, []⟩, ⟨(some 16), (.v (.det 27 [⟨false, [(.sl [(.int .i64), (.int .i64), (.int .i64), (.int .i64), (.int .i64), (.int .i64)])]⟩, ⟨false, [(.int .i64)]⟩] [(.t 14), (.t 15)])), none, []⟩, ⟨(some 13), (.v (.mv (.t 16))), none, []⟩, ⟨(some 17), (.v (.ext (.t 13) 0)), none, []⟩, ⟨(some 18), (.v (.ext (.t 13) 1)), none, []⟩, ⟨(some 5), (.v (.mv (.t 17))), none, []⟩, ⟨(some 6), (.v (.mv (.t 18))), none, []⟩]) (.seq (.ops 0 [⟨(some 20), (.v (.mv (.t 0))), none, []⟩, ⟨(some 21), (.v (.lda 4 (.t 3))), none, []⟩, ⟨(some 22), (.v (.det 28 [⟨false, [(.sl [(.int .i64), (.int .i64), (.int .i64), (.int .i64), (.int .i64), (.int .i64)])]⟩, ⟨false, [(.int .i64)]⟩] [(.t 20), (.t 21)])), none, []⟩, ⟨(some 19), (.v (.mv (.t 22))), none, []⟩, ⟨(some 23), (.v (.ext (.t 19) 0)), none, []⟩, ⟨(some 24), (.v (.ext (.t 19) 1)), none, []⟩, ⟨(some 7), (.v (.mv (.t 23))), none, []⟩, ⟨(some 8), (.v (.mv (.t 24))), none, []⟩]) (.seq (.ops 0 [⟨(some 25), (.v (.mv (.t 5))), none, []⟩, ⟨(some 26), (.v (.mv (.t 7))), none, []⟩, ⟨(some 27), (.v (.det 15 [⟨false, [.bool]⟩] [(.t 25), (.t 26)])), none, []⟩, ⟨(some 28), (.v (.mv (.t 27))), none, []⟩, ⟨(some 29), (.v (.mv (.t 6))), (some ⟨28, true⟩), [(.t 6)]⟩, ⟨(some 30), (.v (.mv (.t 8))), (some ⟨28, true⟩), [(.t 8)]⟩, ⟨(some 31), (.v (.bin .eql (.t 29) (.t 30))), (some ⟨28, true⟩), [(.t 29), (.t 30)]⟩, ⟨(some 32), (.v (.pick (.t 28) (.t 31) (.k (.c (.bool false))))), none, []⟩, ⟨(some 33), (.v (.mv (.t 32))), none, []⟩, ⟨(some 34), (.v (.det 10 [⟨false, [.bool]⟩] [])), (some ⟨33, true⟩), [(.k (.fn 10 []))]⟩, ⟨(some 35), (.v (.pick (.t 33) (.t 34) (.k (.c (.bool false))))), none, []⟩, ⟨(some 4), (.v (.mv (.t 35))), none, []⟩]) .ret))))), 36, [(.t 4)]⟩
theorem h8 : fnR Try.prog DD 8 = some rf8 := by kernel_rfl
def vc27 (E : Env) (x1 : List (List C)) (x2 : Int) (x3 : Int) (x4 : Int) (x5 : Int) (Q : List C → Prop) : Prop :=
  (E.pok 37 [(false, [.int .i64])] [.agg [.c (.int .i64 x2), .c (.int .i64 x3), .c (.int .i64 x4), .c (.int .i64 x5)]]) ∧ (∀ r6 : Nat → C, r6 = E.res 37 [.agg [.c (.int .i64 x2), .c (.int .i64 x3), .c (.int .i64 x4), .c (.int .i64 x5)]] → 
  (Br (E.not (E.eq (E.gi (r6 0)) 0))
  (Q [.sl [.int .i64, .int .i64, .int .i64, .int .i64, .int .i64, .int .i64] [], .int .i64 (E.gi (r6 0))])
  ((E.pok 13 [(false, [.int .i64])] [.c (.sl [.int .i64, .int .i64, .int .i64, .int .i64, .int .i64, .int .i64] x1)]) ∧ (∀ r7 : Nat → C, r7 = E.res 13 [.c (.sl [.int .i64, .int .i64, .int .i64, .int .i64, .int .i64, .int .i64] x1)] → 
    (Br (E.not (E.eq (E.gi (r7 0)) 0))
    (Q [.sl [.int .i64, .int .i64, .int .i64, .int .i64, .int .i64, .int .i64] [], .int .i64 (E.gi (r7 0))])
    (LoopP2 (fun (l8 : List (List C)) (i9 : Int) (K10 : (List (List C)) → (Int) → Prop) =>
      Br (E.lt i9 (E.len x1))
        (((E.le 0 i9) = true) ∧ 
          ((E.pok 29 [(true, [.int .i64, .int .i64, .int .i64, .int .i64]), (false, [.bool])] [.agg [.c (.int .i64 (E.gi (E.cell x1 i9 0))), .c (.int .i64 (E.gi (E.cell x1 i9 1))), .c (.int .i64 (E.gi (E.cell x1 i9 2))), .c (.int .i64 (E.gi (E.cell x1 i9 3)))], .agg [.c (.int .i64 x2), .c (.int .i64 x3), .c (.int .i64 x4), .c (.int .i64 x5)]]) ∧ (∀ r11 : Nat → C, r11 = E.res 29 [.agg [.c (.int .i64 (E.gi (E.cell x1 i9 0))), .c (.int .i64 (E.gi (E.cell x1 i9 1))), .c (.int .i64 (E.gi (E.cell x1 i9 2))), .c (.int .i64 (E.gi (E.cell x1 i9 3)))], .agg [.c (.int .i64 x2), .c (.int .i64 x3), .c (.int .i64 x4), .c (.int .i64 x5)]] → 
          (Br (E.gb (r11 4))
          (((E.le (E.pl (E.len l8) (E.len [[.int .i64 (E.gi (r11 0)), .int .i64 (E.gi (r11 1)), .int .i64 (E.gi (r11 2)), .int .i64 (E.gi (r11 3)), .int .i64 (E.gi (E.cell x1 i9 4)), .int .i64 (E.gi (E.cell x1 i9 5))]])) 2932031007402) = true) ∧ 
            (K10 ((E.cat l8 [[.int .i64 (E.gi (r11 0)), .int .i64 (E.gi (r11 1)), .int .i64 (E.gi (r11 2)), .int .i64 (E.gi (r11 3)), .int .i64 (E.gi (E.cell x1 i9 4)), .int .i64 (E.gi (E.cell x1 i9 5))]])) ((E.add .i64 i9 1))))
          (K10 (l8) ((E.add .i64 i9 1)))))))
        (Q [.sl [.int .i64, .int .i64, .int .i64, .int .i64, .int .i64, .int .i64] l8, .int .i64 0]))
      ([]) (0)))))))
theorem w27 {P : Program} {tbl : FuncId → List A → List C}  {x1 : List (List C)} {x2 : Int} {x3 : Int} {x4 : Int} {x5 : Int} {row : List C} (h : vc27 (stdE P tbl) x1 x2 x3 x4 x5 fun c => c = row) : WPg P tbl rf27 [(false, [.sl [.int .i64, .int .i64, .int .i64, .int .i64, .int .i64, .int .i64]]), (false, [.int .i64])] row [.c (.sl [.int .i64, .int .i64, .int .i64, .int .i64, .int .i64, .int .i64] x1), .agg [.c (.int .i64 x2), .c (.int .i64 x3), .c (.int .i64 x4), .c (.int .i64 x5)]] := by
  refine ⟨?_⟩
  revert h
  generalize hE : stdE P tbl = E
  intro h
  unfold vc27 at h
  cbv
  have c12 := h.1
  refine ⟨c12, ?_⟩
  replace h := h.2 _ rfl
  refine ⟨fun hb13 => ?_, fun hb13 => ?_⟩
  · replace h := h.t hb13
    have h : _ = row := h
    subst h
    repeat' (first | exact trivial | exact rfl | refine And.intro ?_ ?_)
  · replace h := h.f hb13
    have c14 := h.1
    refine ⟨c14, ?_⟩
    replace h := h.2 _ rfl
    refine ⟨fun hb15 => ?_, fun hb15 => ?_⟩
    · replace h := h.t hb15
      have h : _ = row := h
      subst h
      repeat' (first | exact trivial | exact rfl | refine And.intro ?_ ?_)
    · replace h := h.f hb15
      obtain ⟨I, μ, h0, hI⟩ := h
      refine LoopW.inv (fun R R' s h k => RCode.wp_mono _ R R' s h k) (fun p : List (List C) × Int => (fun (l8 : List (List C)) (i9 : Int) => (⟨[.u, .u, .u, .ptr 0 0, .u, .u, .u, .u, .gr 1, .u, .u, .u, .u, .u, .u, .u, .u, .u, .u, .u, .u, .u, .u, .c (.sl [.int .i64, .int .i64, .int .i64, .int .i64, .int .i64, .int .i64] x1), .c (.int .i64 (E.len x1)), .c (.int .i64 i9), .u, .u, .u, .u, .u, .u, .u, .u, .u, .u, .u, .u, .u, .u, .u, .u, .u, .u, .u, .u, .u, .u], [.box 36 [.c (.int .i64 x2), .c (.int .i64 x3), .c (.int .i64 x4), .c (.int .i64 x5)], .arr 38 [.int .i64, .int .i64, .int .i64, .int .i64, .int .i64, .int .i64] l8]⟩ : St)) p.1 p.2) (fun p => I p.1 p.2) (fun p => μ p.1 p.2) (_, _) h0 ?_ ?_
      · refine GSt.trans (GSt.nil 8 38 [.int .i64, .int .i64, .int .i64, .int .i64, .int .i64, .int .i64] rfl) (GSt.ren [0, 1] rfl rfl rfl (fun i hi => absurd hi (Nat.not_lt_zero i)) (Nat.zero_le _) ?_ ?_)
        all_goals (repeat' (first | exact trivial | exact Or.inl rfl | exact Or.inr rfl | refine And.intro ?_ ?_))
      · rintro ⟨l8, i9⟩ h
        replace h := hI l8 i9 h
        cbv
        refine ⟨fun hb16 => ?_, fun hb16 => ?_⟩
        · replace h := h.t hb16
          have c17 := h.1
          refine ⟨c17, ?_⟩
          replace h := h.2
          refine ⟨hb16, ?_⟩
          have c18 := h.1
          refine ⟨c18, ?_⟩
          replace h := h.2 _ rfl
          refine ⟨fun hb19 => ?_, fun hb19 => ?_⟩
          · replace h := h.t hb19
            have c20 := h.1
            refine ⟨c20, ?_⟩
            replace h := h.2
            refine ⟨(_, _), h.1, GSt.ren [0, 5] rfl rfl rfl (fun i hi => absurd hi (Nat.not_lt_zero i)) (Nat.zero_le _) ?_ ?_, h.2⟩
            all_goals (repeat' (first | exact trivial | exact Or.inl rfl | exact Or.inr rfl | refine And.intro ?_ ?_))
          · replace h := h.f hb19
            refine ⟨(_, _), h.1, GSt.ren [0, 1] rfl rfl rfl (fun i hi => absurd hi (Nat.not_lt_zero i)) (Nat.zero_le _) ?_ ?_, h.2⟩
            all_goals (repeat' (first | exact trivial | exact Or.inl rfl | exact Or.inr rfl | refine And.intro ?_ ?_))
        · replace h := h.f hb16
          have h : _ = row := h
          subst h
          repeat' (first | exact trivial | exact rfl | refine And.intro ?_ ?_)
def vc28 (E : Env) (x1 : List (List C)) (x2 : Int) (x3 : Int) (x4 : Int) (x5 : Int) (Q : List C → Prop) : Prop :=
  (E.pok 38 [(false, [.int .i64])] [.agg [.c (.int .i64 x2), .c (.int .i64 x3), .c (.int .i64 x4), .c (.int .i64 x5)]]) ∧ (∀ r6 : Nat → C, r6 = E.res 38 [.agg [.c (.int .i64 x2), .c (.int .i64 x3), .c (.int .i64 x4), .c (.int .i64 x5)]] → 
  (Br (E.not (E.eq (E.gi (r6 0)) 0))
  (Q [.sl [.int .i64, .int .i64, .int .i64, .int .i64, .int .i64, .int .i64] [], .int .i64 (E.gi (r6 0))])
  ((E.pok 14 [(false, [.int .i64])] [.c (.sl [.int .i64, .int .i64, .int .i64, .int .i64, .int .i64, .int .i64] x1)]) ∧ (∀ r7 : Nat → C, r7 = E.res 14 [.c (.sl [.int .i64, .int .i64, .int .i64, .int .i64, .int .i64, .int .i64] x1)] → 
    (Br (E.not (E.eq (E.gi (r7 0)) 0))
    (Q [.sl [.int .i64, .int .i64, .int .i64, .int .i64, .int .i64, .int .i64] [], .int .i64 (E.gi (r7 0))])
    (LoopP2 (fun (l8 : List (List C)) (i9 : Int) (K10 : (List (List C)) → (Int) → Prop) =>
      Br (E.lt i9 (E.len x1))
        (((E.le 0 i9) = true) ∧ 
          ((E.pok 46 [(true, [.int .i64, .int .i64, .int .i64, .int .i64]), (false, [.bool])] [.agg [.c (.int .i64 (E.gi (E.cell x1 i9 0))), .c (.int .i64 (E.gi (E.cell x1 i9 1))), .c (.int .i64 (E.gi (E.cell x1 i9 2))), .c (.int .i64 (E.gi (E.cell x1 i9 3)))], .agg [.c (.int .i64 x2), .c (.int .i64 x3), .c (.int .i64 x4), .c (.int .i64 x5)]]) ∧ (∀ r11 : Nat → C, r11 = E.res 46 [.agg [.c (.int .i64 (E.gi (E.cell x1 i9 0))), .c (.int .i64 (E.gi (E.cell x1 i9 1))), .c (.int .i64 (E.gi (E.cell x1 i9 2))), .c (.int .i64 (E.gi (E.cell x1 i9 3)))], .agg [.c (.int .i64 x2), .c (.int .i64 x3), .c (.int .i64 x4), .c (.int .i64 x5)]] → 
          (Br (E.gb (r11 4))
          (((E.le (E.pl (E.len l8) (E.len [[.int .i64 (E.gi (r11 0)), .int .i64 (E.gi (r11 1)), .int .i64 (E.gi (r11 2)), .int .i64 (E.gi (r11 3)), .int .i64 (E.gi (E.cell x1 i9 4)), .int .i64 (E.gi (E.cell x1 i9 5))]])) 2932031007402) = true) ∧ 
            (K10 ((E.cat l8 [[.int .i64 (E.gi (r11 0)), .int .i64 (E.gi (r11 1)), .int .i64 (E.gi (r11 2)), .int .i64 (E.gi (r11 3)), .int .i64 (E.gi (E.cell x1 i9 4)), .int .i64 (E.gi (E.cell x1 i9 5))]])) ((E.add .i64 i9 1))))
          (K10 (l8) ((E.add .i64 i9 1)))))))
        (Q [.sl [.int .i64, .int .i64, .int .i64, .int .i64, .int .i64, .int .i64] l8, .int .i64 0]))
      ([]) (0)))))))
theorem w28 {P : Program} {tbl : FuncId → List A → List C}  {x1 : List (List C)} {x2 : Int} {x3 : Int} {x4 : Int} {x5 : Int} {row : List C} (h : vc28 (stdE P tbl) x1 x2 x3 x4 x5 fun c => c = row) : WPg P tbl rf28 [(false, [.sl [.int .i64, .int .i64, .int .i64, .int .i64, .int .i64, .int .i64]]), (false, [.int .i64])] row [.c (.sl [.int .i64, .int .i64, .int .i64, .int .i64, .int .i64, .int .i64] x1), .agg [.c (.int .i64 x2), .c (.int .i64 x3), .c (.int .i64 x4), .c (.int .i64 x5)]] := by
  refine ⟨?_⟩
  revert h
  generalize hE : stdE P tbl = E
  intro h
  unfold vc28 at h
  cbv
  have c12 := h.1
  refine ⟨c12, ?_⟩
  replace h := h.2 _ rfl
  refine ⟨fun hb13 => ?_, fun hb13 => ?_⟩
  · replace h := h.t hb13
    have h : _ = row := h
    subst h
    repeat' (first | exact trivial | exact rfl | refine And.intro ?_ ?_)
  · replace h := h.f hb13
    have c14 := h.1
    refine ⟨c14, ?_⟩
    replace h := h.2 _ rfl
    refine ⟨fun hb15 => ?_, fun hb15 => ?_⟩
    · replace h := h.t hb15
      have h : _ = row := h
      subst h
      repeat' (first | exact trivial | exact rfl | refine And.intro ?_ ?_)
    · replace h := h.f hb15
      obtain ⟨I, μ, h0, hI⟩ := h
      refine LoopW.inv (fun R R' s h k => RCode.wp_mono _ R R' s h k) (fun p : List (List C) × Int => (fun (l8 : List (List C)) (i9 : Int) => (⟨[.c (.sl [.int .i64, .int .i64, .int .i64, .int .i64, .int .i64, .int .i64] x1), .u, .u, .ptr 0 0, .u, .u, .u, .u, .gr 1, .c (.int .i64 i9), .u, .u, .u, .u, .u, .u, .u, .u, .u, .u, .u, .u, .u, .u, .u, .u, .u, .u, .u, .u, .u, .u, .u, .u, .u, .u, .u, .u, .u, .u, .u, .u, .u, .u, .u, .u, .u, .u, .u, .u, .u, .u, .u, .u, .u], [.box 36 [.c (.int .i64 x2), .c (.int .i64 x3), .c (.int .i64 x4), .c (.int .i64 x5)], .arr 38 [.int .i64, .int .i64, .int .i64, .int .i64, .int .i64, .int .i64] l8]⟩ : St)) p.1 p.2) (fun p => I p.1 p.2) (fun p => μ p.1 p.2) (_, _) h0 ?_ ?_
      · refine GSt.trans (GSt.nil 8 38 [.int .i64, .int .i64, .int .i64, .int .i64, .int .i64, .int .i64] rfl) (GSt.ren [0, 1] rfl rfl rfl (fun i hi => absurd hi (Nat.not_lt_zero i)) (Nat.zero_le _) ?_ ?_)
        all_goals (repeat' (first | exact trivial | exact Or.inl rfl | exact Or.inr rfl | refine And.intro ?_ ?_))
      · rintro ⟨l8, i9⟩ h
        replace h := hI l8 i9 h
        cbv
        refine ⟨fun hb16 => ?_, fun hb16 => ?_⟩
        · replace h := h.t hb16
          have c17 := h.1
          refine ⟨c17, ?_⟩
          replace h := h.2
          refine ⟨hb16, ?_⟩
          have c18 := h.1
          refine ⟨c18, ?_⟩
          replace h := h.2 _ rfl
          refine ⟨fun hb19 => ?_, fun hb19 => ?_⟩
          · replace h := h.t hb19
            refine ⟨c17, ?_⟩
            refine ⟨hb16, ?_⟩
            refine ⟨c17, ?_⟩
            refine ⟨hb16, ?_⟩
            have c20 := h.1
            refine ⟨c20, ?_⟩
            replace h := h.2
            refine ⟨(_, _), h.1, GSt.ren [0, 4] rfl rfl rfl (fun i hi => absurd hi (Nat.not_lt_zero i)) (Nat.zero_le _) ?_ ?_, h.2⟩
            all_goals (repeat' (first | exact trivial | exact Or.inl rfl | exact Or.inr rfl | refine And.intro ?_ ?_))
          · replace h := h.f hb19
            refine ⟨(_, _), h.1, GSt.ren [0, 1] rfl rfl rfl (fun i hi => absurd hi (Nat.not_lt_zero i)) (Nat.zero_le _) ?_ ?_, h.2⟩
            all_goals (repeat' (first | exact trivial | exact Or.inl rfl | exact Or.inr rfl | refine And.intro ?_ ?_))
        · replace h := h.f hb16
          have h : _ = row := h
          subst h
          repeat' (first | exact trivial | exact rfl | refine And.intro ?_ ?_)
def vc8 (E : Env) (x1 : List (List C)) (x2 : Int) (x3 : Int) (x4 : Int) (x5 : Int) (Q : List C → Prop) : Prop :=
  Br (E.lt 140 (E.len x1))
  ((E.pok 10 [(false, [.bool])] []) ∧ (∀ r6 : Nat → C, r6 = E.res 10 [] → 
    (Q [.bool (E.gb (r6 0))])))
  ((E.pok 27 [(false, [.sl [.int .i64, .int .i64, .int .i64, .int .i64, .int .i64, .int .i64]]), (false, [.int .i64])] [.c (.sl [.int .i64, .int .i64, .int .i64, .int .i64, .int .i64, .int .i64] x1), .agg [.c (.int .i64 x2), .c (.int .i64 x3), .c (.int .i64 x4), .c (.int .i64 x5)]]) ∧ (∀ r7 : Nat → C, r7 = E.res 27 [.c (.sl [.int .i64, .int .i64, .int .i64, .int .i64, .int .i64, .int .i64] x1), .agg [.c (.int .i64 x2), .c (.int .i64 x3), .c (.int .i64 x4), .c (.int .i64 x5)]] → 
    ((E.pok 28 [(false, [.sl [.int .i64, .int .i64, .int .i64, .int .i64, .int .i64, .int .i64]]), (false, [.int .i64])] [.c (.sl [.int .i64, .int .i64, .int .i64, .int .i64, .int .i64, .int .i64] x1), .agg [.c (.int .i64 x2), .c (.int .i64 x3), .c (.int .i64 x4), .c (.int .i64 x5)]]) ∧ (∀ r8 : Nat → C, r8 = E.res 28 [.c (.sl [.int .i64, .int .i64, .int .i64, .int .i64, .int .i64, .int .i64] x1), .agg [.c (.int .i64 x2), .c (.int .i64 x3), .c (.int .i64 x4), .c (.int .i64 x5)]] → 
    ((E.pok 15 [(false, [.bool])] [.c (.sl [.int .i64, .int .i64, .int .i64, .int .i64, .int .i64, .int .i64] (E.gl (r7 0))), .c (.sl [.int .i64, .int .i64, .int .i64, .int .i64, .int .i64, .int .i64] (E.gl (r8 0)))]) ∧ (∀ r9 : Nat → C, r9 = E.res 15 [.c (.sl [.int .i64, .int .i64, .int .i64, .int .i64, .int .i64, .int .i64] (E.gl (r7 0))), .c (.sl [.int .i64, .int .i64, .int .i64, .int .i64, .int .i64, .int .i64] (E.gl (r8 0)))] → 
    ((Imp (E.bite (E.gb (r9 0)) (E.eq (E.gi (r7 1)) (E.gi (r8 1))) false) (E.pok 10 [(false, [.bool])] [])) ∧ (∀ r10 : Nat → C, r10 = E.res 10 [] → 
    (Q [.bool (E.bite (E.bite (E.gb (r9 0)) (E.eq (E.gi (r7 1)) (E.gi (r8 1))) false) (E.gb (r10 0)) false)])))))))))
theorem w8 {P : Program} {tbl : FuncId → List A → List C}  {x1 : List (List C)} {x2 : Int} {x3 : Int} {x4 : Int} {x5 : Int} {row : List C} (h : vc8 (stdE P tbl) x1 x2 x3 x4 x5 fun c => c = row) : WPg P tbl rf8 [(false, [.bool])] row [.c (.sl [.int .i64, .int .i64, .int .i64, .int .i64, .int .i64, .int .i64] x1), .agg [.c (.int .i64 x2), .c (.int .i64 x3), .c (.int .i64 x4), .c (.int .i64 x5)]] := by
  refine ⟨?_⟩
  revert h
  generalize hE : stdE P tbl = E
  intro h
  unfold vc8 at h
  cbv
  refine ⟨fun hb11 => ?_, fun hb11 => ?_⟩
  · replace h := h.t hb11
    have c12 := h.1
    refine ⟨c12, ?_⟩
    replace h := h.2 _ rfl
    have h : _ = row := h
    subst h
    repeat' (first | exact trivial | exact rfl | refine And.intro ?_ ?_)
  · replace h := h.f hb11
    have c13 := h.1
    refine ⟨c13, ?_⟩
    replace h := h.2 _ rfl
    have c14 := h.1
    refine ⟨c14, ?_⟩
    replace h := h.2 _ rfl
    have c15 := h.1
    refine ⟨c15, ?_⟩
    replace h := h.2 _ rfl
    refine ⟨⟨fun hh => hh⟩, ?_⟩
    refine ⟨⟨fun hh => hh⟩, ?_⟩
    refine ⟨⟨fun hh => hh⟩, ?_⟩
    have c16 := h.1
    refine ⟨c16, ?_⟩
    replace h := h.2 _ rfl
    refine ⟨⟨fun hh => hh⟩, ?_⟩
    have h : _ = row := h
    subst h
    repeat' (first | exact trivial | exact rfl | refine And.intro ?_ ?_)
end Go.Proofs.Ytkdapoipnkpbeaa.V
