/- Defects: the walks of what selects and measures them. No conditions. -/
import Derived.Test.YtkdapoipnkpbeaaPairs
set_option linter.unusedVariables false
set_option linter.unusedSimpArgs false
namespace Go.Proofs.Ytkdapoipnkpbeaa.V
open Go Go.Eng
set_option maxRecDepth 1000000
set_option maxHeartbeats 1000000
/-- To be taken out: not of the kind, or of a lesser level. -/
def delD (k lv : Int) (q : I6) : Bool := (!(k == 0) && !(q.2.2.2.2.1 == k)) || decide (q.2.2.2.2.2 < lv)
def sel (rs : List I6) (k lv : Int) : List I6 := rs.filter fun q => !delD k lv q
def spDelFunc (xs : List (List C)) (k lv : Int) (K : List (List C) → Int → Prop) : Prop :=
  ∃ rs : List I6, xs = row6 rs ∧ rs.length ≤ 1000000 ∧ ∀ ys : List (List C), ys.length = rs.length → ys.take (sel rs k lv).length = row6 (sel rs k lv) → K ys (sel rs k lv).length
def DelFuncC (T : TypeId) (clo : FuncId) (P : Program) (f : FuncId) : Prop :=
  hasBody P f = true ∧ ∀ (xs : List (List C)) (k lv : Int) (K : List (List C) → Int → Prop), spDelFunc xs k lv K → ACalls P f [.gr 0, .fn clo [.ptr 1 0, .ptr 2 0]] [.arr T l6 xs, .box 3 [.c (.int .i64 k)], .box 3 [.c (.int .i64 lv)]] fun r H' => ∃ ys m, K ys m ∧ r = .own 0 0 m ∧ H' = [.arr T l6 ys, .box 3 [.c (.int .i64 k)], .box 3 [.c (.int .i64 lv)]]
/-- papermill defect.Select closure 1 -/
def rf42 : RFn := ⟨(.seq (.ops 1 [⟨(some 3), (.v (.box 0 38 (.t 0))), none, []⟩, ⟨(some 4), (.v (.mv (.k (.c (.bool false))))), none, []⟩]) (.seq (.ops 0 [⟨(some 5), (.v (.ld (.t 1))), none, []⟩, ⟨(some 6), (.v (.bin .neq (.t 5) (.k (.c (.int .i64 0))))), none, []⟩, ⟨(some 7), (.v (.mv (.t 6))), none, []⟩, ⟨(some 8), (.v (.fa 4 (.t 3))), (some ⟨7, true⟩), [(.t 3)]⟩, ⟨(some 9), (.v (.ld (.t 8))), (some ⟨7, true⟩), [(.t 8)]⟩, ⟨(some 10), (.v (.ld (.t 1))), (some ⟨7, true⟩), [(.t 1)]⟩, ⟨(some 11), (.v (.bin .neq (.t 9) (.t 10))), (some ⟨7, true⟩), [(.t 9), (.t 10)]⟩, ⟨(some 12), (.v (.pick (.t 7) (.t 11) (.k (.c (.bool false))))), none, []⟩, ⟨(some 13), (.v (.mv (.t 12))), none, []⟩, ⟨(some 14), (.v (.fa 5 (.t 3))), (some ⟨13, false⟩), [(.t 3)]⟩, ⟨(some 15), (.v (.ld (.t 14))), (some ⟨13, false⟩), [(.t 14)]⟩, ⟨(some 16), (.v (.ld (.t 2))), (some ⟨13, false⟩), [(.t 2)]⟩, ⟨(some 17), (.v (.bin .lss (.t 15) (.t 16))), (some ⟨13, false⟩), [(.t 15), (.t 16)]⟩, ⟨(some 18), (.v (.pick (.t 13) (.k (.c (.bool true))) (.t 17))), none, []⟩, ⟨(some 4), (.v (.mv (.t 18))), none, []⟩]) .ret)), 19, [(.t 4)]⟩
theorem h42 : fnR Try.prog DD 42 = some rf42 := by kernel_rfl
/-- slices.IndexFunc[[]papermill api.Spot,papermill api.Spot] -/
def rf53 : RFn := ⟨(.seq (.ops 0 [⟨(some 4), (.v (.mv (.k (.c (.int .i64 0))))), none, []⟩]) (.seq (.seq (.ops 0 [⟨(some 6), (.v (.mv (.t 0))), none, []⟩, ⟨(some 7), (.v (.lenS (.t 6))), none, []⟩, ⟨(some 8), (.v (.mv (.k (.c (.int .i64 0))))), none, []⟩]) (.block 0 (.loop (.seq (.ops 0 [⟨(some 9), (.v (.bin .lss (.t 8) (.t 7))), none, []⟩]) (.seq (.cond (.t 9) .skip (.exit 0)) (.seq (.block 1 (.seq (.ops 0 [⟨(some 10), (.v (.mv (.t 8))), none, []⟩, ⟨(some 5), (.v (.mv (.t 10))), none, []⟩]) (.seq (.ops 0 [⟨(some 11), (.v (.mv (.t 1))), none, []⟩, ⟨(some 12), (.v (.mv (.t 0))), none, []⟩, ⟨(some 13), (.v (.mv (.t 5))), none, []⟩, ⟨(some 14), (.v (.ia 6 (.t 12) (.t 13))), none, []⟩, ⟨(some 15), (.v (.lda 6 (.t 14))), none, []⟩, ⟨(some 16), (.v (.detv [⟨false, [.bool]⟩] (.t 11) [(.t 15)])), none, []⟩]) (.cond (.t 16) (.seq (.ops 0 [⟨(some 17), (.v (.mv (.t 5))), none, []⟩, ⟨(some 4), (.v (.mv (.t 17))), none, []⟩]) .ret) .skip)))) (.ops 0 [⟨(some 18), (.v (.bin .add (.t 8) (.k (.c (.int .i64 1))))), none, []⟩, ⟨(some 8), (.v (.mv (.t 18))), none, []⟩]))))))) (.seq (.ops 0 [⟨(some 4), (.v (.mv (.k (.c (.int .i64 (-1)))))), none, []⟩]) .ret))), 19, [(.t 4)]⟩
theorem h53 : fnR Try.prog DD 53 = some rf53 := by kernel_rfl
/-- slices.DeleteFunc[[]papermill api.Spot,papermill api.Spot] -/
def rf41 : RFn := ⟨(.seq (.ops 0 [⟨(some 4), (.v (.mv (.k (.c .nil)))), none, []⟩]) (.seq (.ops 0 [⟨(some 8), (.v (.mv (.t 0))), none, []⟩, ⟨(some 9), (.v (.mv (.t 1))), none, []⟩, ⟨(some 10), (.v (.det 53 [⟨false, [(.int .i64)]⟩] [(.t 8), (.t 9)])), none, []⟩, ⟨(some 5), (.v (.mv (.t 10))), none, []⟩]) (.seq (.seq (.ops 0 [⟨(some 11), (.v (.mv (.t 5))), none, []⟩, ⟨(some 12), (.v (.bin .eql (.t 11) (.k (.c (.int .i64 (-1)))))), none, []⟩]) (.cond (.t 12) (.seq (.ops 0 [⟨(some 13), (.v (.mv (.t 0))), none, []⟩, ⟨(some 4), (.v (.mv (.t 13))), none, []⟩]) .ret) .skip)) (.seq (.seq (.ops 0 [⟨(some 14), (.v (.mv (.t 5))), none, []⟩, ⟨(some 15), (.v (.bin .add (.t 14) (.k (.c (.int .i64 1))))), none, []⟩, ⟨(some 6), (.v (.mv (.t 15))), none, []⟩]) (.block 0 (.loop (.seq (.seq (.ops 0 [⟨(some 16), (.v (.mv (.t 6))), none, []⟩, ⟨(some 17), (.v (.mv (.t 0))), none, []⟩, ⟨(some 18), (.v (.lenS (.t 17))), none, []⟩, ⟨(some 19), (.v (.bin .lss (.t 16) (.t 18))), none, []⟩]) (.cond (.t 19) .skip (.exit 0))) (.seq (.block 1 (.seq (.ops 1 [⟨(some 22), (.v (.mv (.t 0))), none, []⟩, ⟨(some 23), (.v (.mv (.t 6))), none, []⟩, ⟨(some 24), (.v (.ia 6 (.t 22) (.t 23))), none, []⟩, ⟨(some 25), (.v (.lda 6 (.t 24))), none, []⟩, ⟨(some 7), (.v (.alloc 0 38 [(.c (.int .i64 0)), (.c (.int .i64 0)), (.c (.int .i64 0)), (.c (.int .i64 0)), (.c (.int .i64 0)), (.c (.int .i64 0))])), none, []⟩, ⟨none, (.v (.st 6 (.t 7) (.t 25))), none, []⟩]) (.seq (.ops 0 [⟨(some 26), (.v (.mv (.t 1))), none, []⟩, ⟨(some 27), (.v (.lda 6 (.t 7))), none, []⟩, ⟨(some 28), (.v (.detv [⟨false, [.bool]⟩] (.t 26) [(.t 27)])), none, []⟩, ⟨(some 29), (.v (.un .not (.t 28))), none, []⟩]) (.cond (.t 29) (.seq (.ops 0 [⟨(some 30), (.v (.mv (.t 0))), none, []⟩, ⟨(some 31), (.v (.mv (.t 5))), none, []⟩, ⟨(some 32), (.v (.lda 6 (.t 7))), none, []⟩, ⟨(some 33), (.v (.ia 6 (.t 30) (.t 31))), none, []⟩, ⟨none, (.v (.st 6 (.t 33) (.t 32))), none, []⟩]) (.ops 0 [⟨(some 34), (.v (.mv (.t 5))), none, []⟩, ⟨(some 35), (.v (.bin .add (.t 34) (.k (.c (.int .i64 1))))), none, []⟩, ⟨(some 5), (.v (.mv (.t 35))), none, []⟩])) .skip)))) (.ops 0 [⟨(some 20), (.v (.mv (.t 6))), none, []⟩, ⟨(some 21), (.v (.bin .add (.t 20) (.k (.c (.int .i64 1))))), none, []⟩, ⟨(some 6), (.v (.mv (.t 21))), none, []⟩])))))) (.seq (.ops 0 [⟨(some 36), (.v (.mv (.t 0))), none, []⟩, ⟨(some 37), (.v (.mv (.t 5))), none, []⟩, ⟨(some 38), (.v (.sls 6 (.t 36) (some (.t 37)) none)), none, []⟩, ⟨none, (.v (.clr [(.int .i64), (.int .i64), (.int .i64), (.int .i64), (.int .i64), (.int .i64)] [(.int .i64 0), (.int .i64 0), (.int .i64 0), (.int .i64 0), (.int .i64 0), (.int .i64 0)] (.t 38))), none, []⟩]) (.seq (.ops 0 [⟨(some 39), (.v (.mv (.t 0))), none, []⟩, ⟨(some 40), (.v (.mv (.t 5))), none, []⟩, ⟨(some 41), (.v (.sls 6 (.t 39) none (some (.t 40)))), none, []⟩, ⟨(some 4), (.v (.mv (.t 41))), none, []⟩]) .ret)))))), 42, [(.t 4)]⟩
theorem h41 : fnR Try.prog DD 41 = some rf41 := by kernel_rfl
/-- papermill defect.Select -/
def rf18 : RFn := ⟨(.seq (.ops 2 [⟨(some 4), (.v (.box 0 3 (.t 1))), none, []⟩, ⟨(some 5), (.v (.box 1 3 (.t 2))), none, []⟩, ⟨(some 6), (.v (.mv (.k (.c .nil)))), none, []⟩, ⟨(some 7), (.v (.mv (.k (.c (.int .i64 0))))), none, []⟩]) (.seq (.seq (.ops 0 [⟨(some 9), (.v (.mv (.t 0))), none, []⟩, ⟨(some 10), (.v (.det 13 [⟨false, [(.int .i64)]⟩] [(.t 9)])), none, []⟩, ⟨(some 8), (.v (.mv (.t 10))), none, []⟩]) (.seq (.ops 0 [⟨(some 11), (.v (.mv (.t 8))), none, []⟩, ⟨(some 12), (.v (.bin .neq (.t 11) (.k (.c (.int .i64 0))))), none, []⟩]) (.cond (.t 12) (.seq (.ops 0 [⟨(some 13), (.v (.mv (.t 8))), none, []⟩, ⟨(some 6), (.v (.mv (.k (.c .nil)))), none, []⟩, ⟨(some 7), (.v (.mv (.t 13))), none, []⟩]) .ret) .skip))) (.seq (.ops 0 [⟨(some 14), (.v (.mv (.t 0))), none, []⟩, ⟨(some 15), (.h (.call 31 [(.t 14)])), none, []⟩, ⟨(some 16), (.v (.mkf 42 [(.t 4), (.t 5)])), none, []⟩, ⟨(some 17), (.h (.call 41 [(.t 15), (.t 16)])), none, []⟩, ⟨(some 6), (.v (.mv (.t 17))), none, []⟩, ⟨(some 7), (.v (.mv (.k (.c (.int .i64 0))))), none, []⟩]) .ret))), 18, [(.t 6), (.t 7)]⟩
theorem h18 : fnR Try.prog DD 18 = some rf18 := by kernel_rfl
/-- papermill papermillref36.Select -/
def rf19 : RFn := ⟨(.seq (.ops 0 [⟨(some 6), (.v (.mv (.k (.c .nil)))), none, []⟩, ⟨(some 7), (.v (.mv (.k (.c (.int .i64 0))))), none, []⟩]) (.seq (.seq (.ops 0 [⟨(some 11), (.v (.mv (.t 0))), none, []⟩, ⟨(some 12), (.v (.det 14 [⟨false, [(.int .i64)]⟩] [(.t 11)])), none, []⟩, ⟨(some 8), (.v (.mv (.t 12))), none, []⟩]) (.seq (.ops 0 [⟨(some 13), (.v (.mv (.t 8))), none, []⟩, ⟨(some 14), (.v (.bin .neq (.t 13) (.k (.c (.int .i64 0))))), none, []⟩]) (.cond (.t 14) (.seq (.ops 0 [⟨(some 15), (.v (.mv (.t 8))), none, []⟩, ⟨(some 6), (.v (.mv (.k (.c .nil)))), none, []⟩, ⟨(some 7), (.v (.mv (.t 15))), none, []⟩]) .ret) .skip))) (.seq (.ops 0 [⟨(some 9), (.v (.mv (.k (.c .nil)))), none, []⟩]) (.seq (.seq (.ops 0 [⟨(some 10), (.v (.mv (.k (.c (.int .i64 0))))), none, []⟩]) (.block 0 (.loop (.seq (.seq (.ops 0 [⟨(some 16), (.v (.mv (.t 10))), none, []⟩, ⟨(some 17), (.v (.mv (.t 0))), none, []⟩, ⟨(some 18), (.v (.lenS (.t 17))), none, []⟩, ⟨(some 19), (.v (.bin .lss (.t 16) (.t 18))), none, []⟩]) (.cond (.t 19) .skip (.exit 0))) (.seq (.block 1 (.seq (.ops 0 [⟨(some 22), (.v (.mv (.t 1))), none, []⟩, ⟨(some 23), (.v (.bin .eql (.t 22) (.k (.c (.int .i64 0))))), none, []⟩, ⟨(some 24), (.v (.mv (.t 23))), none, []⟩, ⟨(some 25), (.v (.mv (.t 0))), (some ⟨24, false⟩), [(.t 0)]⟩, ⟨(some 26), (.v (.mv (.t 10))), (some ⟨24, false⟩), [(.t 10)]⟩, ⟨(some 27), (.v (.ia 6 (.t 25) (.t 26))), (some ⟨24, false⟩), [(.t 25), (.t 26)]⟩, ⟨(some 28), (.v (.fa 4 (.t 27))), (some ⟨24, false⟩), [(.t 27)]⟩, ⟨(some 29), (.v (.ld (.t 28))), (some ⟨24, false⟩), [(.t 28)]⟩, ⟨(some 30), (.v (.mv (.t 1))), (some ⟨24, false⟩), [(.t 1)]⟩, ⟨(some 31), (.v (.bin .eql (.t 29) (.t 30))), (some ⟨24, false⟩), [(.t 29), (.t 30)]⟩, ⟨(some 32), (.v (.pick (.t 24) (.k (.c (.bool true))) (.t 31))), none, []⟩, ⟨(some 33), (.v (.mv (.t 32))), none, []⟩, ⟨(some 34), (.v (.mv (.t 0))), (some ⟨33, true⟩), [(.t 0)]⟩, ⟨(some 35), (.v (.mv (.t 10))), (some ⟨33, true⟩), [(.t 10)]⟩, ⟨(some 36), (.v (.ia 6 (.t 34) (.t 35))), (some ⟨33, true⟩), [(.t 34), (.t 35)]⟩, ⟨(some 37), (.v (.fa 5 (.t 36))), (some ⟨33, true⟩), [(.t 36)]⟩, ⟨(some 38), (.v (.ld (.t 37))), (some ⟨33, true⟩), [(.t 37)]⟩, ⟨(some 39), (.v (.mv (.t 2))), (some ⟨33, true⟩), [(.t 2)]⟩, ⟨(some 40), (.v (.bin .geq (.t 38) (.t 39))), (some ⟨33, true⟩), [(.t 38), (.t 39)]⟩, ⟨(some 41), (.v (.pick (.t 33) (.t 40) (.k (.c (.bool false))))), none, []⟩]) (.cond (.t 41) (.ops 2 [⟨(some 42), (.v (.mv (.t 9))), none, []⟩, ⟨(some 43), (.v (.mv (.t 0))), none, []⟩, ⟨(some 44), (.v (.mv (.t 10))), none, []⟩, ⟨(some 45), (.v (.ia 6 (.t 43) (.t 44))), none, []⟩, ⟨(some 46), (.v (.lda 6 (.t 45))), none, []⟩, ⟨(some 47), (.v (.bsl 0 38 [(.int .i64), (.int .i64), (.int .i64), (.int .i64), (.int .i64), (.int .i64)] [(.t 46)])), none, []⟩, ⟨(some 48), (.v (.app 1 38 [(.int .i64), (.int .i64), (.int .i64), (.int .i64), (.int .i64), (.int .i64)] 2932031007402 (.t 42) (.t 47))), none, []⟩, ⟨(some 9), (.v (.mv (.t 48))), none, []⟩]) .skip))) (.ops 0 [⟨(some 20), (.v (.mv (.t 10))), none, []⟩, ⟨(some 21), (.v (.bin .add (.t 20) (.k (.c (.int .i64 1))))), none, []⟩, ⟨(some 10), (.v (.mv (.t 21))), none, []⟩])))))) (.seq (.ops 0 [⟨(some 49), (.v (.mv (.t 9))), none, []⟩, ⟨(some 6), (.v (.mv (.t 49))), none, []⟩, ⟨(some 7), (.v (.mv (.k (.c (.int .i64 0))))), none, []⟩]) .ret))))), 50, [(.t 6), (.t 7)]⟩
theorem h19 : fnR Try.prog DD 19 = some rf19 := by kernel_rfl
/-- papermill papermillref36.Lengths -/
def rf22 : RFn := ⟨(.seq (.ops 0 [⟨(some 2), (.v (.mv (.k (.c .nil)))), none, []⟩, ⟨(some 3), (.v (.mv (.k (.c (.int .i64 0))))), none, []⟩]) (.seq (.seq (.ops 0 [⟨(some 7), (.v (.mv (.t 0))), none, []⟩, ⟨(some 8), (.v (.det 14 [⟨false, [(.int .i64)]⟩] [(.t 7)])), none, []⟩, ⟨(some 4), (.v (.mv (.t 8))), none, []⟩]) (.seq (.ops 0 [⟨(some 9), (.v (.mv (.t 4))), none, []⟩, ⟨(some 10), (.v (.bin .neq (.t 9) (.k (.c (.int .i64 0))))), none, []⟩]) (.cond (.t 10) (.seq (.ops 0 [⟨(some 11), (.v (.mv (.t 4))), none, []⟩, ⟨(some 2), (.v (.mv (.k (.c .nil)))), none, []⟩, ⟨(some 3), (.v (.mv (.t 11))), none, []⟩]) .ret) .skip))) (.seq (.ops 0 [⟨(some 5), (.v (.mv (.k (.c .nil)))), none, []⟩]) (.seq (.seq (.ops 0 [⟨(some 6), (.v (.mv (.k (.c (.int .i64 0))))), none, []⟩]) (.block 0 (.loop (.seq (.seq (.ops 0 [⟨(some 12), (.v (.mv (.t 6))), none, []⟩, ⟨(some 13), (.v (.mv (.t 0))), none, []⟩, ⟨(some 14), (.v (.lenS (.t 13))), none, []⟩, ⟨(some 15), (.v (.bin .lss (.t 12) (.t 14))), none, []⟩]) (.cond (.t 15) .skip (.exit 0))) (.seq (.block 1 (.any 2 [⟨0, ⟨[], ⟨(some 18), (.v (.mv (.t 5))), none, []⟩⟩⟩, ⟨1, ⟨[], ⟨(some 19), (.v (.mv (.t 0))), none, []⟩⟩⟩, ⟨2, ⟨[], ⟨(some 20), (.v (.mv (.t 6))), none, []⟩⟩⟩, ⟨3, ⟨[1, 2], ⟨(some 21), (.v (.ia 6 (.t 19) (.t 20))), none, []⟩⟩⟩, ⟨4, ⟨[3, 1, 2], ⟨(some 22), (.v (.fa 0 (.t 21))), none, []⟩⟩⟩, ⟨5, ⟨[4, 3, 1, 2], ⟨(some 23), (.v (.fa 2 (.t 22))), none, []⟩⟩⟩, ⟨6, ⟨[5, 4, 3, 1, 2], ⟨(some 24), (.v (.ld (.t 23))), none, []⟩⟩⟩, ⟨7, ⟨[], ⟨(some 25), (.v (.mv (.t 0))), none, []⟩⟩⟩, ⟨8, ⟨[], ⟨(some 26), (.v (.mv (.t 6))), none, []⟩⟩⟩, ⟨9, ⟨[7, 8], ⟨(some 27), (.v (.ia 6 (.t 25) (.t 26))), none, []⟩⟩⟩, ⟨10, ⟨[9, 7, 8], ⟨(some 28), (.v (.fa 0 (.t 27))), none, []⟩⟩⟩, ⟨11, ⟨[10, 9, 7, 8], ⟨(some 29), (.v (.fa 3 (.t 28))), none, []⟩⟩⟩, ⟨12, ⟨[11, 10, 9, 7, 8], ⟨(some 30), (.v (.ld (.t 29))), none, []⟩⟩⟩, ⟨13, ⟨[6, 5, 4, 3, 1, 2, 12, 11, 10, 9, 7, 8], ⟨(some 31), (.v (.build [(.c (.int .i64 0)), (.c (.int .i64 0))] [⟨0, ⟨1, (.t 24)⟩⟩, ⟨1, ⟨1, (.t 30)⟩⟩])), none, []⟩⟩⟩, ⟨14, ⟨[13, 6, 5, 4, 3, 1, 2, 12, 11, 10, 9, 7, 8], ⟨(some 32), (.v (.bsl 0 34 [(.int .i64), (.int .i64)] [(.t 31)])), none, []⟩⟩⟩, ⟨15, ⟨[0, 14, 13, 6, 5, 4, 3, 1, 2, 12, 11, 10, 9, 7, 8], ⟨(some 33), (.v (.app 1 34 [(.int .i64), (.int .i64)] 8796093022208 (.t 18) (.t 32))), none, []⟩⟩⟩, ⟨16, ⟨[15, 0, 14, 13, 6, 5, 4, 3, 1, 2, 12, 11, 10, 9, 7, 8], ⟨(some 5), (.v (.mv (.t 33))), none, []⟩⟩⟩])) (.ops 0 [⟨(some 16), (.v (.mv (.t 6))), none, []⟩, ⟨(some 17), (.v (.bin .add (.t 16) (.k (.c (.int .i64 1))))), none, []⟩, ⟨(some 6), (.v (.mv (.t 17))), none, []⟩])))))) (.seq (.ops 0 [⟨(some 34), (.v (.mv (.t 5))), none, []⟩, ⟨(some 35), (.v (.det 43 [⟨false, [(.sl [(.int .i64), (.int .i64)])]⟩, ⟨false, [(.int .i64)]⟩] [(.t 34)])), none, []⟩, ⟨(some 36), (.v (.ext (.t 35) 0)), none, []⟩, ⟨(some 37), (.v (.ext (.t 35) 1)), none, []⟩, ⟨(some 2), (.v (.mv (.t 36))), none, []⟩, ⟨(some 3), (.v (.mv (.t 37))), none, []⟩]) .ret))))), 38, [(.t 2), (.t 3)]⟩
theorem h22 : fnR Try.prog DD 22 = some rf22 := by kernel_rfl
/-- papermill papermillref36.Area -/
def rf23 : RFn := ⟨(.seq (.ops 0 [⟨(some 4), (.v (.mv (.k (.c (.int .i64 0))))), none, []⟩, ⟨(some 5), (.v (.mv (.k (.c (.int .i64 0))))), none, []⟩]) (.seq (.ops 0 [⟨(some 11), (.v (.mv (.t 0))), none, []⟩, ⟨(some 12), (.v (.mv (.t 1))), none, []⟩, ⟨(some 13), (.v (.det 19 [⟨false, [(.sl [(.int .i64), (.int .i64), (.int .i64), (.int .i64), (.int .i64), (.int .i64)])]⟩, ⟨false, [(.int .i64)]⟩] [(.t 11), (.t 12), (.k (.c (.int .i64 0)))])), none, []⟩, ⟨(some 10), (.v (.mv (.t 13))), none, []⟩, ⟨(some 14), (.v (.ext (.t 10) 0)), none, []⟩, ⟨(some 15), (.v (.ext (.t 10) 1)), none, []⟩, ⟨(some 6), (.v (.mv (.t 14))), none, []⟩, ⟨(some 7), (.v (.mv (.t 15))), none, []⟩]) (.seq (.seq (.ops 0 [⟨(some 16), (.v (.mv (.t 7))), none, []⟩, ⟨(some 17), (.v (.bin .neq (.t 16) (.k (.c (.int .i64 0))))), none, []⟩]) (.cond (.t 17) (.seq (.ops 0 [⟨(some 18), (.v (.mv (.t 7))), none, []⟩, ⟨(some 4), (.v (.mv (.k (.c (.int .i64 0))))), none, []⟩, ⟨(some 5), (.v (.mv (.t 18))), none, []⟩]) .ret) .skip)) (.seq (.ops 0 [⟨(some 8), (.v (.mv (.k (.c .nil)))), none, []⟩]) (.seq (.seq (.ops 0 [⟨(some 9), (.v (.mv (.k (.c (.int .i64 0))))), none, []⟩]) (.block 0 (.loop (.seq (.seq (.ops 0 [⟨(some 19), (.v (.mv (.t 9))), none, []⟩, ⟨(some 20), (.v (.mv (.t 6))), none, []⟩, ⟨(some 21), (.v (.lenS (.t 20))), none, []⟩, ⟨(some 22), (.v (.bin .lss (.t 19) (.t 21))), none, []⟩]) (.cond (.t 22) .skip (.exit 0))) (.seq (.block 1 (.ops 2 [⟨(some 25), (.v (.mv (.t 8))), none, []⟩, ⟨(some 26), (.v (.mv (.t 6))), none, []⟩, ⟨(some 27), (.v (.mv (.t 9))), none, []⟩, ⟨(some 28), (.v (.ia 6 (.t 26) (.t 27))), none, []⟩, ⟨(some 29), (.v (.fa 0 (.t 28))), none, []⟩, ⟨(some 30), (.v (.lda 4 (.t 29))), none, []⟩, ⟨(some 31), (.v (.bsl 0 36 [(.int .i64), (.int .i64), (.int .i64), (.int .i64)] [(.t 30)])), none, []⟩, ⟨(some 32), (.v (.app 1 36 [(.int .i64), (.int .i64), (.int .i64), (.int .i64)] 4398046511104 (.t 25) (.t 31))), none, []⟩, ⟨(some 8), (.v (.mv (.t 32))), none, []⟩])) (.ops 0 [⟨(some 23), (.v (.mv (.t 9))), none, []⟩, ⟨(some 24), (.v (.bin .add (.t 23) (.k (.c (.int .i64 1))))), none, []⟩, ⟨(some 9), (.v (.mv (.t 24))), none, []⟩])))))) (.seq (.ops 0 [⟨(some 33), (.v (.mv (.t 8))), none, []⟩, ⟨(some 34), (.v (.det 44 [⟨false, [(.int .i64)]⟩, ⟨false, [(.int .i64)]⟩] [(.t 33)])), none, []⟩, ⟨(some 35), (.v (.ext (.t 34) 0)), none, []⟩, ⟨(some 36), (.v (.ext (.t 34) 1)), none, []⟩, ⟨(some 4), (.v (.mv (.t 35))), none, []⟩, ⟨(some 5), (.v (.mv (.t 36))), none, []⟩]) .ret)))))), 37, [(.t 4), (.t 5)]⟩
theorem h23 : fnR Try.prog DD 23 = some rf23 := by kernel_rfl
def vc42 (E : Env) (x1 : Int) (x2 : Int) (x3 : Int) (x4 : Int) (x5 : Int) (x6 : Int) (x7 : Int) (x8 : Int) (Q : List C → Prop) : Prop :=
  Q [.bool (E.bite (E.bite (E.not (E.eq (E.gi (E.cell [[.int .i64 x7]] 0 0)) 0)) (E.not (E.eq x5 (E.gi (E.cell [[.int .i64 x7]] 0 0)))) false) true (E.lt x6 (E.gi (E.cell [[.int .i64 x8]] 0 0))))]
theorem w42 {P : Program} {tbl : FuncId → List A → List C}  {x1 : Int} {x2 : Int} {x3 : Int} {x4 : Int} {x5 : Int} {x6 : Int} {x7 : Int} {x8 : Int} {row : List C} (h : vc42 (stdE P tbl) x1 x2 x3 x4 x5 x6 x7 x8 fun c => c = row) : WPg P tbl rf42 [(false, [.bool])] row [.agg [.c (.int .i64 x1), .c (.int .i64 x2), .c (.int .i64 x3), .c (.int .i64 x4), .c (.int .i64 x5), .c (.int .i64 x6)], .el [.int .i64] [[.int .i64 x7]] 0 0, .el [.int .i64] [[.int .i64 x8]] 0 0] := by
  refine ⟨?_⟩
  revert h
  generalize hE : stdE P tbl = E
  intro h
  unfold vc42 at h
  cbv
  refine ⟨⟨fun hh => hh⟩, ?_⟩
  refine ⟨⟨fun hh => hh⟩, ?_⟩
  refine ⟨⟨fun hh => hh⟩, ?_⟩
  refine ⟨⟨fun hh => hh⟩, ?_⟩
  refine ⟨⟨fun hh => hh⟩, ?_⟩
  refine ⟨⟨fun hh => hh⟩, ?_⟩
  refine ⟨⟨fun hh => hh⟩, ?_⟩
  refine ⟨⟨fun hh => hh⟩, ?_⟩
  have h : _ = row := h
  subst h
  repeat' (first | exact trivial | exact rfl | refine And.intro ?_ ?_)
def vc53 (E : Env) (x1 : List (List C)) (x2 : Int) (x3 : Int) (Q : List C → Prop) : Prop :=
  LoopP1 (fun (i1 : Int) (K2 : (Int) → Prop) =>
  Br (E.lt i1 (E.len x1))
    (((E.le 0 i1) = true) ∧ 
      ((E.pok 42 [(false, [.bool])] [.agg [.c (.int .i64 (E.gi (E.cell x1 i1 0))), .c (.int .i64 (E.gi (E.cell x1 i1 1))), .c (.int .i64 (E.gi (E.cell x1 i1 2))), .c (.int .i64 (E.gi (E.cell x1 i1 3))), .c (.int .i64 (E.gi (E.cell x1 i1 4))), .c (.int .i64 (E.gi (E.cell x1 i1 5)))], .el [.int .i64] [[.int .i64 x2]] 0 0, .el [.int .i64] [[.int .i64 x3]] 0 0]) ∧ (∀ r3 : Nat → C, r3 = E.res 42 [.agg [.c (.int .i64 (E.gi (E.cell x1 i1 0))), .c (.int .i64 (E.gi (E.cell x1 i1 1))), .c (.int .i64 (E.gi (E.cell x1 i1 2))), .c (.int .i64 (E.gi (E.cell x1 i1 3))), .c (.int .i64 (E.gi (E.cell x1 i1 4))), .c (.int .i64 (E.gi (E.cell x1 i1 5)))], .el [.int .i64] [[.int .i64 x2]] 0 0, .el [.int .i64] [[.int .i64 x3]] 0 0] → 
      (Br (E.gb (r3 0))
      (Q [.int .i64 i1])
      (K2 ((E.add .i64 i1 1)))))))
    (Q [.int .i64 (-1)]))
  (0)
theorem w53 {P : Program} {tbl : FuncId → List A → List C}  {x1 : List (List C)} {x2 : Int} {x3 : Int} {row : List C} (h : vc53 (stdE P tbl) x1 x2 x3 fun c => c = row) : WPg P tbl rf53 [(false, [.int .i64])] row [.c (.sl [.int .i64, .int .i64, .int .i64, .int .i64, .int .i64, .int .i64] x1), .fn 42 [.el [.int .i64] [[.int .i64 x2]] 0 0, .el [.int .i64] [[.int .i64 x3]] 0 0]] := by
  refine ⟨?_⟩
  revert h
  generalize hE : stdE P tbl = E
  intro h
  unfold vc53 at h
  cbv
  obtain ⟨I, μ, h0, hI⟩ := h
  refine LoopW.inv (fun R R' s h k => RCode.wp_mono _ R R' s h k) (fun p : Int => (fun (i1 : Int) => (⟨[.c (.sl [.int .i64, .int .i64, .int .i64, .int .i64, .int .i64, .int .i64] x1), .fn 42 [.el [.int .i64] [[.int .i64 x2]] 0 0, .el [.int .i64] [[.int .i64 x3]] 0 0], .u, .u, .u, .u, .u, .c (.int .i64 (E.len x1)), .c (.int .i64 i1), .u, .u, .u, .u, .u, .u, .u, .u, .u, .u], []⟩ : St)) p) (fun p => I p) (fun p => μ p) _ h0 ?_ ?_
  · refine GSt.ren [] rfl rfl rfl (fun i hi => absurd hi (Nat.not_lt_zero i)) (Nat.zero_le _) ?_ ?_
    all_goals (repeat' (first | exact trivial | exact Or.inl rfl | exact Or.inr rfl | refine And.intro ?_ ?_))
  · rintro i1 h
    replace h := hI i1 h
    cbv
    refine ⟨fun hb4 => ?_, fun hb4 => ?_⟩
    · replace h := h.t hb4
      have c5 := h.1
      refine ⟨c5, ?_⟩
      replace h := h.2
      refine ⟨hb4, ?_⟩
      have c6 := h.1
      refine ⟨c6, ?_⟩
      replace h := h.2 _ rfl
      refine ⟨fun hb7 => ?_, fun hb7 => ?_⟩
      · replace h := h.t hb7
        have h : _ = row := h
        subst h
        repeat' (first | exact trivial | exact rfl | refine And.intro ?_ ?_)
      · replace h := h.f hb7
        refine ⟨_, h.1, GSt.ren [] rfl rfl rfl (fun i hi => absurd hi (Nat.not_lt_zero i)) (Nat.zero_le _) ?_ ?_, h.2⟩
        all_goals (repeat' (first | exact trivial | exact Or.inl rfl | exact Or.inr rfl | refine And.intro ?_ ?_))
    · replace h := h.f hb4
      have h : _ = row := h
      subst h
      repeat' (first | exact trivial | exact rfl | refine And.intro ?_ ?_)
def vc41 (E : Env) (x1 : List (List C)) (x2 : Int) (x3 : Int) (Q0 : (List (List C)) → (Int) → Prop) : Prop :=
  (E.pok 53 [(false, [.int .i64])] [.c (.sl [.int .i64, .int .i64, .int .i64, .int .i64, .int .i64, .int .i64] x1), .fn 42 [.el [.int .i64] [[.int .i64 x2]] 0 0, .el [.int .i64] [[.int .i64 x3]] 0 0]]) ∧ (∀ r3 : Nat → C, r3 = E.res 53 [.c (.sl [.int .i64, .int .i64, .int .i64, .int .i64, .int .i64, .int .i64] x1), .fn 42 [.el [.int .i64] [[.int .i64 x2]] 0 0, .el [.int .i64] [[.int .i64 x3]] 0 0]] → 
  (Br (E.eq (E.gi (r3 0)) (-1))
  (Q0 (x1) ((x1.length : Int)))
  (LoopP3 (fun (l4 : List (List C)) (i5 : Int) (i6 : Int) (K7 : (List (List C)) → (Int) → (Int) → Prop) =>
    Br (E.lt i6 (E.len l4))
      (((E.le 0 i6) = true) ∧ 
        ((E.pok 42 [(false, [.bool])] [.agg [.c (.int .i64 (E.gi (E.cell l4 i6 0))), .c (.int .i64 (E.gi (E.cell l4 i6 1))), .c (.int .i64 (E.gi (E.cell l4 i6 2))), .c (.int .i64 (E.gi (E.cell l4 i6 3))), .c (.int .i64 (E.gi (E.cell l4 i6 4))), .c (.int .i64 (E.gi (E.cell l4 i6 5)))], .el [.int .i64] [[.int .i64 x2]] 0 0, .el [.int .i64] [[.int .i64 x3]] 0 0]) ∧ (∀ r8 : Nat → C, r8 = E.res 42 [.agg [.c (.int .i64 (E.gi (E.cell l4 i6 0))), .c (.int .i64 (E.gi (E.cell l4 i6 1))), .c (.int .i64 (E.gi (E.cell l4 i6 2))), .c (.int .i64 (E.gi (E.cell l4 i6 3))), .c (.int .i64 (E.gi (E.cell l4 i6 4))), .c (.int .i64 (E.gi (E.cell l4 i6 5)))], .el [.int .i64] [[.int .i64 x2]] 0 0, .el [.int .i64] [[.int .i64 x3]] 0 0] → 
        (Br (E.not (E.gb (r8 0)))
        (((E.le 0 i5) = true) ∧ ((E.lt i5 (E.len l4)) = true) ∧ 
          (K7 ((E.upd (E.upd (E.upd (E.upd (E.upd (E.upd l4 i5 5 (.int .i64 (E.gi (E.cell l4 i6 5)))) i5 4 (.int .i64 (E.gi (E.cell l4 i6 4)))) i5 3 (.int .i64 (E.gi (E.cell l4 i6 3)))) i5 2 (.int .i64 (E.gi (E.cell l4 i6 2)))) i5 1 (.int .i64 (E.gi (E.cell l4 i6 1)))) i5 0 (.int .i64 (E.gi (E.cell l4 i6 0))))) ((E.add .i64 i5 1)) ((E.add .i64 i6 1))))
        (K7 (l4) (i5) ((E.add .i64 i6 1)))))))
      (((E.le 0 i5) = true) ∧ ((E.le i5 (E.len l4)) = true) ∧ ((E.le (E.len l4) (E.len l4)) = true) ∧ 
        (((E.le 0 0) = true) ∧ ((E.le i5 (E.len (E.cat (E.cut l4 0 i5) (E.cat (E.rep (E.mi (E.len l4) i5) [.int .i64 0, .int .i64 0, .int .i64 0, .int .i64 0, .int .i64 0, .int .i64 0]) (E.cut l4 (E.pl i5 (E.mi (E.len l4) i5)) (E.len l4)))))) = true) ∧ 
        (Q0 ((E.cat (E.cut l4 0 i5) (E.cat (E.rep (E.mi (E.len l4) i5) [.int .i64 0, .int .i64 0, .int .i64 0, .int .i64 0, .int .i64 0, .int .i64 0]) (E.cut l4 (E.pl i5 (E.mi (E.len l4) i5)) (E.len l4))))) ((E.mi i5 0))))))
    (x1) ((E.gi (r3 0))) ((E.add .i64 (E.gi (r3 0)) 1)))))
theorem w41 {P : Program} {tbl : FuncId → List A → List C}  {x1 : List (List C)} {x2 : Int} {x3 : Int} {Q0 : (List (List C)) → (Int) → Prop} (h : vc41 (stdE P tbl) x1 x2 x3 Q0) : WEg P tbl rf41 (fun r H' => (∃ l1 : List (List C), ∃ i2 : Int, Q0 l1 i2 ∧ r = .own 0 0 i2 ∧ H' = [.arr 38 [.int .i64, .int .i64, .int .i64, .int .i64, .int .i64, .int .i64] l1, .box 3 [.c (.int .i64 x2)], .box 3 [.c (.int .i64 x3)]])) [.gr 0, .fn 42 [.ptr 1 0, .ptr 2 0]] [.arr 38 [.int .i64, .int .i64, .int .i64, .int .i64, .int .i64, .int .i64] x1, .box 3 [.c (.int .i64 x2)], .box 3 [.c (.int .i64 x3)]] := by
  refine ⟨?_⟩
  revert h
  generalize hE : stdE P tbl = E
  intro h
  unfold vc41 at h
  cbv
  have c9 := h.1
  refine ⟨c9, ?_⟩
  replace h := h.2 _ rfl
  refine ⟨fun hb10 => ?_, fun hb10 => ?_⟩
  · replace h := h.t hb10
    refine ⟨_, _, GFin.of (GSt.trans (GSt.grOwn 0 rfl rfl) (GSt.ren [0, 1, 2] rfl rfl rfl (by decide) (Nat.le_add_left _ _) ?_ ?_)), ⟨_, _, h, rfl, rfl⟩⟩
    all_goals (repeat' (first | exact trivial | exact Or.inl rfl | exact Or.inr rfl | refine And.intro ?_ ?_))
  · replace h := h.f hb10
    obtain ⟨I, μ, h0, hI⟩ := h
    refine LoopW.inv (fun R R' s h k => RCode.wp_mono _ R R' s h k) (fun p : List (List C) × Int × Int => (fun (l4 : List (List C)) (i5 : Int) (i6 : Int) => (⟨[.gr 0, .fn 42 [.ptr 1 0, .ptr 2 0], .u, .u, .u, .c (.int .i64 i5), .c (.int .i64 i6), .u, .u, .u, .u, .u, .u, .u, .u, .u, .u, .u, .u, .u, .u, .u, .u, .u, .u, .u, .u, .u, .u, .u, .u, .u, .u, .u, .u, .u, .u, .u, .u, .u, .u, .u], [.arr 38 [.int .i64, .int .i64, .int .i64, .int .i64, .int .i64, .int .i64] l4, .box 3 [.c (.int .i64 x2)], .box 3 [.c (.int .i64 x3)]]⟩ : St)) p.1 p.2.1 p.2.2) (fun p => I p.1 p.2.1 p.2.2) (fun p => μ p.1 p.2.1 p.2.2) (_, _, _) h0 ?_ ?_
    · refine GSt.ren [0, 1, 2] rfl rfl rfl (by decide) (Nat.le_add_left _ _) ?_ ?_
      all_goals (repeat' (first | exact trivial | exact Or.inl rfl | exact Or.inr rfl | refine And.intro ?_ ?_))
    · rintro ⟨l4, i5, i6⟩ h
      replace h := hI l4 i5 i6 h
      cbv
      refine ⟨fun hb11 => ?_, fun hb11 => ?_⟩
      · replace h := h.t hb11
        have c12 := h.1
        refine ⟨c12, ?_⟩
        replace h := h.2
        refine ⟨hb11, ?_⟩
        have c13 := h.1
        refine ⟨c13, ?_⟩
        replace h := h.2 _ rfl
        refine ⟨fun hb14 => ?_, fun hb14 => ?_⟩
        · replace h := h.t hb14
          have c15 := h.1
          refine ⟨c15, ?_⟩
          replace h := h.2
          have c16 := h.1
          refine ⟨c16, ?_⟩
          replace h := h.2
          refine ⟨(_, _, _), h.1, GSt.ren [0, 1, 2] rfl rfl rfl (by decide) (Nat.le_add_left _ _) ?_ ?_, h.2⟩
          all_goals (repeat' (first | exact trivial | exact Or.inl rfl | exact Or.inr rfl | refine And.intro ?_ ?_))
        · replace h := h.f hb14
          refine ⟨(_, _, _), h.1, GSt.ren [0, 1, 2] rfl rfl rfl (by decide) (Nat.le_add_left _ _) ?_ ?_, h.2⟩
          all_goals (repeat' (first | exact trivial | exact Or.inl rfl | exact Or.inr rfl | refine And.intro ?_ ?_))
      · replace h := h.f hb11
        have c17 := h.1
        refine ⟨c17, ?_⟩
        replace h := h.2
        have c18 := h.1
        refine ⟨c18, ?_⟩
        replace h := h.2
        have c19 := h.1
        refine ⟨c19, ?_⟩
        replace h := h.2
        have c20 := h.1
        refine ⟨c20, ?_⟩
        replace h := h.2
        refine ⟨c17, ?_⟩
        have c21 := h.1
        refine ⟨c21, ?_⟩
        replace h := h.2
        refine ⟨_, _, GFin.of (GSt.ren [0, 1, 2] rfl rfl rfl (by decide) (Nat.le_add_left _ _) ?_ ?_), ⟨_, _, h, rfl, rfl⟩⟩
        all_goals (repeat' (first | exact trivial | exact Or.inl rfl | exact Or.inr rfl | refine And.intro ?_ ?_))
def vc18 (E : Env) (x1 : List (List C)) (x2 : Int) (x3 : Int) (Q : List C → Prop) : Prop :=
  (E.pok 13 [(false, [.int .i64])] [.c (.sl [.int .i64, .int .i64, .int .i64, .int .i64, .int .i64, .int .i64] x1)]) ∧ (∀ r4 : Nat → C, r4 = E.res 13 [.c (.sl [.int .i64, .int .i64, .int .i64, .int .i64, .int .i64, .int .i64] x1)] → 
  (Br (E.not (E.eq (E.gi (r4 0)) 0))
  (Q [.sl [.int .i64, .int .i64, .int .i64, .int .i64, .int .i64, .int .i64] [], .int .i64 (E.gi (r4 0))])
  (spClone (x1) (
    spDelFunc (x1) (x2) (x3) (fun (l5 : List (List C)) (i6 : Int) => 
      Q [.sl [.int .i64, .int .i64, .int .i64, .int .i64, .int .i64, .int .i64] (E.cut l5 0 (E.pl 0 i6)), .int .i64 0])))))
theorem w18 {P : Program} {tbl : FuncId → List A → List C} (ce31 : CloneC 38 [.int .i64, .int .i64, .int .i64, .int .i64, .int .i64, .int .i64] P 31) (ce41 : DelFuncC 38 42 P 41) {x1 : List (List C)} {x2 : Int} {x3 : Int} {row : List C} (h : vc18 (stdE P tbl) x1 x2 x3 fun c => c = row) : WPg P tbl rf18 [(false, [.sl [.int .i64, .int .i64, .int .i64, .int .i64, .int .i64, .int .i64]]), (false, [.int .i64])] row [.c (.sl [.int .i64, .int .i64, .int .i64, .int .i64, .int .i64, .int .i64] x1), .c (.int .i64 x2), .c (.int .i64 x3)] := by
  refine ⟨?_⟩
  revert h
  generalize hE : stdE P tbl = E
  intro h
  unfold vc18 at h
  cbv
  have c7 := h.1
  refine ⟨c7, ?_⟩
  replace h := h.2 _ rfl
  refine ⟨fun hb8 => ?_, fun hb8 => ?_⟩
  · replace h := h.t hb8
    have h : _ = row := h
    subst h
    repeat' (first | exact trivial | exact rfl | refine And.intro ?_ ?_)
  · replace h := h.f hb8
    refine HCall.mk ce31.1 ((ACalls.frame (ce31.2 _ _ h) (H := _) (tgt := []) rfl (by decide) ?_).mono fun r H' hq => ?_)
    · intro i o ho
      cases ho
    obtain ⟨r1, H1', ⟨h, rfl, rfl⟩, _, rfl, rfl⟩ := hq
    cbv
    refine HCall.mk ce41.1 ((ACalls.frame (ce41.2 _ _ _ _ h) (H := _) (tgt := [2, 0, 1]) rfl (by decide) ?_).mono fun r H' hq => ?_)
    · intro i o ho
      match i, ho with
      | 0, ho => cases ho; rfl
      | 1, ho => cases ho; rfl
      | 2, ho => cases ho; rfl
    obtain ⟨r1, H1', ⟨l5, i6, h, rfl, rfl⟩, _, rfl, rfl⟩ := hq
    cbv
    have h : _ = row := h
    subst h
    repeat' (first | exact trivial | exact rfl | refine And.intro ?_ ?_)
def vc19 (E : Env) (x1 : List (List C)) (x2 : Int) (x3 : Int) (Q : List C → Prop) : Prop :=
  (E.pok 14 [(false, [.int .i64])] [.c (.sl [.int .i64, .int .i64, .int .i64, .int .i64, .int .i64, .int .i64] x1)]) ∧ (∀ r4 : Nat → C, r4 = E.res 14 [.c (.sl [.int .i64, .int .i64, .int .i64, .int .i64, .int .i64, .int .i64] x1)] → 
  (Br (E.not (E.eq (E.gi (r4 0)) 0))
  (Q [.sl [.int .i64, .int .i64, .int .i64, .int .i64, .int .i64, .int .i64] [], .int .i64 (E.gi (r4 0))])
  (LoopP2 (fun (l5 : List (List C)) (i6 : Int) (K7 : (List (List C)) → (Int) → Prop) =>
    Br (E.lt i6 (E.len x1))
      ((Imp (E.not (E.eq x2 0)) ((E.le 0 i6) = true)) ∧ 
        ((Imp (E.bite (E.eq x2 0) true (E.eq (E.gi (E.cell x1 i6 4)) x2)) ((E.le 0 i6) = true)) ∧ 
        (Br (E.bite (E.bite (E.eq x2 0) true (E.eq (E.gi (E.cell x1 i6 4)) x2)) (E.le x3 (E.gi (E.cell x1 i6 5))) false)
        (((E.le 0 i6) = true) ∧ 
          (((E.le (E.pl (E.len l5) (E.len [[.int .i64 (E.gi (E.cell x1 i6 0)), .int .i64 (E.gi (E.cell x1 i6 1)), .int .i64 (E.gi (E.cell x1 i6 2)), .int .i64 (E.gi (E.cell x1 i6 3)), .int .i64 (E.gi (E.cell x1 i6 4)), .int .i64 (E.gi (E.cell x1 i6 5))]])) 2932031007402) = true) ∧ 
          (K7 ((E.cat l5 [[.int .i64 (E.gi (E.cell x1 i6 0)), .int .i64 (E.gi (E.cell x1 i6 1)), .int .i64 (E.gi (E.cell x1 i6 2)), .int .i64 (E.gi (E.cell x1 i6 3)), .int .i64 (E.gi (E.cell x1 i6 4)), .int .i64 (E.gi (E.cell x1 i6 5))]])) ((E.add .i64 i6 1)))))
        (K7 (l5) ((E.add .i64 i6 1))))))
      (Q [.sl [.int .i64, .int .i64, .int .i64, .int .i64, .int .i64, .int .i64] l5, .int .i64 0]))
    ([]) (0))))
theorem w19 {P : Program} {tbl : FuncId → List A → List C}  {x1 : List (List C)} {x2 : Int} {x3 : Int} {row : List C} (h : vc19 (stdE P tbl) x1 x2 x3 fun c => c = row) : WPg P tbl rf19 [(false, [.sl [.int .i64, .int .i64, .int .i64, .int .i64, .int .i64, .int .i64]]), (false, [.int .i64])] row [.c (.sl [.int .i64, .int .i64, .int .i64, .int .i64, .int .i64, .int .i64] x1), .c (.int .i64 x2), .c (.int .i64 x3)] := by
  refine ⟨?_⟩
  revert h
  generalize hE : stdE P tbl = E
  intro h
  unfold vc19 at h
  cbv
  have c8 := h.1
  refine ⟨c8, ?_⟩
  replace h := h.2 _ rfl
  refine ⟨fun hb9 => ?_, fun hb9 => ?_⟩
  · replace h := h.t hb9
    have h : _ = row := h
    subst h
    repeat' (first | exact trivial | exact rfl | refine And.intro ?_ ?_)
  · replace h := h.f hb9
    obtain ⟨I, μ, h0, hI⟩ := h
    refine LoopW.inv (fun R R' s h k => RCode.wp_mono _ R R' s h k) (fun p : List (List C) × Int => (fun (l5 : List (List C)) (i6 : Int) => (⟨[.c (.sl [.int .i64, .int .i64, .int .i64, .int .i64, .int .i64, .int .i64] x1), .c (.int .i64 x2), .c (.int .i64 x3), .u, .u, .u, .u, .u, .u, .gr 0, .c (.int .i64 i6), .u, .u, .u, .u, .u, .u, .u, .u, .u, .u, .u, .u, .u, .u, .u, .u, .u, .u, .u, .u, .u, .u, .u, .u, .u, .u, .u, .u, .u, .u, .u, .u, .u, .u, .u, .u, .u, .u, .u], [.arr 38 [.int .i64, .int .i64, .int .i64, .int .i64, .int .i64, .int .i64] l5]⟩ : St)) p.1 p.2) (fun p => I p.1 p.2) (fun p => μ p.1 p.2) (_, _) h0 ?_ ?_
    · refine GSt.trans (GSt.nil 9 38 [.int .i64, .int .i64, .int .i64, .int .i64, .int .i64, .int .i64] rfl) (GSt.ren [0] rfl rfl rfl (fun i hi => absurd hi (Nat.not_lt_zero i)) (Nat.zero_le _) ?_ ?_)
      all_goals (repeat' (first | exact trivial | exact Or.inl rfl | exact Or.inr rfl | refine And.intro ?_ ?_))
    · rintro ⟨l5, i6⟩ h
      replace h := hI l5 i6 h
      cbv
      refine ⟨fun hb10 => ?_, fun hb10 => ?_⟩
      · replace h := h.t hb10
        refine ⟨⟨fun hh => hh⟩, ?_⟩
        refine ⟨⟨fun hh => hh⟩, ?_⟩
        have c11 := h.1
        refine ⟨c11, ?_⟩
        replace h := h.2
        refine ⟨⟨fun _ => hb10⟩, ?_⟩
        refine ⟨⟨fun hh => hh⟩, ?_⟩
        refine ⟨⟨fun hh => hh⟩, ?_⟩
        refine ⟨⟨fun hh => hh⟩, ?_⟩
        refine ⟨⟨fun hh => hh⟩, ?_⟩
        refine ⟨⟨fun hh => hh⟩, ?_⟩
        refine ⟨⟨fun hh => hh⟩, ?_⟩
        refine ⟨⟨fun hh => hh⟩, ?_⟩
        have c12 := h.1
        refine ⟨c12, ?_⟩
        replace h := h.2
        refine ⟨⟨fun _ => hb10⟩, ?_⟩
        refine ⟨⟨fun hh => hh⟩, ?_⟩
        refine ⟨⟨fun hh => hh⟩, ?_⟩
        refine ⟨⟨fun hh => hh⟩, ?_⟩
        refine ⟨⟨fun hh => hh⟩, ?_⟩
        refine ⟨⟨fun hh => hh⟩, ?_⟩
        refine ⟨fun hb13 => ?_, fun hb13 => ?_⟩
        · replace h := h.t hb13
          have c14 := h.1
          refine ⟨c14, ?_⟩
          replace h := h.2
          refine ⟨hb10, ?_⟩
          have c15 := h.1
          refine ⟨c15, ?_⟩
          replace h := h.2
          refine ⟨(_, _), h.1, GSt.ren [2] rfl rfl rfl (fun i hi => absurd hi (Nat.not_lt_zero i)) (Nat.zero_le _) ?_ ?_, h.2⟩
          all_goals (repeat' (first | exact trivial | exact Or.inl rfl | exact Or.inr rfl | refine And.intro ?_ ?_))
        · replace h := h.f hb13
          refine ⟨(_, _), h.1, GSt.ren [0] rfl rfl rfl (fun i hi => absurd hi (Nat.not_lt_zero i)) (Nat.zero_le _) ?_ ?_, h.2⟩
          all_goals (repeat' (first | exact trivial | exact Or.inl rfl | exact Or.inr rfl | refine And.intro ?_ ?_))
      · replace h := h.f hb10
        have h : _ = row := h
        subst h
        repeat' (first | exact trivial | exact rfl | refine And.intro ?_ ?_)
def vc16 (E : Env) (x1 : List (List C)) (Q : List C → Prop) : Prop :=
  (E.pok 13 [(false, [.int .i64])] [.c (.sl [.int .i64, .int .i64, .int .i64, .int .i64, .int .i64, .int .i64] x1)]) ∧ (∀ r2 : Nat → C, r2 = E.res 13 [.c (.sl [.int .i64, .int .i64, .int .i64, .int .i64, .int .i64, .int .i64] x1)] → 
  (Br (E.not (E.eq (E.gi (r2 0)) 0))
  (Q [.sl [.int .i64, .int .i64] [], .int .i64 (E.gi (r2 0))])
  (LoopP2 (fun (l3 : List (List C)) (i4 : Int) (K5 : (List (List C)) → (Int) → Prop) =>
    Br (E.lt i4 (E.len x1))
      (((E.le 0 i4) = true) ∧ 
        (((E.le (E.pl (E.len l3) (E.len [[.int .i64 (E.gi (E.cell x1 i4 2)), .int .i64 (E.gi (E.cell x1 i4 3))]])) 8796093022208) = true) ∧ 
        (K5 ((E.cat l3 [[.int .i64 (E.gi (E.cell x1 i4 2)), .int .i64 (E.gi (E.cell x1 i4 3))]])) ((E.add .i64 i4 1)))))
      ((E.pok 39 [(false, [.sl [.int .i64, .int .i64]]), (false, [.int .i64])] [.c (.sl [.int .i64, .int .i64] l3)]) ∧ (∀ r6 : Nat → C, r6 = E.res 39 [.c (.sl [.int .i64, .int .i64] l3)] → 
        (Q [.sl [.int .i64, .int .i64] (E.gl (r6 0)), .int .i64 (E.gi (r6 1))]))))
    ([]) (0))))
theorem w16 {P : Program} {tbl : FuncId → List A → List C}  {x1 : List (List C)} {row : List C} (h : vc16 (stdE P tbl) x1 fun c => c = row) : WPg P tbl rf16 [(false, [.sl [.int .i64, .int .i64]]), (false, [.int .i64])] row [.c (.sl [.int .i64, .int .i64, .int .i64, .int .i64, .int .i64, .int .i64] x1)] := by
  refine ⟨?_⟩
  revert h
  generalize hE : stdE P tbl = E
  intro h
  unfold vc16 at h
  cbv
  have c7 := h.1
  refine ⟨c7, ?_⟩
  replace h := h.2 _ rfl
  refine ⟨fun hb8 => ?_, fun hb8 => ?_⟩
  · replace h := h.t hb8
    have h : _ = row := h
    subst h
    repeat' (first | exact trivial | exact rfl | refine And.intro ?_ ?_)
  · replace h := h.f hb8
    obtain ⟨I, μ, h0, hI⟩ := h
    refine LoopW.inv (fun R R' s h k => RCode.wp_mono _ R R' s h k) (fun p : List (List C) × Int => (fun (l3 : List (List C)) (i4 : Int) => (⟨[.u, .u, .u, .u, .u, .gr 0, .u, .u, .u, .u, .u, .u, .u, .c (.sl [.int .i64, .int .i64, .int .i64, .int .i64, .int .i64, .int .i64] x1), .c (.int .i64 (E.len x1)), .c (.int .i64 i4), .u, .u, .u, .u, .u, .u, .u, .u, .u, .u, .u, .u, .u, .u, .u, .u, .u, .u], [.arr 34 [.int .i64, .int .i64] l3]⟩ : St)) p.1 p.2) (fun p => I p.1 p.2) (fun p => μ p.1 p.2) (_, _) h0 ?_ ?_
    · refine GSt.trans (GSt.nil 5 34 [.int .i64, .int .i64] rfl) (GSt.ren [0] rfl rfl rfl (fun i hi => absurd hi (Nat.not_lt_zero i)) (Nat.zero_le _) ?_ ?_)
      all_goals (repeat' (first | exact trivial | exact Or.inl rfl | exact Or.inr rfl | refine And.intro ?_ ?_))
    · rintro ⟨l3, i4⟩ h
      replace h := hI l3 i4 h
      cbv
      refine ⟨fun hb9 => ?_, fun hb9 => ?_⟩
      · replace h := h.t hb9
        have c10 := h.1
        refine ⟨c10, ?_⟩
        replace h := h.2
        refine ⟨hb9, ?_⟩
        have c11 := h.1
        refine ⟨c11, ?_⟩
        replace h := h.2
        refine ⟨(_, _), h.1, GSt.ren [3] rfl rfl rfl (fun i hi => absurd hi (Nat.not_lt_zero i)) (Nat.zero_le _) ?_ ?_, h.2⟩
        all_goals (repeat' (first | exact trivial | exact Or.inl rfl | exact Or.inr rfl | refine And.intro ?_ ?_))
      · replace h := h.f hb9
        have c12 := h.1
        refine ⟨c12, ?_⟩
        replace h := h.2 _ rfl
        have h : _ = row := h
        subst h
        repeat' (first | exact trivial | exact rfl | refine And.intro ?_ ?_)
def vc22 (E : Env) (x1 : List (List C)) (Q : List C → Prop) : Prop :=
  (E.pok 14 [(false, [.int .i64])] [.c (.sl [.int .i64, .int .i64, .int .i64, .int .i64, .int .i64, .int .i64] x1)]) ∧ (∀ r2 : Nat → C, r2 = E.res 14 [.c (.sl [.int .i64, .int .i64, .int .i64, .int .i64, .int .i64, .int .i64] x1)] → 
  (Br (E.not (E.eq (E.gi (r2 0)) 0))
  (Q [.sl [.int .i64, .int .i64] [], .int .i64 (E.gi (r2 0))])
  (LoopP2 (fun (l3 : List (List C)) (i4 : Int) (K5 : (List (List C)) → (Int) → Prop) =>
    Br (E.lt i4 (E.len x1))
      (((E.le 0 i4) = true) ∧ 
        (((E.le (E.pl (E.len l3) (E.len [[.int .i64 (E.gi (E.cell x1 i4 2)), .int .i64 (E.gi (E.cell x1 i4 3))]])) 8796093022208) = true) ∧ 
        (K5 ((E.cat l3 [[.int .i64 (E.gi (E.cell x1 i4 2)), .int .i64 (E.gi (E.cell x1 i4 3))]])) ((E.add .i64 i4 1)))))
      ((E.pok 43 [(false, [.sl [.int .i64, .int .i64]]), (false, [.int .i64])] [.c (.sl [.int .i64, .int .i64] l3)]) ∧ (∀ r6 : Nat → C, r6 = E.res 43 [.c (.sl [.int .i64, .int .i64] l3)] → 
        (Q [.sl [.int .i64, .int .i64] (E.gl (r6 0)), .int .i64 (E.gi (r6 1))]))))
    ([]) (0))))
theorem w22 {P : Program} {tbl : FuncId → List A → List C}  {x1 : List (List C)} {row : List C} (h : vc22 (stdE P tbl) x1 fun c => c = row) : WPg P tbl rf22 [(false, [.sl [.int .i64, .int .i64]]), (false, [.int .i64])] row [.c (.sl [.int .i64, .int .i64, .int .i64, .int .i64, .int .i64, .int .i64] x1)] := by
  refine ⟨?_⟩
  revert h
  generalize hE : stdE P tbl = E
  intro h
  unfold vc22 at h
  cbv
  have c7 := h.1
  refine ⟨c7, ?_⟩
  replace h := h.2 _ rfl
  refine ⟨fun hb8 => ?_, fun hb8 => ?_⟩
  · replace h := h.t hb8
    have h : _ = row := h
    subst h
    repeat' (first | exact trivial | exact rfl | refine And.intro ?_ ?_)
  · replace h := h.f hb8
    obtain ⟨I, μ, h0, hI⟩ := h
    refine LoopW.inv (fun R R' s h k => RCode.wp_mono _ R R' s h k) (fun p : List (List C) × Int => (fun (l3 : List (List C)) (i4 : Int) => (⟨[.c (.sl [.int .i64, .int .i64, .int .i64, .int .i64, .int .i64, .int .i64] x1), .u, .u, .u, .u, .gr 0, .c (.int .i64 i4), .u, .u, .u, .u, .u, .u, .u, .u, .u, .u, .u, .u, .u, .u, .u, .u, .u, .u, .u, .u, .u, .u, .u, .u, .u, .u, .u, .u, .u, .u, .u], [.arr 34 [.int .i64, .int .i64] l3]⟩ : St)) p.1 p.2) (fun p => I p.1 p.2) (fun p => μ p.1 p.2) (_, _) h0 ?_ ?_
    · refine GSt.trans (GSt.nil 5 34 [.int .i64, .int .i64] rfl) (GSt.ren [0] rfl rfl rfl (fun i hi => absurd hi (Nat.not_lt_zero i)) (Nat.zero_le _) ?_ ?_)
      all_goals (repeat' (first | exact trivial | exact Or.inl rfl | exact Or.inr rfl | refine And.intro ?_ ?_))
    · rintro ⟨l3, i4⟩ h
      replace h := hI l3 i4 h
      cbv
      refine ⟨fun hb9 => ?_, fun hb9 => ?_⟩
      · replace h := h.t hb9
        have c10 := h.1
        refine ⟨c10, ?_⟩
        replace h := h.2
        refine ⟨hb9, ?_⟩
        refine ⟨c10, ?_⟩
        refine ⟨hb9, ?_⟩
        have c11 := h.1
        refine ⟨c11, ?_⟩
        replace h := h.2
        refine ⟨(_, _), h.1, GSt.ren [2] rfl rfl rfl (fun i hi => absurd hi (Nat.not_lt_zero i)) (Nat.zero_le _) ?_ ?_, h.2⟩
        all_goals (repeat' (first | exact trivial | exact Or.inl rfl | exact Or.inr rfl | refine And.intro ?_ ?_))
      · replace h := h.f hb9
        have c12 := h.1
        refine ⟨c12, ?_⟩
        replace h := h.2 _ rfl
        have h : _ = row := h
        subst h
        repeat' (first | exact trivial | exact rfl | refine And.intro ?_ ?_)
def vc17 (E : Env) (x1 : List (List C)) (x2 : Int) (Q : List C → Prop) : Prop :=
  (E.pok 13 [(false, [.int .i64])] [.c (.sl [.int .i64, .int .i64, .int .i64, .int .i64, .int .i64, .int .i64] x1)]) ∧ (∀ r3 : Nat → C, r3 = E.res 13 [.c (.sl [.int .i64, .int .i64, .int .i64, .int .i64, .int .i64, .int .i64] x1)] → 
  (Br (E.not (E.eq (E.gi (r3 0)) 0))
  (Q [.int .i64 0, .int .i64 (E.gi (r3 0))])
  (LoopP2 (fun (l4 : List (List C)) (i5 : Int) (K6 : (List (List C)) → (Int) → Prop) =>
    Br (E.lt i5 (E.len x1))
      (((E.le 0 i5) = true) ∧ 
        (Br (E.bite (E.eq x2 0) true (E.eq (E.gi (E.cell x1 i5 4)) x2))
        (((E.le (E.pl (E.len l4) (E.len [[.int .i64 (E.gi (E.cell x1 i5 0)), .int .i64 (E.gi (E.cell x1 i5 1)), .int .i64 (E.gi (E.cell x1 i5 2)), .int .i64 (E.gi (E.cell x1 i5 3))]])) 4398046511104) = true) ∧ 
          (K6 ((E.cat l4 [[.int .i64 (E.gi (E.cell x1 i5 0)), .int .i64 (E.gi (E.cell x1 i5 1)), .int .i64 (E.gi (E.cell x1 i5 2)), .int .i64 (E.gi (E.cell x1 i5 3))]])) ((E.add .i64 i5 1))))
        (K6 (l4) ((E.add .i64 i5 1)))))
      ((E.pok 40 [(false, [.int .i64]), (false, [.int .i64])] [.c (.sl [.int .i64, .int .i64, .int .i64, .int .i64] l4)]) ∧ (∀ r7 : Nat → C, r7 = E.res 40 [.c (.sl [.int .i64, .int .i64, .int .i64, .int .i64] l4)] → 
        (Q [.int .i64 (E.gi (r7 0)), .int .i64 (E.gi (r7 1))]))))
    ([]) (0))))
theorem w17 {P : Program} {tbl : FuncId → List A → List C}  {x1 : List (List C)} {x2 : Int} {row : List C} (h : vc17 (stdE P tbl) x1 x2 fun c => c = row) : WPg P tbl rf17 [(false, [.int .i64]), (false, [.int .i64])] row [.c (.sl [.int .i64, .int .i64, .int .i64, .int .i64, .int .i64, .int .i64] x1), .c (.int .i64 x2)] := by
  refine ⟨?_⟩
  revert h
  generalize hE : stdE P tbl = E
  intro h
  unfold vc17 at h
  cbv
  have c8 := h.1
  refine ⟨c8, ?_⟩
  replace h := h.2 _ rfl
  refine ⟨fun hb9 => ?_, fun hb9 => ?_⟩
  · replace h := h.t hb9
    have h : _ = row := h
    subst h
    repeat' (first | exact trivial | exact rfl | refine And.intro ?_ ?_)
  · replace h := h.f hb9
    obtain ⟨I, μ, h0, hI⟩ := h
    refine LoopW.inv (fun R R' s h k => RCode.wp_mono _ R R' s h k) (fun p : List (List C) × Int => (fun (l4 : List (List C)) (i5 : Int) => (⟨[.u, .c (.int .i64 x2), .u, .u, .u, .u, .u, .gr 0, .u, .u, .u, .u, .u, .u, .u, .c (.sl [.int .i64, .int .i64, .int .i64, .int .i64, .int .i64, .int .i64] x1), .c (.int .i64 (E.len x1)), .c (.int .i64 i5), .u, .u, .u, .u, .u, .u, .u, .u, .u, .u, .u, .u, .u, .u, .u, .u, .u, .u, .u, .u, .u], [.arr 36 [.int .i64, .int .i64, .int .i64, .int .i64] l4]⟩ : St)) p.1 p.2) (fun p => I p.1 p.2) (fun p => μ p.1 p.2) (_, _) h0 ?_ ?_
    · refine GSt.trans (GSt.nil 7 36 [.int .i64, .int .i64, .int .i64, .int .i64] rfl) (GSt.ren [0] rfl rfl rfl (fun i hi => absurd hi (Nat.not_lt_zero i)) (Nat.zero_le _) ?_ ?_)
      all_goals (repeat' (first | exact trivial | exact Or.inl rfl | exact Or.inr rfl | refine And.intro ?_ ?_))
    · rintro ⟨l4, i5⟩ h
      replace h := hI l4 i5 h
      cbv
      refine ⟨fun hb10 => ?_, fun hb10 => ?_⟩
      · replace h := h.t hb10
        have c11 := h.1
        refine ⟨c11, ?_⟩
        replace h := h.2
        refine ⟨hb10, ?_⟩
        refine ⟨⟨fun hh => hh⟩, ?_⟩
        refine ⟨⟨fun hh => hh⟩, ?_⟩
        refine ⟨⟨fun hh => hh⟩, ?_⟩
        refine ⟨⟨fun hh => hh⟩, ?_⟩
        refine ⟨fun hb12 => ?_, fun hb12 => ?_⟩
        · replace h := h.t hb12
          have c13 := h.1
          refine ⟨c13, ?_⟩
          replace h := h.2
          refine ⟨(_, _), h.1, GSt.ren [3] rfl rfl rfl (fun i hi => absurd hi (Nat.not_lt_zero i)) (Nat.zero_le _) ?_ ?_, h.2⟩
          all_goals (repeat' (first | exact trivial | exact Or.inl rfl | exact Or.inr rfl | refine And.intro ?_ ?_))
        · replace h := h.f hb12
          refine ⟨(_, _), h.1, GSt.ren [0] rfl rfl rfl (fun i hi => absurd hi (Nat.not_lt_zero i)) (Nat.zero_le _) ?_ ?_, h.2⟩
          all_goals (repeat' (first | exact trivial | exact Or.inl rfl | exact Or.inr rfl | refine And.intro ?_ ?_))
      · replace h := h.f hb10
        have c14 := h.1
        refine ⟨c14, ?_⟩
        replace h := h.2 _ rfl
        have h : _ = row := h
        subst h
        repeat' (first | exact trivial | exact rfl | refine And.intro ?_ ?_)
def vc23 (E : Env) (x1 : List (List C)) (x2 : Int) (Q : List C → Prop) : Prop :=
  (E.pok 19 [(false, [.sl [.int .i64, .int .i64, .int .i64, .int .i64, .int .i64, .int .i64]]), (false, [.int .i64])] [.c (.sl [.int .i64, .int .i64, .int .i64, .int .i64, .int .i64, .int .i64] x1), .c (.int .i64 x2), .c (.int .i64 0)]) ∧ (∀ r3 : Nat → C, r3 = E.res 19 [.c (.sl [.int .i64, .int .i64, .int .i64, .int .i64, .int .i64, .int .i64] x1), .c (.int .i64 x2), .c (.int .i64 0)] → 
  (Br (E.not (E.eq (E.gi (r3 1)) 0))
  (Q [.int .i64 0, .int .i64 (E.gi (r3 1))])
  (LoopP2 (fun (l4 : List (List C)) (i5 : Int) (K6 : (List (List C)) → (Int) → Prop) =>
    Br (E.lt i5 (E.len (E.gl (r3 0))))
      (((E.le 0 i5) = true) ∧ 
        (((E.le (E.pl (E.len l4) (E.len [[.int .i64 (E.gi (E.cell (E.gl (r3 0)) i5 0)), .int .i64 (E.gi (E.cell (E.gl (r3 0)) i5 1)), .int .i64 (E.gi (E.cell (E.gl (r3 0)) i5 2)), .int .i64 (E.gi (E.cell (E.gl (r3 0)) i5 3))]])) 4398046511104) = true) ∧ 
        (K6 ((E.cat l4 [[.int .i64 (E.gi (E.cell (E.gl (r3 0)) i5 0)), .int .i64 (E.gi (E.cell (E.gl (r3 0)) i5 1)), .int .i64 (E.gi (E.cell (E.gl (r3 0)) i5 2)), .int .i64 (E.gi (E.cell (E.gl (r3 0)) i5 3))]])) ((E.add .i64 i5 1)))))
      ((E.pok 44 [(false, [.int .i64]), (false, [.int .i64])] [.c (.sl [.int .i64, .int .i64, .int .i64, .int .i64] l4)]) ∧ (∀ r7 : Nat → C, r7 = E.res 44 [.c (.sl [.int .i64, .int .i64, .int .i64, .int .i64] l4)] → 
        (Q [.int .i64 (E.gi (r7 0)), .int .i64 (E.gi (r7 1))]))))
    ([]) (0))))
theorem w23 {P : Program} {tbl : FuncId → List A → List C}  {x1 : List (List C)} {x2 : Int} {row : List C} (h : vc23 (stdE P tbl) x1 x2 fun c => c = row) : WPg P tbl rf23 [(false, [.int .i64]), (false, [.int .i64])] row [.c (.sl [.int .i64, .int .i64, .int .i64, .int .i64, .int .i64, .int .i64] x1), .c (.int .i64 x2)] := by
  refine ⟨?_⟩
  revert h
  generalize hE : stdE P tbl = E
  intro h
  unfold vc23 at h
  cbv
  have c8 := h.1
  refine ⟨c8, ?_⟩
  replace h := h.2 _ rfl
  refine ⟨fun hb9 => ?_, fun hb9 => ?_⟩
  · replace h := h.t hb9
    have h : _ = row := h
    subst h
    repeat' (first | exact trivial | exact rfl | refine And.intro ?_ ?_)
  · replace h := h.f hb9
    obtain ⟨I, μ, h0, hI⟩ := h
    refine LoopW.inv (fun R R' s h k => RCode.wp_mono _ R R' s h k) (fun p : List (List C) × Int => (fun (l4 : List (List C)) (i5 : Int) => (⟨[.u, .u, .u, .u, .u, .u, .c (.sl [.int .i64, .int .i64, .int .i64, .int .i64, .int .i64, .int .i64] (E.gl ((E.res 19 [.c (.sl [.int .i64, .int .i64, .int .i64, .int .i64, .int .i64, .int .i64] x1), .c (.int .i64 x2), .c (.int .i64 0)]) 0))), .u, .gr 0, .c (.int .i64 i5), .u, .u, .u, .u, .u, .u, .u, .u, .u, .u, .u, .u, .u, .u, .u, .u, .u, .u, .u, .u, .u, .u, .u, .u, .u, .u, .u], [.arr 36 [.int .i64, .int .i64, .int .i64, .int .i64] l4]⟩ : St)) p.1 p.2) (fun p => I p.1 p.2) (fun p => μ p.1 p.2) (_, _) h0 ?_ ?_
    · refine GSt.trans (GSt.nil 8 36 [.int .i64, .int .i64, .int .i64, .int .i64] rfl) (GSt.ren [0] rfl rfl rfl (fun i hi => absurd hi (Nat.not_lt_zero i)) (Nat.zero_le _) ?_ ?_)
      all_goals (repeat' (first | exact trivial | exact Or.inl rfl | exact Or.inr rfl | refine And.intro ?_ ?_))
    · rintro ⟨l4, i5⟩ h
      replace h := hI l4 i5 h
      cbv
      refine ⟨fun hb10 => ?_, fun hb10 => ?_⟩
      · replace h := h.t hb10
        have c11 := h.1
        refine ⟨c11, ?_⟩
        replace h := h.2
        refine ⟨hb10, ?_⟩
        have c12 := h.1
        refine ⟨c12, ?_⟩
        replace h := h.2
        refine ⟨(_, _), h.1, GSt.ren [2] rfl rfl rfl (fun i hi => absurd hi (Nat.not_lt_zero i)) (Nat.zero_le _) ?_ ?_, h.2⟩
        all_goals (repeat' (first | exact trivial | exact Or.inl rfl | exact Or.inr rfl | refine And.intro ?_ ?_))
      · replace h := h.f hb10
        have c13 := h.1
        refine ⟨c13, ?_⟩
        replace h := h.2 _ rfl
        have h : _ = row := h
        subst h
        repeat' (first | exact trivial | exact rfl | refine And.intro ?_ ?_)
end Go.Proofs.Ytkdapoipnkpbeaa.V
