/- Grades: the walks of the routes' functions. No conditions. -/
import Derived.Test.YtljnpioekbdcaaaGC
import Derived.Test.YtljnpioekbdcaaaChk
import Derived.Test.YtljnpioekbdcaaaE4
set_option linter.unusedVariables false
set_option linter.unusedSimpArgs false
namespace Go.Proofs.Ytljnpioekbdcaaa.V
open Go Go.Eng
set_option maxRecDepth 1000000
set_option maxHeartbeats 2000000
/-- The difference of two grades' basis weights. -/
def bas (g : List (List C)) (k : Int) : Int := (cellAt g k.toNat 1).gi
def stp (g : List (List C)) (a b : Int) : Int := if bas g a < bas g b then bas g b - bas g a else bas g a - bas g b
def lenL (g : List (List C)) : List Int → Int
  | [] => 0
  | [_] => 0
  | a :: b :: r => stp g a b + lenL g (b :: r)
/-- The best order that begins with some: the shortest, of several the first. -/
def best (g : List (List C)) : Nat → List Int → List Int → List Int
  | 0, b, _ => b
  | n + 1, b, left => if left = [] then b else (List.range left.length).foldl (fun out i => if out = [] ∨ lenL g (best g n (b ++ [left.getD i 0]) (left.eraseIdx i)) < lenL g out then best g n (b ++ [left.getD i 0]) (left.eraseIdx i) else out) []
def okG (g : List (List C)) : Prop := ∀ k : Nat, k < g.length → 1 ≤ (cellAt g k 1).gi ∧ (cellAt g k 1).gi ≤ 1000000
def inG (g : List (List C)) (w : List Int) : Prop := ∀ k ∈ w, 0 ≤ k ∧ k < g.length
/-- What is handed to the search: the order so far in an array with room, what is left. -/
structure Rt (m : Nat) (xs : List (List C)) (o : Int) (ls : List (List C)) (n : Int) (len : Int) (g : List (List C)) (order left : List Int) : Prop where
  ho : o = order.length
  hx : xs.take order.length = rowsI order
  hne : order ≠ []
  hn : n = left.length
  hl : ls.take left.length = rowsI left
  hll : ls.length ≤ 1000000
  hr : order.length + left.length ≤ xs.length
  h8 : order.length + left.length ≤ 8
  hm : left.length < m
  hlen : len = lenL g order
  hg : okG g
  hi : inG g (order ++ left)
def spRN (m : Nat) (xs : List (List C)) (o : Int) (ls : List (List C)) (n : Int) (len lst : Int) (g : List (List C)) (K : List (List C) → List (List C) → Int → Prop) : Prop :=
  lst = 0 ∧ ∃ order left, Rt m xs o ls n len g order left ∧ ∀ xs', xs'.length = xs.length → xs'.take order.length = rowsI order → K xs' (rowsI (best g left.length order left)) (lenL g (best g left.length order left))
def spRG (m : Nat) (xs : List (List C)) (o : Int) (ls : List (List C)) (n : Int) (len : Int) (bs : List (List C)) (lst : Int) (g : List (List C)) (K : List (List C) → List (List C) → Int → Prop) : Prop :=
  ∃ order left b, Rt m xs o ls n len g order left ∧ bs = rowsI b ∧ b ≠ [] ∧ lst = lenL g b ∧ ∀ xs', xs'.length = xs.length → xs'.take order.length = rowsI order →
    K xs' (rowsI (if lenL g (best g left.length order left) < lenL g b then best g left.length order left else b)) (lenL g (if lenL g (best g left.length order left) < lenL g b then best g left.length order left else b))
def RouteC (m : Nat) (P : Program) (f : FuncId) : Prop :=
  hasBody P f = true ∧
  (∀ (xs : List (List C)) (o : Int) (ls : List (List C)) (n len lst : Int) (g : List (List C)) (K : List (List C) → List (List C) → Int → Prop), spRN m xs o ls n len lst g K →
    ACalls P f [.own 0 0 o, .own 1 0 n, .c (.int .i64 len), .ptr 2 0, .ptr 3 0, .ptr 4 0, .ptr 5 0] [.arr 3 [.int .i64] xs, .arr 3 [.int .i64] ls, .box 31 [.c .nil], .box 3 [.c (.int .i64 lst)], .box 22 [.c (.sl GL g)], .box 61 [.fn 43 [.ptr 2 0, .ptr 3 0, .ptr 4 0, .ptr 5 0]]]
      fun r H' => ∃ xs' bs' lst', K xs' bs' lst' ∧ r = .tup [] ∧ H' = [.arr 3 [.int .i64] xs', .arr 3 [.int .i64] ls, .box 31 [.c (.sl [.int .i64] bs')], .box 3 [.c (.int .i64 lst')], .box 22 [.c (.sl GL g)], .box 61 [.fn 43 [.ptr 2 0, .ptr 3 0, .ptr 4 0, .ptr 5 0]]]) ∧
  (∀ (xs : List (List C)) (o : Int) (ls : List (List C)) (n len : Int) (bs : List (List C)) (lst : Int) (g : List (List C)) (K : List (List C) → List (List C) → Int → Prop), spRG m xs o ls n len bs lst g K →
    ACalls P f [.own 0 0 o, .own 1 0 n, .c (.int .i64 len), .ptr 2 0, .ptr 3 0, .ptr 4 0, .ptr 5 0] [.arr 3 [.int .i64] xs, .arr 3 [.int .i64] ls, .box 31 [.c (.sl [.int .i64] bs)], .box 3 [.c (.int .i64 lst)], .box 22 [.c (.sl GL g)], .box 61 [.fn 43 [.ptr 2 0, .ptr 3 0, .ptr 4 0, .ptr 5 0]]]
      fun r H' => ∃ xs' bs' lst', K xs' bs' lst' ∧ r = .tup [] ∧ H' = [.arr 3 [.int .i64] xs', .arr 3 [.int .i64] ls, .box 31 [.c (.sl [.int .i64] bs')], .box 3 [.c (.int .i64 lst')], .box 22 [.c (.sl GL g)], .box 61 [.fn 43 [.ptr 2 0, .ptr 3 0, .ptr 4 0, .ptr 5 0]]])
/-- papermill papermillref31.Route -/
def rf23 : RFn := ⟨(.seq (.ops 0 [⟨(some 6), (.v (.mv (.k (.c .nil)))), none, []⟩, ⟨(some 7), (.v (.mv (.k (.c (.int .i64 0))))), none, []⟩]) (.seq (.seq (.ops 0 [⟨(some 11), (.v (.mv (.t 0))), none, []⟩, ⟨(some 12), (.v (.mv (.t 1))), none, []⟩, ⟨(some 13), (.v (.det 13 [⟨false, [(.int .i64)]⟩] [(.t 11), (.t 12)])), none, []⟩, ⟨(some 8), (.v (.mv (.t 13))), none, []⟩]) (.seq (.ops 0 [⟨(some 14), (.v (.mv (.t 8))), none, []⟩, ⟨(some 15), (.v (.bin .neq (.t 14) (.k (.c (.int .i64 0))))), none, []⟩]) (.cond (.t 15) (.seq (.ops 0 [⟨(some 16), (.v (.mv (.t 8))), none, []⟩, ⟨(some 6), (.v (.mv (.k (.c .nil)))), none, []⟩, ⟨(some 7), (.v (.mv (.t 16))), none, []⟩]) .ret) .skip))) (.seq (.seq (.ops 0 [⟨(some 17), (.v (.mv (.t 2))), none, []⟩, ⟨(some 18), (.v (.lenS (.t 17))), none, []⟩, ⟨(some 19), (.v (.bin .gtr (.t 18) (.k (.c (.int .i64 8))))), none, []⟩]) (.cond (.t 19) (.seq (.ops 0 [⟨(some 6), (.v (.mv (.k (.c .nil)))), none, []⟩, ⟨(some 7), (.v (.mv (.k (.c (.int .i64 8))))), none, []⟩]) .ret) .skip)) (.seq (.seq (.ops 0 [⟨(some 9), (.v (.mv (.k (.c (.int .i64 0))))), none, []⟩]) (.block 0 (.loop (.seq (.seq (.ops 0 [⟨(some 20), (.v (.mv (.t 9))), none, []⟩, ⟨(some 21), (.v (.mv (.t 2))), none, []⟩, ⟨(some 22), (.v (.lenS (.t 21))), none, []⟩, ⟨(some 23), (.v (.bin .lss (.t 20) (.t 22))), none, []⟩]) (.cond (.t 23) .skip (.exit 0))) (.seq (.block 1 (.seq (.ops 0 [⟨(some 26), (.v (.mv (.t 2))), none, []⟩, ⟨(some 27), (.v (.mv (.t 9))), none, []⟩, ⟨(some 28), (.v (.ia 1 (.t 26) (.t 27))), none, []⟩, ⟨(some 29), (.v (.ld (.t 28))), none, []⟩, ⟨(some 30), (.v (.bin .lss (.t 29) (.k (.c (.int .i64 0))))), none, []⟩, ⟨(some 31), (.v (.mv (.t 30))), none, []⟩, ⟨(some 32), (.v (.mv (.t 2))), (some ⟨31, false⟩), [(.t 2)]⟩, ⟨(some 33), (.v (.mv (.t 9))), (some ⟨31, false⟩), [(.t 9)]⟩, ⟨(some 34), (.v (.ia 1 (.t 32) (.t 33))), (some ⟨31, false⟩), [(.t 32), (.t 33)]⟩, ⟨(some 35), (.v (.ld (.t 34))), (some ⟨31, false⟩), [(.t 34)]⟩, ⟨(some 36), (.v (.mv (.t 0))), (some ⟨31, false⟩), [(.t 0)]⟩, ⟨(some 37), (.v (.lenS (.t 36))), (some ⟨31, false⟩), [(.t 36)]⟩, ⟨(some 38), (.v (.bin .geq (.t 35) (.t 37))), (some ⟨31, false⟩), [(.t 35), (.t 37)]⟩, ⟨(some 39), (.v (.pick (.t 31) (.k (.c (.bool true))) (.t 38))), none, []⟩]) (.cond (.t 39) (.seq (.ops 0 [⟨(some 6), (.v (.mv (.k (.c .nil)))), none, []⟩, ⟨(some 7), (.v (.mv (.k (.c (.int .i64 7))))), none, []⟩]) .ret) .skip))) (.ops 0 [⟨(some 24), (.v (.mv (.t 9))), none, []⟩, ⟨(some 25), (.v (.bin .add (.t 24) (.k (.c (.int .i64 1))))), none, []⟩, ⟨(some 9), (.v (.mv (.t 25))), none, []⟩])))))) (.seq (.seq (.ops 0 [⟨(some 10), (.v (.mv (.k (.c (.int .i64 0))))), none, []⟩]) (.block 2 (.loop (.seq (.seq (.ops 0 [⟨(some 40), (.v (.mv (.t 10))), none, []⟩, ⟨(some 41), (.v (.mv (.t 2))), none, []⟩, ⟨(some 42), (.v (.lenS (.t 41))), none, []⟩, ⟨(some 43), (.v (.bin .lss (.t 40) (.t 42))), none, []⟩]) (.cond (.t 43) .skip (.exit 2))) (.seq (.block 3 (.seq (.any 0 [⟨0, ⟨[], ⟨(some 46), (.v (.mv (.t 2))), none, []⟩⟩⟩, ⟨1, ⟨[], ⟨(some 47), (.v (.mv (.t 10))), none, []⟩⟩⟩, ⟨2, ⟨[0, 1], ⟨(some 48), (.v (.sls 1 (.t 46) none (some (.t 47)))), none, []⟩⟩⟩, ⟨3, ⟨[], ⟨(some 49), (.v (.mv (.t 2))), none, []⟩⟩⟩, ⟨4, ⟨[], ⟨(some 50), (.v (.mv (.t 10))), none, []⟩⟩⟩, ⟨5, ⟨[3, 4], ⟨(some 51), (.v (.ia 1 (.t 49) (.t 50))), none, []⟩⟩⟩, ⟨6, ⟨[5, 3, 4], ⟨(some 52), (.v (.ld (.t 51))), none, []⟩⟩⟩, ⟨7, ⟨[2, 0, 1, 6, 5, 3, 4], ⟨(some 53), (.v (.det 45 [⟨false, [.bool]⟩] [(.t 48), (.t 52)])), none, []⟩⟩⟩]) (.cond (.t 53) (.seq (.ops 0 [⟨(some 6), (.v (.mv (.k (.c .nil)))), none, []⟩, ⟨(some 7), (.v (.mv (.k (.c (.int .i64 6))))), none, []⟩]) .ret) .skip))) (.ops 0 [⟨(some 44), (.v (.mv (.t 10))), none, []⟩, ⟨(some 45), (.v (.bin .add (.t 44) (.k (.c (.int .i64 1))))), none, []⟩, ⟨(some 10), (.v (.mv (.t 45))), none, []⟩])))))) (.seq (.seq (.ops 0 [⟨(some 54), (.v (.mv (.t 2))), none, []⟩, ⟨(some 55), (.v (.lenS (.t 54))), none, []⟩, ⟨(some 56), (.v (.bin .eql (.t 55) (.k (.c (.int .i64 0))))), none, []⟩]) (.cond (.t 56) (.seq (.ops 0 [⟨(some 6), (.v (.mv (.k (.c .nil)))), none, []⟩, ⟨(some 7), (.v (.mv (.k (.c (.int .i64 0))))), none, []⟩]) .ret) .skip)) (.seq (.any 0 [⟨0, ⟨[], ⟨(some 57), (.v (.mv (.t 0))), none, []⟩⟩⟩, ⟨1, ⟨[], ⟨(some 58), (.v (.mv (.t 2))), none, []⟩⟩⟩, ⟨2, ⟨[1], ⟨(some 59), (.v (.sls 1 (.t 58) none (some (.k (.c (.int .i64 1)))))), none, []⟩⟩⟩, ⟨3, ⟨[], ⟨(some 60), (.v (.mv (.t 2))), none, []⟩⟩⟩, ⟨4, ⟨[3], ⟨(some 61), (.v (.sls 1 (.t 60) (some (.k (.c (.int .i64 1)))) none)), none, []⟩⟩⟩, ⟨5, ⟨[4, 3], ⟨(some 62), (.v (.det 47 [⟨false, [(.sl [(.int .i64)])]⟩] [(.t 61)])), none, []⟩⟩⟩, ⟨6, ⟨[0, 2, 1, 5, 4, 3], ⟨(some 63), (.v (.det 46 [⟨false, [(.sl [(.int .i64)])]⟩] [(.t 57), (.t 59), (.t 62)])), none, []⟩⟩⟩, ⟨7, ⟨[6, 0, 2, 1, 5, 4, 3], ⟨(some 6), (.v (.mv (.t 63))), none, []⟩⟩⟩, ⟨8, ⟨[7, 6, 0, 2, 1, 5, 4, 3], ⟨(some 7), (.v (.mv (.k (.c (.int .i64 0))))), none, []⟩⟩⟩]) .ret))))))), 64, [(.t 6), (.t 7)]⟩
theorem h23 : fnR Try.prog DD 23 = some rf23 := by kernel_rfl
/-- papermill papermillref31.best -/
def rf46 : RFn := ⟨(.seq (.ops 0 [⟨(some 6), (.v (.mv (.k (.c .nil)))), none, []⟩]) (.seq (.seq (.ops 0 [⟨(some 11), (.v (.mv (.t 2))), none, []⟩, ⟨(some 12), (.v (.lenS (.t 11))), none, []⟩, ⟨(some 13), (.v (.bin .eql (.t 12) (.k (.c (.int .i64 0))))), none, []⟩]) (.cond (.t 13) (.seq (.ops 0 [⟨(some 14), (.v (.mv (.t 1))), none, []⟩, ⟨(some 6), (.v (.mv (.t 14))), none, []⟩]) .ret) .skip)) (.seq (.ops 0 [⟨(some 7), (.v (.mv (.k (.c .nil)))), none, []⟩]) (.seq (.seq (.ops 0 [⟨(some 8), (.v (.mv (.k (.c (.int .i64 0))))), none, []⟩]) (.block 0 (.loop (.seq (.seq (.ops 0 [⟨(some 15), (.v (.mv (.t 8))), none, []⟩, ⟨(some 16), (.v (.mv (.t 2))), none, []⟩, ⟨(some 17), (.v (.lenS (.t 16))), none, []⟩, ⟨(some 18), (.v (.bin .lss (.t 15) (.t 17))), none, []⟩]) (.cond (.t 18) .skip (.exit 0))) (.seq (.block 1 (.seq (.any 3 [⟨0, ⟨[], ⟨(some 21), (.v (.bsl 0 3 [(.int .i64)] [])), none, []⟩⟩⟩, ⟨1, ⟨[], ⟨(some 22), (.v (.mv (.t 2))), none, []⟩⟩⟩, ⟨2, ⟨[], ⟨(some 23), (.v (.mv (.t 8))), none, []⟩⟩⟩, ⟨3, ⟨[1, 2], ⟨(some 24), (.v (.sls 1 (.t 22) none (some (.t 23)))), none, []⟩⟩⟩, ⟨4, ⟨[0, 3, 1, 2], ⟨(some 25), (.v (.app 1 3 [(.int .i64)] 17592186044416 (.t 21) (.t 24))), none, []⟩⟩⟩, ⟨5, ⟨[], ⟨(some 26), (.v (.mv (.t 2))), none, []⟩⟩⟩, ⟨6, ⟨[], ⟨(some 27), (.v (.mv (.t 8))), none, []⟩⟩⟩, ⟨7, ⟨[6], ⟨(some 28), (.v (.bin .add (.t 27) (.k (.c (.int .i64 1))))), none, []⟩⟩⟩, ⟨8, ⟨[5, 7, 6], ⟨(some 29), (.v (.sls 1 (.t 26) (some (.t 28)) none)), none, []⟩⟩⟩, ⟨9, ⟨[8, 5, 7, 6, 4, 0, 3, 1, 2], ⟨(some 30), (.v (.app 2 3 [(.int .i64)] 17592186044416 (.t 25) (.t 29))), none, []⟩⟩⟩, ⟨10, ⟨[9, 8, 5, 7, 6, 4, 0, 3, 1, 2], ⟨(some 9), (.v (.mv (.t 30))), none, []⟩⟩⟩]) (.seq (.any 4 [⟨0, ⟨[], ⟨(some 31), (.v (.mv (.t 0))), none, []⟩⟩⟩, ⟨1, ⟨[], ⟨(some 32), (.v (.bsl 0 3 [(.int .i64)] [])), none, []⟩⟩⟩, ⟨2, ⟨[], ⟨(some 33), (.v (.mv (.t 1))), none, []⟩⟩⟩, ⟨3, ⟨[1, 2], ⟨(some 34), (.v (.app 1 3 [(.int .i64)] 17592186044416 (.t 32) (.t 33))), none, []⟩⟩⟩, ⟨4, ⟨[], ⟨(some 35), (.v (.mv (.t 2))), none, []⟩⟩⟩, ⟨5, ⟨[], ⟨(some 36), (.v (.mv (.t 8))), none, []⟩⟩⟩, ⟨6, ⟨[4, 5], ⟨(some 37), (.v (.ia 1 (.t 35) (.t 36))), none, []⟩⟩⟩, ⟨7, ⟨[6, 4, 5], ⟨(some 38), (.v (.ld (.t 37))), none, []⟩⟩⟩, ⟨8, ⟨[7, 6, 4, 5], ⟨(some 39), (.v (.bsl 2 3 [(.int .i64)] [(.t 38)])), none, []⟩⟩⟩, ⟨9, ⟨[8, 7, 6, 4, 5, 3, 1, 2], ⟨(some 40), (.v (.app 3 3 [(.int .i64)] 17592186044416 (.t 34) (.t 39))), none, []⟩⟩⟩, ⟨10, ⟨[], ⟨(some 41), (.v (.mv (.t 9))), none, []⟩⟩⟩, ⟨11, ⟨[0, 10, 9, 8, 7, 6, 4, 5, 3, 1, 2], ⟨(some 42), (.v (.det 46 [⟨false, [(.sl [(.int .i64)])]⟩] [(.t 31), (.t 40), (.t 41)])), none, []⟩⟩⟩, ⟨12, ⟨[11, 0, 10, 9, 8, 7, 6, 4, 5, 3, 1, 2], ⟨(some 10), (.v (.mv (.t 42))), none, []⟩⟩⟩]) (.seq (.ops 0 [⟨(some 43), (.v (.mv (.t 7))), none, []⟩, ⟨(some 44), (.v (.lenS (.t 43))), none, []⟩, ⟨(some 45), (.v (.bin .eql (.t 44) (.k (.c (.int .i64 0))))), none, []⟩, ⟨(some 46), (.v (.mv (.t 45))), none, []⟩, ⟨(some 47), (.v (.mv (.t 0))), (some ⟨46, false⟩), [(.t 0)]⟩, ⟨(some 48), (.v (.mv (.t 10))), (some ⟨46, false⟩), [(.t 10)]⟩, ⟨(some 49), (.v (.det 26 [⟨false, [(.int .i64)]⟩] [(.t 47), (.t 48)])), (some ⟨46, false⟩), [(.k (.fn 26 [])), (.t 47), (.t 48)]⟩, ⟨(some 50), (.v (.mv (.t 0))), (some ⟨46, false⟩), [(.t 0)]⟩, ⟨(some 51), (.v (.mv (.t 7))), (some ⟨46, false⟩), [(.t 7)]⟩, ⟨(some 52), (.v (.det 26 [⟨false, [(.int .i64)]⟩] [(.t 50), (.t 51)])), (some ⟨46, false⟩), [(.k (.fn 26 [])), (.t 50), (.t 51)]⟩, ⟨(some 53), (.v (.bin .lss (.t 49) (.t 52))), (some ⟨46, false⟩), [(.t 49), (.t 52)]⟩, ⟨(some 54), (.v (.pick (.t 46) (.k (.c (.bool true))) (.t 53))), none, []⟩]) (.cond (.t 54) (.ops 0 [⟨(some 55), (.v (.mv (.t 10))), none, []⟩, ⟨(some 7), (.v (.mv (.t 55))), none, []⟩]) .skip))))) (.ops 0 [⟨(some 19), (.v (.mv (.t 8))), none, []⟩, ⟨(some 20), (.v (.bin .add (.t 19) (.k (.c (.int .i64 1))))), none, []⟩, ⟨(some 8), (.v (.mv (.t 20))), none, []⟩])))))) (.seq (.ops 0 [⟨(some 56), (.v (.mv (.t 7))), none, []⟩, ⟨(some 6), (.v (.mv (.t 56))), none, []⟩]) .ret))))), 57, [(.t 6)]⟩
theorem h46 : fnR Try.prog DD 46 = some rf46 := by kernel_rfl
/-- papermill papermillref31.rising -/
def rf47 : RFn := ⟨(.seq (.ops 0 [⟨(some 2), (.v (.mv (.k (.c .nil)))), none, []⟩]) (.seq (.ops 0 [⟨(some 3), (.v (.mv (.k (.c .nil)))), none, []⟩]) (.seq (.seq (.ops 0 [⟨(some 4), (.v (.mv (.k (.c (.int .i64 0))))), none, []⟩]) (.block 0 (.loop (.seq (.seq (.ops 0 [⟨(some 6), (.v (.mv (.t 4))), none, []⟩, ⟨(some 7), (.v (.mv (.t 0))), none, []⟩, ⟨(some 8), (.v (.lenS (.t 7))), none, []⟩, ⟨(some 9), (.v (.bin .lss (.t 6) (.t 8))), none, []⟩]) (.cond (.t 9) .skip (.exit 0))) (.seq (.block 1 (.seq (.ops 0 [⟨(some 5), (.v (.mv (.k (.c (.int .i64 0))))), none, []⟩]) (.seq (.block 2 (.loop (.seq (.seq (.any 0 [⟨0, ⟨[], ⟨(some 12), (.v (.mv (.t 5))), none, []⟩⟩⟩, ⟨1, ⟨[], ⟨(some 13), (.v (.mv (.t 3))), none, []⟩⟩⟩, ⟨2, ⟨[1], ⟨(some 14), (.v (.lenS (.t 13))), none, []⟩⟩⟩, ⟨3, ⟨[0, 2, 1], ⟨(some 15), (.v (.bin .lss (.t 12) (.t 14))), none, []⟩⟩⟩, ⟨4, ⟨[3, 0, 2, 1], ⟨(some 16), (.v (.mv (.t 15))), none, []⟩⟩⟩, ⟨5, ⟨[4, 3, 0, 2, 1], ⟨(some 17), (.v (.mv (.t 3))), (some ⟨16, true⟩), [(.t 3)]⟩⟩⟩, ⟨6, ⟨[4, 3, 0, 2, 1], ⟨(some 18), (.v (.mv (.t 5))), (some ⟨16, true⟩), [(.t 5)]⟩⟩⟩, ⟨7, ⟨[5, 6, 4, 3, 0, 2, 1], ⟨(some 19), (.v (.ia 1 (.t 17) (.t 18))), (some ⟨16, true⟩), [(.t 17), (.t 18)]⟩⟩⟩, ⟨8, ⟨[7, 5, 6, 4, 3, 0, 2, 1], ⟨(some 20), (.v (.ld (.t 19))), (some ⟨16, true⟩), [(.t 19)]⟩⟩⟩, ⟨9, ⟨[4, 3, 0, 2, 1], ⟨(some 21), (.v (.mv (.t 0))), (some ⟨16, true⟩), [(.t 0)]⟩⟩⟩, ⟨10, ⟨[4, 3, 0, 2, 1], ⟨(some 22), (.v (.mv (.t 4))), (some ⟨16, true⟩), [(.t 4)]⟩⟩⟩, ⟨11, ⟨[9, 10, 4, 3, 0, 2, 1], ⟨(some 23), (.v (.ia 1 (.t 21) (.t 22))), (some ⟨16, true⟩), [(.t 21), (.t 22)]⟩⟩⟩, ⟨12, ⟨[11, 9, 10, 4, 3, 0, 2, 1], ⟨(some 24), (.v (.ld (.t 23))), (some ⟨16, true⟩), [(.t 23)]⟩⟩⟩, ⟨13, ⟨[8, 7, 5, 6, 12, 11, 9, 10, 4, 3, 0, 2, 1], ⟨(some 25), (.v (.bin .lss (.t 20) (.t 24))), (some ⟨16, true⟩), [(.t 20), (.t 24)]⟩⟩⟩, ⟨14, ⟨[13, 8, 7, 5, 6, 12, 11, 9, 10, 4, 3, 0, 2, 1], ⟨(some 26), (.v (.pick (.t 16) (.t 25) (.k (.c (.bool false))))), none, []⟩⟩⟩]) (.cond (.t 26) .skip (.exit 2))) (.block 3 (.ops 0 [⟨(some 27), (.v (.mv (.t 5))), none, []⟩, ⟨(some 28), (.v (.bin .add (.t 27) (.k (.c (.int .i64 1))))), none, []⟩, ⟨(some 5), (.v (.mv (.t 28))), none, []⟩]))))) (.any 5 [⟨0, ⟨[], ⟨(some 29), (.v (.bsl 0 3 [(.int .i64)] [])), none, []⟩⟩⟩, ⟨1, ⟨[], ⟨(some 30), (.v (.mv (.t 3))), none, []⟩⟩⟩, ⟨2, ⟨[], ⟨(some 31), (.v (.mv (.t 5))), none, []⟩⟩⟩, ⟨3, ⟨[1, 2], ⟨(some 32), (.v (.sls 1 (.t 30) none (some (.t 31)))), none, []⟩⟩⟩, ⟨4, ⟨[0, 3, 1, 2], ⟨(some 33), (.v (.app 1 3 [(.int .i64)] 17592186044416 (.t 29) (.t 32))), none, []⟩⟩⟩, ⟨5, ⟨[], ⟨(some 34), (.v (.mv (.t 0))), none, []⟩⟩⟩, ⟨6, ⟨[], ⟨(some 35), (.v (.mv (.t 4))), none, []⟩⟩⟩, ⟨7, ⟨[5, 6], ⟨(some 36), (.v (.ia 1 (.t 34) (.t 35))), none, []⟩⟩⟩, ⟨8, ⟨[7, 5, 6], ⟨(some 37), (.v (.ld (.t 36))), none, []⟩⟩⟩, ⟨9, ⟨[8, 7, 5, 6], ⟨(some 38), (.v (.bsl 2 3 [(.int .i64)] [(.t 37)])), none, []⟩⟩⟩, ⟨10, ⟨[9, 8, 7, 5, 6, 4, 0, 3, 1, 2], ⟨(some 39), (.v (.app 3 3 [(.int .i64)] 17592186044416 (.t 33) (.t 38))), none, []⟩⟩⟩, ⟨11, ⟨[], ⟨(some 40), (.v (.mv (.t 3))), none, []⟩⟩⟩, ⟨12, ⟨[], ⟨(some 41), (.v (.mv (.t 5))), none, []⟩⟩⟩, ⟨13, ⟨[11, 12], ⟨(some 42), (.v (.sls 1 (.t 40) (some (.t 41)) none)), none, []⟩⟩⟩, ⟨14, ⟨[13, 11, 12, 10, 9, 8, 7, 5, 6, 4, 0, 3, 1, 2], ⟨(some 43), (.v (.app 4 3 [(.int .i64)] 17592186044416 (.t 39) (.t 42))), none, []⟩⟩⟩, ⟨15, ⟨[14, 13, 11, 12, 10, 9, 8, 7, 5, 6, 4, 0, 3, 1, 2], ⟨(some 3), (.v (.mv (.t 43))), none, []⟩⟩⟩])))) (.ops 0 [⟨(some 10), (.v (.mv (.t 4))), none, []⟩, ⟨(some 11), (.v (.bin .add (.t 10) (.k (.c (.int .i64 1))))), none, []⟩, ⟨(some 4), (.v (.mv (.t 11))), none, []⟩])))))) (.seq (.ops 0 [⟨(some 44), (.v (.mv (.t 3))), none, []⟩, ⟨(some 2), (.v (.mv (.t 44))), none, []⟩]) .ret)))), 45, [(.t 2)]⟩
theorem h47 : fnR Try.prog DD 47 = some rf47 := by kernel_rfl
/-- papermill papermillref31.in -/
def rf45 : RFn := ⟨(.seq (.ops 0 [⟨(some 4), (.v (.mv (.k (.c (.bool false))))), none, []⟩]) (.seq (.seq (.ops 0 [⟨(some 5), (.v (.mv (.k (.c (.int .i64 0))))), none, []⟩]) (.block 0 (.loop (.seq (.seq (.ops 0 [⟨(some 6), (.v (.mv (.t 5))), none, []⟩, ⟨(some 7), (.v (.mv (.t 0))), none, []⟩, ⟨(some 8), (.v (.lenS (.t 7))), none, []⟩, ⟨(some 9), (.v (.bin .lss (.t 6) (.t 8))), none, []⟩]) (.cond (.t 9) .skip (.exit 0))) (.seq (.block 1 (.seq (.ops 0 [⟨(some 12), (.v (.mv (.t 0))), none, []⟩, ⟨(some 13), (.v (.mv (.t 5))), none, []⟩, ⟨(some 14), (.v (.ia 1 (.t 12) (.t 13))), none, []⟩, ⟨(some 15), (.v (.ld (.t 14))), none, []⟩, ⟨(some 16), (.v (.mv (.t 1))), none, []⟩, ⟨(some 17), (.v (.bin .eql (.t 15) (.t 16))), none, []⟩]) (.cond (.t 17) (.seq (.ops 0 [⟨(some 4), (.v (.mv (.k (.c (.bool true))))), none, []⟩]) .ret) .skip))) (.ops 0 [⟨(some 10), (.v (.mv (.t 5))), none, []⟩, ⟨(some 11), (.v (.bin .add (.t 10) (.k (.c (.int .i64 1))))), none, []⟩, ⟨(some 5), (.v (.mv (.t 11))), none, []⟩])))))) (.seq (.ops 0 [⟨(some 4), (.v (.mv (.k (.c (.bool false))))), none, []⟩]) .ret))), 18, [(.t 4)]⟩
theorem h45 : fnR Try.prog DD 45 = some rf45 := by kernel_rfl
/-- papermill papermillref31.Length -/
def rf26 : RFn := ⟨(.seq (.ops 0 [⟨(some 4), (.v (.mv (.k (.c (.int .i64 0))))), none, []⟩]) (.seq (.ops 0 [⟨(some 5), (.v (.mv (.k (.c (.int .i64 0))))), none, []⟩]) (.seq (.seq (.ops 0 [⟨(some 6), (.v (.mv (.k (.c (.int .i64 1))))), none, []⟩]) (.block 0 (.loop (.seq (.seq (.ops 0 [⟨(some 7), (.v (.mv (.t 6))), none, []⟩, ⟨(some 8), (.v (.mv (.t 1))), none, []⟩, ⟨(some 9), (.v (.lenS (.t 8))), none, []⟩, ⟨(some 10), (.v (.bin .lss (.t 7) (.t 9))), none, []⟩]) (.cond (.t 10) .skip (.exit 0))) (.seq (.block 1 (.any 0 [⟨0, ⟨[], ⟨(some 13), (.v (.mv (.t 5))), none, []⟩⟩⟩, ⟨1, ⟨[], ⟨(some 14), (.v (.mv (.t 0))), none, []⟩⟩⟩, ⟨2, ⟨[], ⟨(some 15), (.v (.mv (.t 1))), none, []⟩⟩⟩, ⟨3, ⟨[], ⟨(some 16), (.v (.mv (.t 6))), none, []⟩⟩⟩, ⟨4, ⟨[3], ⟨(some 17), (.v (.bin .sub (.t 16) (.k (.c (.int .i64 1))))), none, []⟩⟩⟩, ⟨5, ⟨[2, 4, 3], ⟨(some 18), (.v (.ia 1 (.t 15) (.t 17))), none, []⟩⟩⟩, ⟨6, ⟨[5, 2, 4, 3], ⟨(some 19), (.v (.ld (.t 18))), none, []⟩⟩⟩, ⟨7, ⟨[1, 6, 5, 2, 4, 3], ⟨(some 20), (.v (.ia 8 (.t 14) (.t 19))), none, []⟩⟩⟩, ⟨8, ⟨[7, 1, 6, 5, 2, 4, 3], ⟨(some 21), (.v (.fa 1 (.t 20))), none, []⟩⟩⟩, ⟨9, ⟨[8, 7, 1, 6, 5, 2, 4, 3], ⟨(some 22), (.v (.ld (.t 21))), none, []⟩⟩⟩, ⟨10, ⟨[], ⟨(some 23), (.v (.mv (.t 0))), none, []⟩⟩⟩, ⟨11, ⟨[], ⟨(some 24), (.v (.mv (.t 1))), none, []⟩⟩⟩, ⟨12, ⟨[], ⟨(some 25), (.v (.mv (.t 6))), none, []⟩⟩⟩, ⟨13, ⟨[11, 12], ⟨(some 26), (.v (.ia 1 (.t 24) (.t 25))), none, []⟩⟩⟩, ⟨14, ⟨[13, 11, 12], ⟨(some 27), (.v (.ld (.t 26))), none, []⟩⟩⟩, ⟨15, ⟨[10, 14, 13, 11, 12], ⟨(some 28), (.v (.ia 8 (.t 23) (.t 27))), none, []⟩⟩⟩, ⟨16, ⟨[15, 10, 14, 13, 11, 12], ⟨(some 29), (.v (.fa 1 (.t 28))), none, []⟩⟩⟩, ⟨17, ⟨[16, 15, 10, 14, 13, 11, 12], ⟨(some 30), (.v (.ld (.t 29))), none, []⟩⟩⟩, ⟨18, ⟨[9, 8, 7, 1, 6, 5, 2, 4, 3, 17, 16, 15, 10, 14, 13, 11, 12], ⟨(some 31), (.v (.det 37 [⟨false, [(.int .u64)]⟩] [(.t 22), (.t 30)])), none, []⟩⟩⟩, ⟨19, ⟨[18, 9, 8, 7, 1, 6, 5, 2, 4, 3, 17, 16, 15, 10, 14, 13, 11, 12], ⟨(some 32), (.v (.cv .i64 (.t 31))), none, []⟩⟩⟩, ⟨20, ⟨[0, 19, 18, 9, 8, 7, 1, 6, 5, 2, 4, 3, 17, 16, 15, 10, 14, 13, 11, 12], ⟨(some 33), (.v (.bin .add (.t 13) (.t 32))), none, []⟩⟩⟩, ⟨21, ⟨[20, 0, 19, 18, 9, 8, 7, 1, 6, 5, 2, 4, 3, 17, 16, 15, 10, 14, 13, 11, 12], ⟨(some 5), (.v (.mv (.t 33))), none, []⟩⟩⟩])) (.ops 0 [⟨(some 11), (.v (.mv (.t 6))), none, []⟩, ⟨(some 12), (.v (.bin .add (.t 11) (.k (.c (.int .i64 1))))), none, []⟩, ⟨(some 6), (.v (.mv (.t 12))), none, []⟩])))))) (.seq (.ops 0 [⟨(some 34), (.v (.mv (.t 5))), none, []⟩, ⟨(some 4), (.v (.mv (.t 34))), none, []⟩]) .ret)))), 35, [(.t 4)]⟩
theorem h26 : fnR Try.prog DD 26 = some rf26 := by kernel_rfl
/-- papermill papermilllaw31.GradeRoutes -/
def rf7 : RFn := ⟨(.seq (.ops 0 [⟨(some 6), (.v (.mv (.k (.c (.bool false))))), none, []⟩]) (.seq (.seq (.ops 0 [⟨(some 11), (.v (.mv (.t 0))), none, []⟩, ⟨(some 12), (.v (.det 10 [⟨false, [.bool]⟩] [(.t 11)])), none, []⟩, ⟨(some 13), (.v (.un .not (.t 12))), none, []⟩, ⟨(some 14), (.v (.mv (.t 13))), none, []⟩, ⟨(some 15), (.v (.mv (.t 2))), (some ⟨14, false⟩), [(.t 2)]⟩, ⟨(some 16), (.v (.lenS (.t 15))), (some ⟨14, false⟩), [(.t 15)]⟩, ⟨(some 17), (.v (.bin .eql (.t 16) (.k (.c (.int .i64 7))))), (some ⟨14, false⟩), [(.t 16), (.k (.c (.int .i64 7)))]⟩, ⟨(some 18), (.v (.pick (.t 14) (.k (.c (.bool true))) (.t 17))), none, []⟩, ⟨(some 19), (.v (.mv (.t 18))), none, []⟩, ⟨(some 20), (.v (.mv (.t 2))), (some ⟨19, false⟩), [(.t 2)]⟩, ⟨(some 21), (.v (.lenS (.t 20))), (some ⟨19, false⟩), [(.t 20)]⟩, ⟨(some 22), (.v (.bin .eql (.t 21) (.k (.c (.int .i64 8))))), (some ⟨19, false⟩), [(.t 21), (.k (.c (.int .i64 8)))]⟩, ⟨(some 23), (.v (.pick (.t 19) (.k (.c (.bool true))) (.t 22))), none, []⟩, ⟨(some 24), (.v (.mv (.t 23))), none, []⟩, ⟨(some 25), (.v (.mv (.t 2))), (some ⟨24, false⟩), [(.t 2)]⟩, ⟨(some 26), (.v (.lenS (.t 25))), (some ⟨24, false⟩), [(.t 25)]⟩, ⟨(some 27), (.v (.bin .gtr (.t 26) (.k (.c (.int .i64 20))))), (some ⟨24, false⟩), [(.t 26), (.k (.c (.int .i64 20)))]⟩, ⟨(some 28), (.v (.pick (.t 24) (.k (.c (.bool true))) (.t 27))), none, []⟩]) (.cond (.t 28) (.seq (.ops 0 [⟨(some 29), (.v (.det 11 [⟨false, [.bool]⟩] [])), none, []⟩, ⟨(some 6), (.v (.mv (.t 29))), none, []⟩]) .ret) .skip)) (.seq (.ops 0 [⟨(some 31), (.v (.mv (.t 0))), none, []⟩, ⟨(some 32), (.v (.mv (.t 1))), none, []⟩, ⟨(some 33), (.v (.mv (.t 2))), none, []⟩, ⟨(some 34), (.v (.det 22 [⟨false, [(.sl [(.int .i64)])]⟩, ⟨false, [(.int .i64)]⟩] [(.t 31), (.t 32), (.t 33)])), none, []⟩, ⟨(some 30), (.v (.mv (.t 34))), none, []⟩, ⟨(some 35), (.v (.ext (.t 30) 0)), none, []⟩, ⟨(some 36), (.v (.ext (.t 30) 1)), none, []⟩, ⟨(some 7), (.v (.mv (.t 35))), none, []⟩, ⟨(some 8), (.v (.mv (.t 36))), none, []⟩]) (.seq (.ops 0 [⟨(some 38), (.v (.mv (.t 0))), none, []⟩, ⟨(some 39), (.v (.mv (.t 1))), none, []⟩, ⟨(some 40), (.v (.mv (.t 2))), none, []⟩, ⟨(some 41), (.v (.det 23 [⟨false, [(.sl [(.int .i64)])]⟩, ⟨false, [(.int .i64)]⟩] [(.t 38), (.t 39), (.t 40)])), none, []⟩, ⟨(some 37), (.v (.mv (.t 41))), none, []⟩, ⟨(some 42), (.v (.ext (.t 37) 0)), none, []⟩, ⟨(some 43), (.v (.ext (.t 37) 1)), none, []⟩, ⟨(some 9), (.v (.mv (.t 42))), none, []⟩, ⟨(some 10), (.v (.mv (.t 43))), none, []⟩]) (.seq (.ops 0 [⟨(some 44), (.v (.mv (.t 7))), none, []⟩, ⟨(some 45), (.v (.mv (.t 9))), none, []⟩, ⟨(some 46), (.v (.det 24 [⟨false, [.bool]⟩] [(.t 44), (.t 45)])), none, []⟩, ⟨(some 47), (.v (.mv (.t 46))), none, []⟩, ⟨(some 48), (.v (.mv (.t 8))), (some ⟨47, true⟩), [(.t 8)]⟩, ⟨(some 49), (.v (.mv (.t 10))), (some ⟨47, true⟩), [(.t 10)]⟩, ⟨(some 50), (.v (.bin .eql (.t 48) (.t 49))), (some ⟨47, true⟩), [(.t 48), (.t 49)]⟩, ⟨(some 51), (.v (.pick (.t 47) (.t 50) (.k (.c (.bool false))))), none, []⟩, ⟨(some 52), (.v (.mv (.t 51))), none, []⟩, ⟨(some 53), (.v (.det 11 [⟨false, [.bool]⟩] [])), (some ⟨52, true⟩), [(.k (.fn 11 []))]⟩, ⟨(some 54), (.v (.pick (.t 52) (.t 53) (.k (.c (.bool false))))), none, []⟩, ⟨(some 6), (.v (.mv (.t 54))), none, []⟩]) .ret))))), 55, [(.t 6)]⟩
theorem h7 : fnR Try.prog DD 7 = some rf7 := by kernel_rfl
/-- papermill papermilllaw31.GradeRoute -/
def rf8 : RFn := ⟨(.seq (.ops 0 [⟨(some 8), (.v (.mv (.k (.c (.bool false))))), none, []⟩]) (.seq (.seq (.ops 0 [⟨(some 17), (.v (.mv (.t 0))), none, []⟩, ⟨(some 18), (.v (.det 10 [⟨false, [.bool]⟩] [(.t 17)])), none, []⟩, ⟨(some 19), (.v (.un .not (.t 18))), none, []⟩, ⟨(some 20), (.v (.mv (.t 19))), none, []⟩, ⟨(some 21), (.v (.mv (.t 2))), (some ⟨20, false⟩), [(.t 2)]⟩, ⟨(some 22), (.v (.lenS (.t 21))), (some ⟨20, false⟩), [(.t 21)]⟩, ⟨(some 23), (.v (.bin .gtr (.t 22) (.k (.c (.int .i64 20))))), (some ⟨20, false⟩), [(.t 22), (.k (.c (.int .i64 20)))]⟩, ⟨(some 24), (.v (.pick (.t 20) (.k (.c (.bool true))) (.t 23))), none, []⟩, ⟨(some 25), (.v (.mv (.t 24))), none, []⟩, ⟨(some 26), (.v (.mv (.t 3))), (some ⟨25, false⟩), [(.t 3)]⟩, ⟨(some 27), (.v (.lenS (.t 26))), (some ⟨25, false⟩), [(.t 26)]⟩, ⟨(some 28), (.v (.bin .gtr (.t 27) (.k (.c (.int .i64 20))))), (some ⟨25, false⟩), [(.t 27), (.k (.c (.int .i64 20)))]⟩, ⟨(some 29), (.v (.pick (.t 25) (.k (.c (.bool true))) (.t 28))), none, []⟩]) (.cond (.t 29) (.seq (.ops 0 [⟨(some 30), (.v (.det 11 [⟨false, [.bool]⟩] [])), none, []⟩, ⟨(some 8), (.v (.mv (.t 30))), none, []⟩]) .ret) .skip)) (.seq (.ops 0 [⟨(some 32), (.v (.mv (.t 0))), none, []⟩, ⟨(some 33), (.v (.mv (.t 1))), none, []⟩, ⟨(some 34), (.v (.mv (.t 2))), none, []⟩, ⟨(some 35), (.v (.det 22 [⟨false, [(.sl [(.int .i64)])]⟩, ⟨false, [(.int .i64)]⟩] [(.t 32), (.t 33), (.t 34)])), none, []⟩, ⟨(some 31), (.v (.mv (.t 35))), none, []⟩, ⟨(some 36), (.v (.ext (.t 31) 0)), none, []⟩, ⟨(some 37), (.v (.ext (.t 31) 1)), none, []⟩, ⟨(some 9), (.v (.mv (.t 36))), none, []⟩, ⟨(some 10), (.v (.mv (.t 37))), none, []⟩]) (.seq (.seq (.ops 0 [⟨(some 38), (.v (.mv (.t 10))), none, []⟩, ⟨(some 39), (.v (.bin .neq (.t 38) (.k (.c (.int .i64 0))))), none, []⟩]) (.cond (.t 39) (.seq (.ops 0 [⟨(some 40), (.v (.mv (.t 9))), none, []⟩, ⟨(some 41), (.v (.lenS (.t 40))), none, []⟩, ⟨(some 42), (.v (.bin .eql (.t 41) (.k (.c (.int .i64 0))))), none, []⟩, ⟨(some 43), (.v (.mv (.t 42))), none, []⟩, ⟨(some 44), (.v (.det 11 [⟨false, [.bool]⟩] [])), (some ⟨43, true⟩), [(.k (.fn 11 []))]⟩, ⟨(some 45), (.v (.pick (.t 43) (.t 44) (.k (.c (.bool false))))), none, []⟩, ⟨(some 8), (.v (.mv (.t 45))), none, []⟩]) .ret) .skip)) (.seq (.seq (.any 0 [⟨0, ⟨[], ⟨(some 46), (.v (.mv (.t 9))), none, []⟩⟩⟩, ⟨1, ⟨[0], ⟨(some 47), (.v (.lenS (.t 46))), none, []⟩⟩⟩, ⟨2, ⟨[], ⟨(some 48), (.v (.mv (.t 2))), none, []⟩⟩⟩, ⟨3, ⟨[2], ⟨(some 49), (.v (.lenS (.t 48))), none, []⟩⟩⟩, ⟨4, ⟨[1, 0, 3, 2], ⟨(some 50), (.v (.bin .neq (.t 47) (.t 49))), none, []⟩⟩⟩, ⟨5, ⟨[4, 1, 0, 3, 2], ⟨(some 51), (.v (.mv (.t 50))), none, []⟩⟩⟩, ⟨6, ⟨[5, 4, 1, 0, 3, 2], ⟨(some 52), (.v (.mv (.t 9))), (some ⟨51, false⟩), [(.t 9)]⟩⟩⟩, ⟨7, ⟨[6, 5, 4, 1, 0, 3, 2], ⟨(some 53), (.v (.lenS (.t 52))), (some ⟨51, false⟩), [(.t 52)]⟩⟩⟩, ⟨8, ⟨[7, 6, 5, 4, 1, 0, 3, 2], ⟨(some 54), (.v (.bin .gtr (.t 53) (.k (.c (.int .i64 0))))), (some ⟨51, false⟩), [(.t 53), (.k (.c (.int .i64 0)))]⟩⟩⟩, ⟨9, ⟨[8, 7, 6, 5, 4, 1, 0, 3, 2], ⟨(some 55), (.v (.mv (.t 54))), (some ⟨51, false⟩), [(.t 54)]⟩⟩⟩, ⟨10, ⟨[9, 8, 7, 6, 5, 4, 1, 0, 3, 2], ⟨(some 56), (.v (.mv (.t 9))), (some ⟨55, true⟩), [(.t 9)]⟩⟩⟩, ⟨11, ⟨[10, 9, 8, 7, 6, 5, 4, 1, 0, 3, 2], ⟨(some 57), (.v (.ia 1 (.t 56) (.k (.c (.int .i64 0))))), (some ⟨55, true⟩), [(.t 56), (.k (.c (.int .i64 0)))]⟩⟩⟩, ⟨12, ⟨[11, 10, 9, 8, 7, 6, 5, 4, 1, 0, 3, 2], ⟨(some 58), (.v (.ld (.t 57))), (some ⟨55, true⟩), [(.t 57)]⟩⟩⟩, ⟨13, ⟨[9, 8, 7, 6, 5, 4, 1, 0, 3, 2], ⟨(some 59), (.v (.mv (.t 2))), (some ⟨55, true⟩), [(.t 2)]⟩⟩⟩, ⟨14, ⟨[13, 9, 8, 7, 6, 5, 4, 1, 0, 3, 2], ⟨(some 60), (.v (.ia 1 (.t 59) (.k (.c (.int .i64 0))))), (some ⟨55, true⟩), [(.t 59), (.k (.c (.int .i64 0)))]⟩⟩⟩, ⟨15, ⟨[14, 13, 9, 8, 7, 6, 5, 4, 1, 0, 3, 2], ⟨(some 61), (.v (.ld (.t 60))), (some ⟨55, true⟩), [(.t 60)]⟩⟩⟩, ⟨16, ⟨[12, 11, 10, 15, 14, 13, 9, 8, 7, 6, 5, 4, 1, 0, 3, 2], ⟨(some 62), (.v (.bin .neq (.t 58) (.t 61))), (some ⟨55, true⟩), [(.t 58), (.t 61)]⟩⟩⟩, ⟨17, ⟨[16, 12, 11, 10, 15, 14, 13, 9, 8, 7, 6, 5, 4, 1, 0, 3, 2], ⟨(some 63), (.v (.pick (.t 55) (.t 62) (.k (.c (.bool false))))), (some ⟨51, false⟩), [(.t 55), (.t 62), (.k (.c (.bool false)))]⟩⟩⟩, ⟨18, ⟨[17, 16, 12, 11, 10, 15, 14, 13, 9, 8, 7, 6, 5, 4, 1, 0, 3, 2], ⟨(some 64), (.v (.pick (.t 51) (.k (.c (.bool true))) (.t 63))), none, []⟩⟩⟩, ⟨19, ⟨[18, 17, 16, 12, 11, 10, 15, 14, 13, 9, 8, 7, 6, 5, 4, 1, 0, 3, 2], ⟨(some 65), (.v (.mv (.t 64))), none, []⟩⟩⟩, ⟨20, ⟨[19, 18, 17, 16, 12, 11, 10, 15, 14, 13, 9, 8, 7, 6, 5, 4, 1, 0, 3, 2], ⟨(some 66), (.v (.mv (.t 0))), (some ⟨65, false⟩), [(.t 0)]⟩⟩⟩, ⟨21, ⟨[19, 18, 17, 16, 12, 11, 10, 15, 14, 13, 9, 8, 7, 6, 5, 4, 1, 0, 3, 2], ⟨(some 67), (.v (.mv (.t 1))), (some ⟨65, false⟩), [(.t 1)]⟩⟩⟩, ⟨22, ⟨[20, 21, 19, 18, 17, 16, 12, 11, 10, 15, 14, 13, 9, 8, 7, 6, 5, 4, 1, 0, 3, 2], ⟨(some 68), (.v (.det 13 [⟨false, [(.int .i64)]⟩] [(.t 66), (.t 67)])), (some ⟨65, false⟩), [(.k (.fn 13 [])), (.t 66), (.t 67)]⟩⟩⟩, ⟨23, ⟨[22, 20, 21, 19, 18, 17, 16, 12, 11, 10, 15, 14, 13, 9, 8, 7, 6, 5, 4, 1, 0, 3, 2], ⟨(some 69), (.v (.bin .neq (.t 68) (.k (.c (.int .i64 0))))), (some ⟨65, false⟩), [(.t 68), (.k (.c (.int .i64 0)))]⟩⟩⟩, ⟨24, ⟨[23, 22, 20, 21, 19, 18, 17, 16, 12, 11, 10, 15, 14, 13, 9, 8, 7, 6, 5, 4, 1, 0, 3, 2], ⟨(some 70), (.v (.pick (.t 65) (.k (.c (.bool true))) (.t 69))), none, []⟩⟩⟩]) (.cond (.t 70) (.seq (.ops 0 [⟨(some 8), (.v (.mv (.k (.c (.bool false))))), none, []⟩]) .ret) .skip)) (.seq (.seq (.ops 0 [⟨(some 11), (.v (.mv (.k (.c (.int .i64 0))))), none, []⟩]) (.block 0 (.loop (.seq (.seq (.ops 0 [⟨(some 71), (.v (.mv (.t 11))), none, []⟩, ⟨(some 72), (.v (.mv (.t 2))), none, []⟩, ⟨(some 73), (.v (.lenS (.t 72))), none, []⟩, ⟨(some 74), (.v (.bin .lss (.t 71) (.t 73))), none, []⟩]) (.cond (.t 74) .skip (.exit 0))) (.seq (.block 1 (.seq (.ops 0 [⟨(some 77), (.v (.mv (.t 2))), none, []⟩, ⟨(some 78), (.v (.mv (.t 11))), none, []⟩, ⟨(some 79), (.v (.ia 1 (.t 77) (.t 78))), none, []⟩, ⟨(some 80), (.v (.ld (.t 79))), none, []⟩, ⟨(some 81), (.v (.bin .lss (.t 80) (.k (.c (.int .i64 0))))), none, []⟩, ⟨(some 82), (.v (.mv (.t 81))), none, []⟩, ⟨(some 83), (.v (.mv (.t 2))), (some ⟨82, false⟩), [(.t 2)]⟩, ⟨(some 84), (.v (.mv (.t 11))), (some ⟨82, false⟩), [(.t 11)]⟩, ⟨(some 85), (.v (.ia 1 (.t 83) (.t 84))), (some ⟨82, false⟩), [(.t 83), (.t 84)]⟩, ⟨(some 86), (.v (.ld (.t 85))), (some ⟨82, false⟩), [(.t 85)]⟩, ⟨(some 87), (.v (.mv (.t 0))), (some ⟨82, false⟩), [(.t 0)]⟩, ⟨(some 88), (.v (.lenS (.t 87))), (some ⟨82, false⟩), [(.t 87)]⟩, ⟨(some 89), (.v (.bin .geq (.t 86) (.t 88))), (some ⟨82, false⟩), [(.t 86), (.t 88)]⟩, ⟨(some 90), (.v (.pick (.t 82) (.k (.c (.bool true))) (.t 89))), none, []⟩, ⟨(some 91), (.v (.mv (.t 90))), none, []⟩, ⟨(some 92), (.v (.mv (.t 9))), (some ⟨91, false⟩), [(.t 9)]⟩, ⟨(some 93), (.v (.mv (.t 2))), (some ⟨91, false⟩), [(.t 2)]⟩, ⟨(some 94), (.v (.mv (.t 11))), (some ⟨91, false⟩), [(.t 11)]⟩, ⟨(some 95), (.v (.ia 1 (.t 93) (.t 94))), (some ⟨91, false⟩), [(.t 93), (.t 94)]⟩, ⟨(some 96), (.v (.ld (.t 95))), (some ⟨91, false⟩), [(.t 95)]⟩, ⟨(some 97), (.v (.det 25 [⟨false, [.bool]⟩] [(.t 92), (.t 96)])), (some ⟨91, false⟩), [(.k (.fn 25 [])), (.t 92), (.t 96)]⟩, ⟨(some 98), (.v (.un .not (.t 97))), (some ⟨91, false⟩), [(.t 97)]⟩, ⟨(some 99), (.v (.pick (.t 91) (.k (.c (.bool true))) (.t 98))), none, []⟩, ⟨(some 100), (.v (.mv (.t 99))), none, []⟩, ⟨(some 101), (.v (.mv (.t 9))), (some ⟨100, false⟩), [(.t 9)]⟩, ⟨(some 102), (.v (.mv (.t 11))), (some ⟨100, false⟩), [(.t 11)]⟩, ⟨(some 103), (.v (.ia 1 (.t 101) (.t 102))), (some ⟨100, false⟩), [(.t 101), (.t 102)]⟩, ⟨(some 104), (.v (.ld (.t 103))), (some ⟨100, false⟩), [(.t 103)]⟩, ⟨(some 105), (.v (.bin .lss (.t 104) (.k (.c (.int .i64 0))))), (some ⟨100, false⟩), [(.t 104), (.k (.c (.int .i64 0)))]⟩, ⟨(some 106), (.v (.pick (.t 100) (.k (.c (.bool true))) (.t 105))), none, []⟩, ⟨(some 107), (.v (.mv (.t 106))), none, []⟩, ⟨(some 108), (.v (.mv (.t 9))), (some ⟨107, false⟩), [(.t 9)]⟩, ⟨(some 109), (.v (.mv (.t 11))), (some ⟨107, false⟩), [(.t 11)]⟩, ⟨(some 110), (.v (.ia 1 (.t 108) (.t 109))), (some ⟨107, false⟩), [(.t 108), (.t 109)]⟩, ⟨(some 111), (.v (.ld (.t 110))), (some ⟨107, false⟩), [(.t 110)]⟩, ⟨(some 112), (.v (.mv (.t 0))), (some ⟨107, false⟩), [(.t 0)]⟩, ⟨(some 113), (.v (.lenS (.t 112))), (some ⟨107, false⟩), [(.t 112)]⟩, ⟨(some 114), (.v (.bin .geq (.t 111) (.t 113))), (some ⟨107, false⟩), [(.t 111), (.t 113)]⟩, ⟨(some 115), (.v (.pick (.t 107) (.k (.c (.bool true))) (.t 114))), none, []⟩]) (.cond (.t 115) (.seq (.ops 0 [⟨(some 8), (.v (.mv (.k (.c (.bool false))))), none, []⟩]) .ret) .skip))) (.ops 0 [⟨(some 75), (.v (.mv (.t 11))), none, []⟩, ⟨(some 76), (.v (.bin .add (.t 75) (.k (.c (.int .i64 1))))), none, []⟩, ⟨(some 11), (.v (.mv (.t 76))), none, []⟩])))))) (.seq (.ops 2 [⟨(some 116), (.v (.bsl 0 3 [(.int .i64)] [])), none, []⟩, ⟨(some 117), (.v (.mv (.t 2))), none, []⟩, ⟨(some 118), (.v (.app 1 3 [(.int .i64)] 17592186044416 (.t 116) (.t 117))), none, []⟩, ⟨(some 12), (.v (.mv (.t 118))), none, []⟩]) (.seq (.seq (.ops 0 [⟨(some 13), (.v (.mv (.k (.c (.int .i64 0))))), none, []⟩]) (.block 2 (.loop (.seq (.seq (.ops 0 [⟨(some 119), (.v (.mv (.t 13))), none, []⟩, ⟨(some 120), (.v (.bin .add (.t 119) (.k (.c (.int .i64 1))))), none, []⟩, ⟨(some 121), (.v (.mv (.t 3))), none, []⟩, ⟨(some 122), (.v (.lenS (.t 121))), none, []⟩, ⟨(some 123), (.v (.bin .lss (.t 120) (.t 122))), none, []⟩, ⟨(some 124), (.v (.mv (.t 123))), none, []⟩, ⟨(some 125), (.v (.mv (.t 12))), (some ⟨124, true⟩), [(.t 12)]⟩, ⟨(some 126), (.v (.lenS (.t 125))), (some ⟨124, true⟩), [(.t 125)]⟩, ⟨(some 127), (.v (.bin .gtr (.t 126) (.k (.c (.int .i64 1))))), (some ⟨124, true⟩), [(.t 126), (.k (.c (.int .i64 1)))]⟩, ⟨(some 128), (.v (.pick (.t 124) (.t 127) (.k (.c (.bool false))))), none, []⟩]) (.cond (.t 128) .skip (.exit 2))) (.seq (.block 3 (.seq (.ops 0 [⟨(some 131), (.v (.mv (.t 12))), none, []⟩, ⟨(some 132), (.v (.lenS (.t 131))), none, []⟩, ⟨(some 133), (.v (.bin .sub (.t 132) (.k (.c (.int .i64 1))))), none, []⟩, ⟨(some 14), (.v (.mv (.t 133))), none, []⟩]) (.seq (.any 0 [⟨0, ⟨[], ⟨(some 134), (.v (.mv (.t 3))), none, []⟩⟩⟩, ⟨1, ⟨[], ⟨(some 135), (.v (.mv (.t 13))), none, []⟩⟩⟩, ⟨2, ⟨[0, 1], ⟨(some 136), (.v (.ia 1 (.t 134) (.t 135))), none, []⟩⟩⟩, ⟨3, ⟨[2, 0, 1], ⟨(some 137), (.v (.ld (.t 136))), none, []⟩⟩⟩, ⟨4, ⟨[], ⟨(some 138), (.v (.mv (.t 14))), none, []⟩⟩⟩, ⟨5, ⟨[3, 2, 0, 1, 4], ⟨(some 139), (.v (.bin .rem (.t 137) (.t 138))), none, []⟩⟩⟩, ⟨6, ⟨[], ⟨(some 140), (.v (.mv (.t 14))), none, []⟩⟩⟩, ⟨7, ⟨[5, 3, 2, 0, 1, 4, 6], ⟨(some 141), (.v (.bin .add (.t 139) (.t 140))), none, []⟩⟩⟩, ⟨8, ⟨[], ⟨(some 142), (.v (.mv (.t 14))), none, []⟩⟩⟩, ⟨9, ⟨[7, 5, 3, 2, 0, 1, 4, 6, 8], ⟨(some 143), (.v (.bin .rem (.t 141) (.t 142))), none, []⟩⟩⟩, ⟨10, ⟨[9, 7, 5, 3, 2, 0, 1, 4, 6, 8], ⟨(some 144), (.v (.bin .add (.k (.c (.int .i64 1))) (.t 143))), none, []⟩⟩⟩, ⟨11, ⟨[], ⟨(some 145), (.v (.mv (.t 3))), none, []⟩⟩⟩, ⟨12, ⟨[], ⟨(some 146), (.v (.mv (.t 13))), none, []⟩⟩⟩, ⟨13, ⟨[12], ⟨(some 147), (.v (.bin .add (.t 146) (.k (.c (.int .i64 1))))), none, []⟩⟩⟩, ⟨14, ⟨[11, 13, 12], ⟨(some 148), (.v (.ia 1 (.t 145) (.t 147))), none, []⟩⟩⟩, ⟨15, ⟨[14, 11, 13, 12], ⟨(some 149), (.v (.ld (.t 148))), none, []⟩⟩⟩, ⟨16, ⟨[], ⟨(some 150), (.v (.mv (.t 14))), none, []⟩⟩⟩, ⟨17, ⟨[15, 14, 11, 13, 12, 16], ⟨(some 151), (.v (.bin .rem (.t 149) (.t 150))), none, []⟩⟩⟩, ⟨18, ⟨[], ⟨(some 152), (.v (.mv (.t 14))), none, []⟩⟩⟩, ⟨19, ⟨[17, 15, 14, 11, 13, 12, 16, 18], ⟨(some 153), (.v (.bin .add (.t 151) (.t 152))), none, []⟩⟩⟩, ⟨20, ⟨[], ⟨(some 154), (.v (.mv (.t 14))), none, []⟩⟩⟩, ⟨21, ⟨[19, 17, 15, 14, 11, 13, 12, 16, 18, 20], ⟨(some 155), (.v (.bin .rem (.t 153) (.t 154))), none, []⟩⟩⟩, ⟨22, ⟨[21, 19, 17, 15, 14, 11, 13, 12, 16, 18, 20], ⟨(some 156), (.v (.bin .add (.k (.c (.int .i64 1))) (.t 155))), none, []⟩⟩⟩, ⟨23, ⟨[10, 9, 7, 5, 3, 2, 0, 1, 4, 6, 8], ⟨(some 15), (.v (.mv (.t 144))), none, []⟩⟩⟩, ⟨24, ⟨[22, 21, 19, 17, 15, 14, 11, 13, 12, 16, 18, 20, 23, 10, 9, 7, 5, 3, 2, 0, 1, 4, 6, 8], ⟨(some 16), (.v (.mv (.t 156))), none, []⟩⟩⟩]) (.any 0 [⟨0, ⟨[], ⟨(some 157), (.v (.mv (.t 12))), none, []⟩⟩⟩, ⟨1, ⟨[], ⟨(some 158), (.v (.mv (.t 15))), none, []⟩⟩⟩, ⟨2, ⟨[], ⟨(some 159), (.v (.mv (.t 12))), none, []⟩⟩⟩, ⟨3, ⟨[], ⟨(some 160), (.v (.mv (.t 16))), none, []⟩⟩⟩, ⟨4, ⟨[], ⟨(some 161), (.v (.mv (.t 12))), none, []⟩⟩⟩, ⟨5, ⟨[], ⟨(some 162), (.v (.mv (.t 16))), none, []⟩⟩⟩, ⟨6, ⟨[4, 5], ⟨(some 163), (.v (.ia 1 (.t 161) (.t 162))), none, []⟩⟩⟩, ⟨7, ⟨[6, 4, 5], ⟨(some 164), (.v (.ld (.t 163))), none, []⟩⟩⟩, ⟨8, ⟨[], ⟨(some 165), (.v (.mv (.t 12))), none, []⟩⟩⟩, ⟨9, ⟨[], ⟨(some 166), (.v (.mv (.t 15))), none, []⟩⟩⟩, ⟨10, ⟨[8, 9], ⟨(some 167), (.v (.ia 1 (.t 165) (.t 166))), none, []⟩⟩⟩, ⟨11, ⟨[10, 8, 9], ⟨(some 168), (.v (.ld (.t 167))), none, []⟩⟩⟩, ⟨12, ⟨[0, 1, 7, 6, 4, 5, 11, 10, 8, 9], ⟨(some 169), (.v (.ia 1 (.t 157) (.t 158))), none, []⟩⟩⟩, ⟨13, ⟨[12, 0, 1, 7, 6, 4, 5, 11, 10, 8, 9], ⟨none, (.v (.st 1 (.t 169) (.t 164))), none, []⟩⟩⟩, ⟨14, ⟨[2, 3, 13, 12, 0, 1, 7, 6, 4, 5, 11, 10, 8, 9], ⟨(some 170), (.v (.ia 1 (.t 159) (.t 160))), none, []⟩⟩⟩, ⟨15, ⟨[14, 2, 3, 13, 12, 0, 1, 7, 6, 4, 5, 11, 10, 8, 9], ⟨none, (.v (.st 1 (.t 170) (.t 168))), none, []⟩⟩⟩])))) (.ops 0 [⟨(some 129), (.v (.mv (.t 13))), none, []⟩, ⟨(some 130), (.v (.bin .add (.t 129) (.k (.c (.int .i64 1))))), none, []⟩, ⟨(some 13), (.v (.mv (.t 130))), none, []⟩])))))) (.seq (.seq (.ops 0 [⟨(some 171), (.v (.mv (.t 0))), none, []⟩, ⟨(some 172), (.v (.mv (.t 12))), none, []⟩, ⟨(some 173), (.v (.det 26 [⟨false, [(.int .i64)]⟩] [(.t 171), (.t 172)])), none, []⟩, ⟨(some 174), (.v (.mv (.t 0))), none, []⟩, ⟨(some 175), (.v (.mv (.t 9))), none, []⟩, ⟨(some 176), (.v (.det 26 [⟨false, [(.int .i64)]⟩] [(.t 174), (.t 175)])), none, []⟩, ⟨(some 177), (.v (.bin .lss (.t 173) (.t 176))), none, []⟩]) (.cond (.t 177) (.seq (.ops 0 [⟨(some 8), (.v (.mv (.k (.c (.bool false))))), none, []⟩]) .ret) .skip)) (.seq (.ops 0 [⟨(some 178), (.v (.mv (.t 0))), none, []⟩, ⟨(some 179), (.v (.mv (.t 12))), none, []⟩, ⟨(some 180), (.v (.det 26 [⟨false, [(.int .i64)]⟩] [(.t 178), (.t 179)])), none, []⟩, ⟨(some 181), (.v (.mv (.t 0))), none, []⟩, ⟨(some 182), (.v (.mv (.t 9))), none, []⟩, ⟨(some 183), (.v (.det 26 [⟨false, [(.int .i64)]⟩] [(.t 181), (.t 182)])), none, []⟩, ⟨(some 184), (.v (.bin .gtr (.t 180) (.t 183))), none, []⟩, ⟨(some 185), (.v (.mv (.t 184))), none, []⟩, ⟨(some 186), (.v (.mv (.t 12))), (some ⟨185, false⟩), [(.t 12)]⟩, ⟨(some 187), (.v (.mv (.t 9))), (some ⟨185, false⟩), [(.t 9)]⟩, ⟨(some 188), (.v (.det 27 [⟨false, [.bool]⟩] [(.t 186), (.t 187)])), (some ⟨185, false⟩), [(.k (.fn 27 [])), (.t 186), (.t 187)]⟩, ⟨(some 189), (.v (.un .not (.t 188))), (some ⟨185, false⟩), [(.t 188)]⟩, ⟨(some 190), (.v (.pick (.t 185) (.k (.c (.bool true))) (.t 189))), none, []⟩, ⟨(some 191), (.v (.mv (.t 190))), none, []⟩, ⟨(some 192), (.v (.det 11 [⟨false, [.bool]⟩] [])), (some ⟨191, true⟩), [(.k (.fn 11 []))]⟩, ⟨(some 193), (.v (.pick (.t 191) (.t 192) (.k (.c (.bool false))))), none, []⟩, ⟨(some 8), (.v (.mv (.t 193))), none, []⟩]) .ret)))))))))), 194, [(.t 8)]⟩
theorem h8 : fnR Try.prog DD 8 = some rf8 := by kernel_rfl
/-- papermill papermilllaw31.in -/
def rf25 : RFn := ⟨(.seq (.ops 0 [⟨(some 4), (.v (.mv (.k (.c (.bool false))))), none, []⟩]) (.seq (.seq (.ops 0 [⟨(some 5), (.v (.mv (.k (.c (.int .i64 0))))), none, []⟩]) (.block 0 (.loop (.seq (.seq (.ops 0 [⟨(some 6), (.v (.mv (.t 5))), none, []⟩, ⟨(some 7), (.v (.mv (.t 0))), none, []⟩, ⟨(some 8), (.v (.lenS (.t 7))), none, []⟩, ⟨(some 9), (.v (.bin .lss (.t 6) (.t 8))), none, []⟩]) (.cond (.t 9) .skip (.exit 0))) (.seq (.block 1 (.seq (.ops 0 [⟨(some 12), (.v (.mv (.t 0))), none, []⟩, ⟨(some 13), (.v (.mv (.t 5))), none, []⟩, ⟨(some 14), (.v (.ia 1 (.t 12) (.t 13))), none, []⟩, ⟨(some 15), (.v (.ld (.t 14))), none, []⟩, ⟨(some 16), (.v (.mv (.t 1))), none, []⟩, ⟨(some 17), (.v (.bin .eql (.t 15) (.t 16))), none, []⟩]) (.cond (.t 17) (.seq (.ops 0 [⟨(some 4), (.v (.mv (.k (.c (.bool true))))), none, []⟩]) .ret) .skip))) (.ops 0 [⟨(some 10), (.v (.mv (.t 5))), none, []⟩, ⟨(some 11), (.v (.bin .add (.t 10) (.k (.c (.int .i64 1))))), none, []⟩, ⟨(some 5), (.v (.mv (.t 11))), none, []⟩])))))) (.seq (.ops 0 [⟨(some 4), (.v (.mv (.k (.c (.bool false))))), none, []⟩]) .ret))), 18, [(.t 4)]⟩
theorem h25 : fnR Try.prog DD 25 = some rf25 := by kernel_rfl
/-- papermill papermilllaw31.less -/
def rf27 : RFn := ⟨(.seq (.ops 0 [⟨(some 4), (.v (.mv (.k (.c (.bool false))))), none, []⟩]) (.seq (.seq (.ops 0 [⟨(some 5), (.v (.mv (.k (.c (.int .i64 0))))), none, []⟩]) (.block 0 (.loop (.seq (.seq (.ops 0 [⟨(some 6), (.v (.mv (.t 5))), none, []⟩, ⟨(some 7), (.v (.mv (.t 0))), none, []⟩, ⟨(some 8), (.v (.lenS (.t 7))), none, []⟩, ⟨(some 9), (.v (.bin .lss (.t 6) (.t 8))), none, []⟩, ⟨(some 10), (.v (.mv (.t 9))), none, []⟩, ⟨(some 11), (.v (.mv (.t 5))), (some ⟨10, true⟩), [(.t 5)]⟩, ⟨(some 12), (.v (.mv (.t 1))), (some ⟨10, true⟩), [(.t 1)]⟩, ⟨(some 13), (.v (.lenS (.t 12))), (some ⟨10, true⟩), [(.t 12)]⟩, ⟨(some 14), (.v (.bin .lss (.t 11) (.t 13))), (some ⟨10, true⟩), [(.t 11), (.t 13)]⟩, ⟨(some 15), (.v (.pick (.t 10) (.t 14) (.k (.c (.bool false))))), none, []⟩]) (.cond (.t 15) .skip (.exit 0))) (.seq (.block 1 (.seq (.any 0 [⟨0, ⟨[], ⟨(some 18), (.v (.mv (.t 0))), none, []⟩⟩⟩, ⟨1, ⟨[], ⟨(some 19), (.v (.mv (.t 5))), none, []⟩⟩⟩, ⟨2, ⟨[0, 1], ⟨(some 20), (.v (.ia 1 (.t 18) (.t 19))), none, []⟩⟩⟩, ⟨3, ⟨[2, 0, 1], ⟨(some 21), (.v (.ld (.t 20))), none, []⟩⟩⟩, ⟨4, ⟨[], ⟨(some 22), (.v (.mv (.t 1))), none, []⟩⟩⟩, ⟨5, ⟨[], ⟨(some 23), (.v (.mv (.t 5))), none, []⟩⟩⟩, ⟨6, ⟨[4, 5], ⟨(some 24), (.v (.ia 1 (.t 22) (.t 23))), none, []⟩⟩⟩, ⟨7, ⟨[6, 4, 5], ⟨(some 25), (.v (.ld (.t 24))), none, []⟩⟩⟩, ⟨8, ⟨[3, 2, 0, 1, 7, 6, 4, 5], ⟨(some 26), (.v (.bin .neq (.t 21) (.t 25))), none, []⟩⟩⟩]) (.cond (.t 26) (.seq (.any 0 [⟨0, ⟨[], ⟨(some 27), (.v (.mv (.t 0))), none, []⟩⟩⟩, ⟨1, ⟨[], ⟨(some 28), (.v (.mv (.t 5))), none, []⟩⟩⟩, ⟨2, ⟨[0, 1], ⟨(some 29), (.v (.ia 1 (.t 27) (.t 28))), none, []⟩⟩⟩, ⟨3, ⟨[2, 0, 1], ⟨(some 30), (.v (.ld (.t 29))), none, []⟩⟩⟩, ⟨4, ⟨[], ⟨(some 31), (.v (.mv (.t 1))), none, []⟩⟩⟩, ⟨5, ⟨[], ⟨(some 32), (.v (.mv (.t 5))), none, []⟩⟩⟩, ⟨6, ⟨[4, 5], ⟨(some 33), (.v (.ia 1 (.t 31) (.t 32))), none, []⟩⟩⟩, ⟨7, ⟨[6, 4, 5], ⟨(some 34), (.v (.ld (.t 33))), none, []⟩⟩⟩, ⟨8, ⟨[3, 2, 0, 1, 7, 6, 4, 5], ⟨(some 35), (.v (.bin .lss (.t 30) (.t 34))), none, []⟩⟩⟩, ⟨9, ⟨[8, 3, 2, 0, 1, 7, 6, 4, 5], ⟨(some 4), (.v (.mv (.t 35))), none, []⟩⟩⟩]) .ret) .skip))) (.ops 0 [⟨(some 16), (.v (.mv (.t 5))), none, []⟩, ⟨(some 17), (.v (.bin .add (.t 16) (.k (.c (.int .i64 1))))), none, []⟩, ⟨(some 5), (.v (.mv (.t 17))), none, []⟩])))))) (.seq (.ops 0 [⟨(some 4), (.v (.mv (.k (.c (.bool false))))), none, []⟩]) .ret))), 36, [(.t 4)]⟩
theorem h27 : fnR Try.prog DD 27 = some rf27 := by kernel_rfl
def vc43N (E : Env) (nR : Nat) (x1 : List (List C)) (x2 : Int) (x3 : List (List C)) (x4 : Int) (x5 : Int) (x7 : Int) (x8 : List (List C)) (Q0 : (List (List C)) → (List (List C)) → (Int) → Prop) : Prop :=
  ((E.bite false (E.le x7 x5) false) = false) ∧ 
  (Br (E.eq x4 0)
  (spCloneK (x1) (0) (x2) (fun (l4 : List (List C)) => 
    Q0 (x1) (l4) (x5)))
  (LoopQ4 (fun (K10 : (List (List C)) → (List (List C)) → (Int) → (Int) → Prop) =>
    ((E.lt 0 x4) = true) ∧ 
      (((E.le 0 0) = true) ∧ 
      (spCloneK (x3) (0) (x4) (fun (l11 : List (List C)) => 
      spDelete (l11) ((l11.length : Int)) (0) ((E.add .i64 0 1)) (fun (l12 : List (List C)) (i13 : Int) => 
        ((E.le 0 (E.sub .i64 x2 1)) = true) ∧ ((E.lt (E.sub .i64 x2 1) x2) = true) ∧ 
          (((E.le 0 (E.gi (E.cell x1 (E.pl 0 (E.sub .i64 x2 1)) 0))) = true) ∧ ((E.lt (E.gi (E.cell x1 (E.pl 0 (E.sub .i64 x2 1)) 0)) (E.len x8)) = true) ∧ 
          (((E.le 0 (E.gi (E.cell x3 (E.pl 0 0) 0))) = true) ∧ ((E.lt (E.gi (E.cell x3 (E.pl 0 0) 0)) (E.len x8)) = true) ∧ 
          ((E.pok 34 [(false, [.int .u64])] [.c (.int .i64 (E.gi (E.cell x8 (E.gi (E.cell x1 (E.pl 0 (E.sub .i64 x2 1)) 0)) 1))), .c (.int .i64 (E.gi (E.cell x8 (E.gi (E.cell x3 (E.pl 0 0) 0)) 1)))]) ∧ (∀ r14 : Nat → C, r14 = E.res 34 [.c (.int .i64 (E.gi (E.cell x8 (E.gi (E.cell x1 (E.pl 0 (E.sub .i64 x2 1)) 0)) 1))), .c (.int .i64 (E.gi (E.cell x8 (E.gi (E.cell x3 (E.pl 0 0) 0)) 1)))] → 
          (((E.le (E.pl (E.pl 0 x2) (E.len [[.int .i64 (E.gi (E.cell x3 (E.pl 0 0) 0))]])) (E.len x1)) = true) ∧ 
          (spRN nR ((E.cat (E.cut x1 0 (E.pl 0 x2)) (E.cat [[.int .i64 (E.gi (E.cell x3 (E.pl 0 0) 0))]] (E.cut x1 (E.pl (E.pl 0 x2) (E.len [[.int .i64 (E.gi (E.cell x3 (E.pl 0 0) 0))]])) (E.len x1))))) ((E.pl x2 (E.len [[.int .i64 (E.gi (E.cell x3 (E.pl 0 0) 0))]]))) (l12) (i13) ((E.add .i64 x5 (E.wrap .i64 (E.gi (r14 0))))) (x7) (x8) (fun (l15 : List (List C)) (l16 : List (List C)) (i17 : Int) => 
          K10 (l15) (l16) (i17) ((E.add .i64 0 1))))))))))))))
    (fun (l5 : List (List C)) (l6 : List (List C)) (i7 : Int) (i8 : Int) (K9 : (List (List C)) → (List (List C)) → (Int) → (Int) → Prop) =>
    Br (E.lt i8 x4)
      (((E.le 0 i8) = true) ∧ 
        (spCloneK (x3) (0) (x4) (fun (l18 : List (List C)) => 
        spDelete (l18) ((l18.length : Int)) (i8) ((E.add .i64 i8 1)) (fun (l19 : List (List C)) (i20 : Int) => 
          ((E.le 0 (E.sub .i64 x2 1)) = true) ∧ ((E.lt (E.sub .i64 x2 1) x2) = true) ∧ 
            (((E.le 0 (E.gi (E.cell l5 (E.pl 0 (E.sub .i64 x2 1)) 0))) = true) ∧ ((E.lt (E.gi (E.cell l5 (E.pl 0 (E.sub .i64 x2 1)) 0)) (E.len x8)) = true) ∧ 
            (((E.le 0 (E.gi (E.cell x3 (E.pl 0 i8) 0))) = true) ∧ ((E.lt (E.gi (E.cell x3 (E.pl 0 i8) 0)) (E.len x8)) = true) ∧ 
            ((E.pok 34 [(false, [.int .u64])] [.c (.int .i64 (E.gi (E.cell x8 (E.gi (E.cell l5 (E.pl 0 (E.sub .i64 x2 1)) 0)) 1))), .c (.int .i64 (E.gi (E.cell x8 (E.gi (E.cell x3 (E.pl 0 i8) 0)) 1)))]) ∧ (∀ r21 : Nat → C, r21 = E.res 34 [.c (.int .i64 (E.gi (E.cell x8 (E.gi (E.cell l5 (E.pl 0 (E.sub .i64 x2 1)) 0)) 1))), .c (.int .i64 (E.gi (E.cell x8 (E.gi (E.cell x3 (E.pl 0 i8) 0)) 1)))] → 
            (((E.le (E.pl (E.pl 0 x2) (E.len [[.int .i64 (E.gi (E.cell x3 (E.pl 0 i8) 0))]])) (E.len l5)) = true) ∧ 
            (spRG nR ((E.cat (E.cut l5 0 (E.pl 0 x2)) (E.cat [[.int .i64 (E.gi (E.cell x3 (E.pl 0 i8) 0))]] (E.cut l5 (E.pl (E.pl 0 x2) (E.len [[.int .i64 (E.gi (E.cell x3 (E.pl 0 i8) 0))]])) (E.len l5))))) ((E.pl x2 (E.len [[.int .i64 (E.gi (E.cell x3 (E.pl 0 i8) 0))]]))) (l19) (i20) ((E.add .i64 x5 (E.wrap .i64 (E.gi (r21 0))))) (l6) (i7) (x8) (fun (l22 : List (List C)) (l23 : List (List C)) (i24 : Int) => 
            K9 (l22) (l23) (i24) ((E.add .i64 i8 1)))))))))))))
      (Q0 (l5) (l6) (i7)))))
theorem w43N {P : Program} {tbl : FuncId → List A → List C} {nR : Nat} {x1 : List (List C)} {x2 : Int} {x3 : List (List C)} {x4 : Int} {x5 : Int} {x7 : Int} {x8 : List (List C)} (ce38 : CloneCO 3 [.int .i64] P 38) (ce43 : RouteC nR P 43) (ce44 : DeleteC 3 [.int .i64] P 44) {Q0 : (List (List C)) → (List (List C)) → (Int) → Prop} (h : vc43N (stdE P tbl) nR x1 x2 x3 x4 x5 x7 x8 Q0) : WEg P tbl rf43 (fun r H' => (∃ l1 : List (List C), ∃ l2 : List (List C), ∃ i3 : Int, Q0 l1 l2 i3 ∧ r = .tup [] ∧ H' = [.arr 3 [.int .i64] l1, .arr 3 [.int .i64] x3, .box 31 [.c (.sl [.int .i64] l2)], .box 3 [.c (.int .i64 i3)], .box 22 [.c (.sl [.str, .int .i64, .int .i64, .int .i64, .int .i64, .int .i64, .sl [.int .i64], .int .i64] x8)], .box 61 [.fn 43 [.ptr 2 0, .ptr 3 0, .ptr 4 0, .ptr 5 0]]])) [.own 0 0 x2, .own 1 0 x4, .c (.int .i64 x5), .ptr 2 0, .ptr 3 0, .ptr 4 0, .ptr 5 0] [.arr 3 [.int .i64] x1, .arr 3 [.int .i64] x3, .box 31 [.c (.nil)], .box 3 [.c (.int .i64 x7)], .box 22 [.c (.sl [.str, .int .i64, .int .i64, .int .i64, .int .i64, .int .i64, .sl [.int .i64], .int .i64] x8)], .box 61 [.fn 43 [.ptr 2 0, .ptr 3 0, .ptr 4 0, .ptr 5 0]]] := by
  refine ⟨?_⟩
  revert h
  generalize hE : stdE P tbl = E
  intro h
  unfold vc43N at h
  cbv
  refine ⟨⟨fun hh => hh⟩, ?_⟩
  refine ⟨⟨fun hh => hh⟩, ?_⟩
  refine ⟨⟨fun hh => hh⟩, ?_⟩
  have hb25 := h.1
  refine ⟨fun hb => absurd (hb25.symm.trans hb) Bool.false_ne_true, fun _ => ?_⟩
  replace h := h.2
  refine ⟨fun hb26 => ?_, fun hb26 => ?_⟩
  · replace h := h.t hb26
    refine HCall.mk ce38.2.1 ((ACalls.frame (ce38.2.2 3 _ _ _ _ h) (H := _) (tgt := [0]) rfl (by decide) ?_).mono fun r H' hq => ?_)
    · intro i o ho
      match i, ho with
      | 0, ho => cases ho; rfl
    obtain ⟨r1, H1', ⟨l4, h, rfl, rfl⟩, _, rfl, rfl⟩ := hq
    cbv
    refine ⟨_, _, GFin.of (GSt.trans (s' := (⟨[.tup []], [.arr 3 [.int .i64] x1, .arr 3 [.int .i64] x3, .box 31 [.c (.sl [.int .i64] l4)], .box 3 [.c (.int .i64 x5)], .box 22 [.c (.sl [.str, .int .i64, .int .i64, .int .i64, .int .i64, .int .i64, .sl [.int .i64], .int .i64] x8)], .box 61 [.fn 43 [.ptr 2 0, .ptr 3 0, .ptr 4 0, .ptr 5 0]], .frz [.int .i64] l4]⟩ : St)) (GSt.datBox 2 0 6 (Tb := 31) (T := 3) (cs := [.gr 6]) (lay := [.int .i64]) (xs := l4) rfl rfl rfl) (GSt.ren [0, 1, 2, 3, 4, 5] rfl rfl rfl (by decide) (Nat.le_add_left _ _) ?_ ?_)), ⟨_, _, _, h, rfl, rfl⟩⟩
    all_goals (repeat' (first | exact trivial | exact Or.inl rfl | exact Or.inr rfl | refine And.intro ?_ ?_))
  · replace h := h.f hb26
    obtain ⟨I, μ, N0, h0, hI⟩ := h
    refine LoopW.invq (fun R R' s h k => RCode.wp_mono _ R R' s h k) (fun p : List (List C) × List (List C) × Int × Int => (fun (l5 : List (List C)) (l6 : List (List C)) (i7 : Int) (i8 : Int) => (⟨[.own 0 0 x2, .own 1 0 x4, .c (.int .i64 x5), .u, .u, .ptr 4 0, .ptr 5 0, .u, .u, .u, .u, .u, .u, .u, .u, .u, .u, .u, .u, .u, .u, .u, .u, .u, .u, .u, .u, .own 1 0 x4, .c (.int .i64 x4), .c (.int .i64 i8), .u, .u, .u, .u, .u, .u, .u, .u, .u, .u, .u, .u, .u, .u, .u, .u, .u, .u, .u, .u, .u, .u, .u, .u, .u, .u, .u, .u, .u, .u, .u, .u, .u, .u, .u, .u, .u, .u], [.arr 3 [.int .i64] l5, .arr 3 [.int .i64] x3, .box 31 [.c (.sl [.int .i64] l6)], .box 3 [.c (.int .i64 i7)], .box 22 [.c (.sl [.str, .int .i64, .int .i64, .int .i64, .int .i64, .int .i64, .sl [.int .i64], .int .i64] x8)], .box 61 [.fn 43 [.ptr 2 0, .ptr 3 0, .ptr 4 0, .ptr 5 0]]]⟩ : St)) p.1 p.2.1 p.2.2.1 p.2.2.2) (fun p => I p.1 p.2.1 p.2.2.1 p.2.2.2) (fun p => μ p.1 p.2.1 p.2.2.1 p.2.2.2) N0 ?_ ?_
    · replace h := h0
      cbv
      have hb27 := h.1
      refine ⟨fun _ => ?_, fun hb => absurd (hb.symm.trans hb27) Bool.false_ne_true⟩
      replace h := h.2
      have c28 := h.1
      refine ⟨c28, ?_⟩
      replace h := h.2
      refine ⟨hb27, ?_⟩
      refine HCall.mk ce38.2.1 ((ACalls.frame (ce38.2.2 3 _ _ _ _ h) (H := _) (tgt := [1]) rfl (by decide) ?_).mono fun r H' hq => ?_)
      · intro i o ho
        match i, ho with
        | 0, ho => cases ho; rfl
      obtain ⟨r1, H1', ⟨l11, h, rfl, rfl⟩, _, rfl, rfl⟩ := hq
      cbv
      refine HCall.mk ce44.1 ((ACalls.frame (ACalls.gr (ce44.2 _ _ _ _ _ h)) (H := _) (tgt := [6]) rfl (by decide) ?_).mono fun r H' hq => ?_)
      · intro i o ho
        match i, ho with
        | 0, ho => cases ho; rfl
      obtain ⟨r1, H1', ⟨l12, i13, h, rfl, rfl⟩, _, rfl, rfl⟩ := hq
      cbv
      have c29 := h.1
      refine ⟨c29, ?_⟩
      replace h := h.2
      have c30 := h.1
      refine ⟨c30, ?_⟩
      replace h := h.2
      have c31 := h.1
      refine ⟨c31, ?_⟩
      replace h := h.2
      have c32 := h.1
      refine ⟨c32, ?_⟩
      replace h := h.2
      have c33 := h.1
      refine ⟨c33, ?_⟩
      replace h := h.2
      have c34 := h.1
      refine ⟨c34, ?_⟩
      replace h := h.2
      have c35 := h.1
      refine ⟨c35, ?_⟩
      replace h := h.2 _ rfl
      have c36 := h.1
      refine ⟨c36, ?_⟩
      replace h := h.2
      refine HCall.mk ce43.1 ((ACalls.frame (ce43.2.1 _ _ _ _ _ _ _ _ h) (H := _) (tgt := [0, 6, 2, 3, 4, 5]) rfl (by decide) ?_).mono fun r H' hq => ?_)
      · intro i o ho
        match i, ho with
        | 0, ho => cases ho; rfl
        | 1, ho => cases ho; rfl
        | 2, ho => cases ho; rfl
        | 3, ho => cases ho; rfl
        | 4, ho => cases ho; rfl
        | 5, ho => cases ho; rfl
      obtain ⟨r1, H1', ⟨l15, l16, i17, h, rfl, rfl⟩, _, rfl, rfl⟩ := hq
      cbv
      refine ⟨(_, _, _, _), h.1, GSt.ren [0, 1, 2, 3, 4, 5] rfl rfl rfl (by decide) (Nat.le_add_left _ _) ?_ ?_, h.2⟩
      all_goals (repeat' (first | exact trivial | exact Or.inl rfl | exact Or.inr rfl | refine And.intro ?_ ?_))
    · rintro ⟨l5, l6, i7, i8⟩ h
      replace h := hI l5 l6 i7 i8 h
      cbv
      refine ⟨fun hb37 => ?_, fun hb37 => ?_⟩
      · replace h := h.t hb37
        have c38 := h.1
        refine ⟨c38, ?_⟩
        replace h := h.2
        refine ⟨hb37, ?_⟩
        refine HCall.mk ce38.2.1 ((ACalls.frame (ce38.2.2 3 _ _ _ _ h) (H := _) (tgt := [1]) rfl (by decide) ?_).mono fun r H' hq => ?_)
        · intro i o ho
          match i, ho with
          | 0, ho => cases ho; rfl
        obtain ⟨r1, H1', ⟨l18, h, rfl, rfl⟩, _, rfl, rfl⟩ := hq
        cbv
        refine HCall.mk ce44.1 ((ACalls.frame (ACalls.gr (ce44.2 _ _ _ _ _ h)) (H := _) (tgt := [6]) rfl (by decide) ?_).mono fun r H' hq => ?_)
        · intro i o ho
          match i, ho with
          | 0, ho => cases ho; rfl
        obtain ⟨r1, H1', ⟨l19, i20, h, rfl, rfl⟩, _, rfl, rfl⟩ := hq
        cbv
        have c39 := h.1
        refine ⟨c39, ?_⟩
        replace h := h.2
        have c40 := h.1
        refine ⟨c40, ?_⟩
        replace h := h.2
        have c41 := h.1
        refine ⟨c41, ?_⟩
        replace h := h.2
        have c42 := h.1
        refine ⟨c42, ?_⟩
        replace h := h.2
        have c43 := h.1
        refine ⟨c43, ?_⟩
        replace h := h.2
        have c44 := h.1
        refine ⟨c44, ?_⟩
        replace h := h.2
        have c45 := h.1
        refine ⟨c45, ?_⟩
        replace h := h.2 _ rfl
        have c46 := h.1
        refine ⟨c46, ?_⟩
        replace h := h.2
        refine HCall.mk ce43.1 ((ACalls.frame (ce43.2.2 _ _ _ _ _ _ _ _ _ h) (H := _) (tgt := [0, 6, 2, 3, 4, 5]) rfl (by decide) ?_).mono fun r H' hq => ?_)
        · intro i o ho
          match i, ho with
          | 0, ho => cases ho; rfl
          | 1, ho => cases ho; rfl
          | 2, ho => cases ho; rfl
          | 3, ho => cases ho; rfl
          | 4, ho => cases ho; rfl
          | 5, ho => cases ho; rfl
        obtain ⟨r1, H1', ⟨l22, l23, i24, h, rfl, rfl⟩, _, rfl, rfl⟩ := hq
        cbv
        refine ⟨(_, _, _, _), h.1, GSt.ren [0, 1, 2, 3, 4, 5] rfl rfl rfl (by decide) (Nat.le_add_left _ _) ?_ ?_, h.2⟩
        all_goals (repeat' (first | exact trivial | exact Or.inl rfl | exact Or.inr rfl | refine And.intro ?_ ?_))
      · replace h := h.f hb37
        refine ⟨_, _, GFin.of (GSt.ren [0, 1, 2, 3, 4, 5] rfl rfl rfl (by decide) (Nat.le_add_left _ _) ?_ ?_), ⟨_, _, _, h, rfl, rfl⟩⟩
        all_goals (repeat' (first | exact trivial | exact Or.inl rfl | exact Or.inr rfl | refine And.intro ?_ ?_))
def vc43G (E : Env) (nR : Nat) (x1 : List (List C)) (x2 : Int) (x3 : List (List C)) (x4 : Int) (x5 : Int) (x6 : List (List C)) (x7 : Int) (x8 : List (List C)) (Q0 : (List (List C)) → (List (List C)) → (Int) → Prop) : Prop :=
  ∀ b4 : Bool, (b4 = true → x6 = []) → 
  (Br (E.bite (!b4) (E.le x7 x5) false)
  (Q0 (x1) (x6) (x7))
  (Br (E.eq x4 0)
    (spCloneK (x1) (0) (x2) (fun (l5 : List (List C)) => 
      Q0 (x1) (l5) (x5)))
    (LoopP4 (fun (l6 : List (List C)) (l7 : List (List C)) (i8 : Int) (i9 : Int) (K10 : (List (List C)) → (List (List C)) → (Int) → (Int) → Prop) =>
      Br (E.lt i9 x4)
        (((E.le 0 i9) = true) ∧ 
          (spCloneK (x3) (0) (x4) (fun (l11 : List (List C)) => 
          spDelete (l11) ((l11.length : Int)) (i9) ((E.add .i64 i9 1)) (fun (l12 : List (List C)) (i13 : Int) => 
            ((E.le 0 (E.sub .i64 x2 1)) = true) ∧ ((E.lt (E.sub .i64 x2 1) x2) = true) ∧ 
              (((E.le 0 (E.gi (E.cell l6 (E.pl 0 (E.sub .i64 x2 1)) 0))) = true) ∧ ((E.lt (E.gi (E.cell l6 (E.pl 0 (E.sub .i64 x2 1)) 0)) (E.len x8)) = true) ∧ 
              (((E.le 0 (E.gi (E.cell x3 (E.pl 0 i9) 0))) = true) ∧ ((E.lt (E.gi (E.cell x3 (E.pl 0 i9) 0)) (E.len x8)) = true) ∧ 
              ((E.pok 34 [(false, [.int .u64])] [.c (.int .i64 (E.gi (E.cell x8 (E.gi (E.cell l6 (E.pl 0 (E.sub .i64 x2 1)) 0)) 1))), .c (.int .i64 (E.gi (E.cell x8 (E.gi (E.cell x3 (E.pl 0 i9) 0)) 1)))]) ∧ (∀ r14 : Nat → C, r14 = E.res 34 [.c (.int .i64 (E.gi (E.cell x8 (E.gi (E.cell l6 (E.pl 0 (E.sub .i64 x2 1)) 0)) 1))), .c (.int .i64 (E.gi (E.cell x8 (E.gi (E.cell x3 (E.pl 0 i9) 0)) 1)))] → 
              (((E.le (E.pl (E.pl 0 x2) (E.len [[.int .i64 (E.gi (E.cell x3 (E.pl 0 i9) 0))]])) (E.len l6)) = true) ∧ 
              (spRG nR ((E.cat (E.cut l6 0 (E.pl 0 x2)) (E.cat [[.int .i64 (E.gi (E.cell x3 (E.pl 0 i9) 0))]] (E.cut l6 (E.pl (E.pl 0 x2) (E.len [[.int .i64 (E.gi (E.cell x3 (E.pl 0 i9) 0))]])) (E.len l6))))) ((E.pl x2 (E.len [[.int .i64 (E.gi (E.cell x3 (E.pl 0 i9) 0))]]))) (l12) (i13) ((E.add .i64 x5 (E.wrap .i64 (E.gi (r14 0))))) (l7) (i8) (x8) (fun (l15 : List (List C)) (l16 : List (List C)) (i17 : Int) => 
              K10 (l15) (l16) (i17) ((E.add .i64 i9 1)))))))))))))
        (Q0 (l6) (l7) (i8)))
      (x1) (x6) (x7) (0))))
theorem w43G {P : Program} {tbl : FuncId → List A → List C} {nR : Nat} {x1 : List (List C)} {x2 : Int} {x3 : List (List C)} {x4 : Int} {x5 : Int} {x6 : List (List C)} {x7 : Int} {x8 : List (List C)} (ce38 : CloneCO 3 [.int .i64] P 38) (ce43 : RouteC nR P 43) (ce44 : DeleteC 3 [.int .i64] P 44) {Q0 : (List (List C)) → (List (List C)) → (Int) → Prop} (h : vc43G (stdE P tbl) nR x1 x2 x3 x4 x5 x6 x7 x8 Q0) : WEg P tbl rf43 (fun r H' => (∃ l1 : List (List C), ∃ l2 : List (List C), ∃ i3 : Int, Q0 l1 l2 i3 ∧ r = .tup [] ∧ H' = [.arr 3 [.int .i64] l1, .arr 3 [.int .i64] x3, .box 31 [.c (.sl [.int .i64] l2)], .box 3 [.c (.int .i64 i3)], .box 22 [.c (.sl [.str, .int .i64, .int .i64, .int .i64, .int .i64, .int .i64, .sl [.int .i64], .int .i64] x8)], .box 61 [.fn 43 [.ptr 2 0, .ptr 3 0, .ptr 4 0, .ptr 5 0]]])) [.own 0 0 x2, .own 1 0 x4, .c (.int .i64 x5), .ptr 2 0, .ptr 3 0, .ptr 4 0, .ptr 5 0] [.arr 3 [.int .i64] x1, .arr 3 [.int .i64] x3, .box 31 [.c (.sl [.int .i64] x6)], .box 3 [.c (.int .i64 x7)], .box 22 [.c (.sl [.str, .int .i64, .int .i64, .int .i64, .int .i64, .int .i64, .sl [.int .i64], .int .i64] x8)], .box 61 [.fn 43 [.ptr 2 0, .ptr 3 0, .ptr 4 0, .ptr 5 0]]] := by
  refine ⟨?_⟩
  revert h
  generalize hE : stdE P tbl = E
  intro h
  unfold vc43G at h
  cbv
  refine ⟨fun b hb => ?_⟩
  replace h := h b hb
  cbv
  refine ⟨⟨fun hh => hh⟩, ?_⟩
  refine ⟨⟨fun hh => hh⟩, ?_⟩
  refine ⟨⟨fun hh => hh⟩, ?_⟩
  refine ⟨fun hb18 => ?_, fun hb18 => ?_⟩
  · replace h := h.t hb18
    refine ⟨_, _, GFin.of (GSt.ren [0, 1, 2, 3, 4, 5] rfl rfl rfl (by decide) (Nat.le_add_left _ _) ?_ ?_), ⟨_, _, _, h, rfl, rfl⟩⟩
    all_goals (repeat' (first | exact trivial | exact Or.inl rfl | exact Or.inr rfl | refine And.intro ?_ ?_))
  · replace h := h.f hb18
    refine ⟨fun hb19 => ?_, fun hb19 => ?_⟩
    · replace h := h.t hb19
      refine HCall.mk ce38.2.1 ((ACalls.frame (ce38.2.2 3 _ _ _ _ h) (H := _) (tgt := [0]) rfl (by decide) ?_).mono fun r H' hq => ?_)
      · intro i o ho
        match i, ho with
        | 0, ho => cases ho; rfl
      obtain ⟨r1, H1', ⟨l5, h, rfl, rfl⟩, _, rfl, rfl⟩ := hq
      cbv
      refine ⟨_, _, GFin.of (GSt.trans (s' := (⟨[.tup []], [.arr 3 [.int .i64] x1, .arr 3 [.int .i64] x3, .box 31 [.c (.sl [.int .i64] l5)], .box 3 [.c (.int .i64 x5)], .box 22 [.c (.sl [.str, .int .i64, .int .i64, .int .i64, .int .i64, .int .i64, .sl [.int .i64], .int .i64] x8)], .box 61 [.fn 43 [.ptr 2 0, .ptr 3 0, .ptr 4 0, .ptr 5 0]], .frz [.int .i64] l5]⟩ : St)) (GSt.datBox 2 0 6 (Tb := 31) (T := 3) (cs := [.gr 6]) (lay := [.int .i64]) (xs := l5) rfl rfl rfl) (GSt.ren [0, 1, 2, 3, 4, 5] rfl rfl rfl (by decide) (Nat.le_add_left _ _) ?_ ?_)), ⟨_, _, _, h, rfl, rfl⟩⟩
      all_goals (repeat' (first | exact trivial | exact Or.inl rfl | exact Or.inr rfl | refine And.intro ?_ ?_))
    · replace h := h.f hb19
      obtain ⟨I, μ, h0, hI⟩ := h
      refine LoopW.inv (fun R R' s h k => RCode.wp_mono _ R R' s h k) (fun p : List (List C) × List (List C) × Int × Int => (fun (l6 : List (List C)) (l7 : List (List C)) (i8 : Int) (i9 : Int) => (⟨[.own 0 0 x2, .own 1 0 x4, .c (.int .i64 x5), .u, .u, .ptr 4 0, .ptr 5 0, .u, .u, .u, .u, .u, .u, .u, .u, .u, .u, .u, .u, .u, .u, .u, .u, .u, .u, .u, .u, .own 1 0 x4, .c (.int .i64 x4), .c (.int .i64 i9), .u, .u, .u, .u, .u, .u, .u, .u, .u, .u, .u, .u, .u, .u, .u, .u, .u, .u, .u, .u, .u, .u, .u, .u, .u, .u, .u, .u, .u, .u, .u, .u, .u, .u, .u, .u, .u, .u], [.arr 3 [.int .i64] l6, .arr 3 [.int .i64] x3, .box 31 [.c (.sl [.int .i64] l7)], .box 3 [.c (.int .i64 i8)], .box 22 [.c (.sl [.str, .int .i64, .int .i64, .int .i64, .int .i64, .int .i64, .sl [.int .i64], .int .i64] x8)], .box 61 [.fn 43 [.ptr 2 0, .ptr 3 0, .ptr 4 0, .ptr 5 0]]]⟩ : St)) p.1 p.2.1 p.2.2.1 p.2.2.2) (fun p => I p.1 p.2.1 p.2.2.1 p.2.2.2) (fun p => μ p.1 p.2.1 p.2.2.1 p.2.2.2) (_, _, _, _) h0 ?_ ?_
      · refine GSt.ren [0, 1, 2, 3, 4, 5] rfl rfl rfl (by decide) (Nat.le_add_left _ _) ?_ ?_
        all_goals (repeat' (first | exact trivial | exact Or.inl rfl | exact Or.inr rfl | refine And.intro ?_ ?_))
      · rintro ⟨l6, l7, i8, i9⟩ h
        replace h := hI l6 l7 i8 i9 h
        cbv
        refine ⟨fun hb20 => ?_, fun hb20 => ?_⟩
        · replace h := h.t hb20
          have c21 := h.1
          refine ⟨c21, ?_⟩
          replace h := h.2
          refine ⟨hb20, ?_⟩
          refine HCall.mk ce38.2.1 ((ACalls.frame (ce38.2.2 3 _ _ _ _ h) (H := _) (tgt := [1]) rfl (by decide) ?_).mono fun r H' hq => ?_)
          · intro i o ho
            match i, ho with
            | 0, ho => cases ho; rfl
          obtain ⟨r1, H1', ⟨l11, h, rfl, rfl⟩, _, rfl, rfl⟩ := hq
          cbv
          refine HCall.mk ce44.1 ((ACalls.frame (ACalls.gr (ce44.2 _ _ _ _ _ h)) (H := _) (tgt := [6]) rfl (by decide) ?_).mono fun r H' hq => ?_)
          · intro i o ho
            match i, ho with
            | 0, ho => cases ho; rfl
          obtain ⟨r1, H1', ⟨l12, i13, h, rfl, rfl⟩, _, rfl, rfl⟩ := hq
          cbv
          have c22 := h.1
          refine ⟨c22, ?_⟩
          replace h := h.2
          have c23 := h.1
          refine ⟨c23, ?_⟩
          replace h := h.2
          have c24 := h.1
          refine ⟨c24, ?_⟩
          replace h := h.2
          have c25 := h.1
          refine ⟨c25, ?_⟩
          replace h := h.2
          have c26 := h.1
          refine ⟨c26, ?_⟩
          replace h := h.2
          have c27 := h.1
          refine ⟨c27, ?_⟩
          replace h := h.2
          have c28 := h.1
          refine ⟨c28, ?_⟩
          replace h := h.2 _ rfl
          have c29 := h.1
          refine ⟨c29, ?_⟩
          replace h := h.2
          refine HCall.mk ce43.1 ((ACalls.frame (ce43.2.2 _ _ _ _ _ _ _ _ _ h) (H := _) (tgt := [0, 6, 2, 3, 4, 5]) rfl (by decide) ?_).mono fun r H' hq => ?_)
          · intro i o ho
            match i, ho with
            | 0, ho => cases ho; rfl
            | 1, ho => cases ho; rfl
            | 2, ho => cases ho; rfl
            | 3, ho => cases ho; rfl
            | 4, ho => cases ho; rfl
            | 5, ho => cases ho; rfl
          obtain ⟨r1, H1', ⟨l15, l16, i17, h, rfl, rfl⟩, _, rfl, rfl⟩ := hq
          cbv
          refine ⟨(_, _, _, _), h.1, GSt.ren [0, 1, 2, 3, 4, 5] rfl rfl rfl (by decide) (Nat.le_add_left _ _) ?_ ?_, h.2⟩
          all_goals (repeat' (first | exact trivial | exact Or.inl rfl | exact Or.inr rfl | refine And.intro ?_ ?_))
        · replace h := h.f hb20
          refine ⟨_, _, GFin.of (GSt.ren [0, 1, 2, 3, 4, 5] rfl rfl rfl (by decide) (Nat.le_add_left _ _) ?_ ?_), ⟨_, _, _, h, rfl, rfl⟩⟩
          all_goals (repeat' (first | exact trivial | exact Or.inl rfl | exact Or.inr rfl | refine And.intro ?_ ?_))
def vc22 (E : Env) (x1 : List (List C)) (x2 : Int) (x3 : List (List C)) (Q : List C → Prop) : Prop :=
  (E.pok 12 [(false, [.int .i64])] [.c (.sl [.str, .int .i64, .int .i64, .int .i64, .int .i64, .int .i64, .sl [.int .i64], .int .i64] x1), .c (.int .i64 x2)]) ∧ (∀ r4 : Nat → C, r4 = E.res 12 [.c (.sl [.str, .int .i64, .int .i64, .int .i64, .int .i64, .int .i64, .sl [.int .i64], .int .i64] x1), .c (.int .i64 x2)] → 
  (Br (E.not (E.eq (E.gi (r4 0)) 0))
  (Q [.sl [.int .i64] [], .int .i64 (E.gi (r4 0))])
  (Br (E.lt 8 (E.len x3))
    (Q [.sl [.int .i64] [], .int .i64 8])
    (LoopP1 (fun (i5 : Int) (K6 : (Int) → Prop) =>
      Br (E.lt i5 (E.len x3))
        (((E.le 0 i5) = true) ∧ 
          (Br (E.bite (E.lt (E.gi (E.cell x3 i5 0)) 0) true (E.le (E.len x1) (E.gi (E.cell x3 i5 0))))
          (Q [.sl [.int .i64] [], .int .i64 7])
          (K6 ((E.add .i64 i5 1)))))
        (spClone (x3) (
          spSort (x3) (fun (l7 : List (List C)) => 
            spCloneK (l7) (0) ((l7.length : Int)) (fun (l8 : List (List C)) => 
              spCompact (l8) (fun (l9 : List (List C)) (i10 : Int) => 
                Br (E.not (E.eq i10 (E.len x3)))
                  (Q [.sl [.int .i64] [], .int .i64 6])
                  (Br (E.eq (E.len x3) 0)
                    (Q [.sl [.int .i64] [], .int .i64 0])
                    (((E.le 0 0) = true) ∧ ((E.lt 0 (E.len x3)) = true) ∧ 
                      (spDelFunc (l7) ((E.gi (E.cell x3 0 0))) (fun (l11 : List (List C)) (i12 : Int) => 
                      ((E.le 0 8) = true) ∧ ((E.le 8 17592186044416) = true) ∧ 
                        (((E.le (E.pl (E.pl 0 0) (E.len [[.int .i64 (E.gi (E.cell x3 0 0))]])) (E.len (E.rep 8 [.int .i64 0]))) = true) ∧ 
                        (spRN 9 ((E.cat (E.cut (E.rep 8 [.int .i64 0]) 0 (E.pl 0 0)) (E.cat [[.int .i64 (E.gi (E.cell x3 0 0))]] (E.cut (E.rep 8 [.int .i64 0]) (E.pl (E.pl 0 0) (E.len [[.int .i64 (E.gi (E.cell x3 0 0))]])) (E.len (E.rep 8 [.int .i64 0])))))) ((E.pl 0 (E.len [[.int .i64 (E.gi (E.cell x3 0 0))]]))) (l11) (i12) (0) (0) (x1) (fun (l13 : List (List C)) (l14 : List (List C)) (i15 : Int) => 
                        Q [.sl [.int .i64] l14, .int .i64 0])))))))))))))
      (0)))))
theorem w22 {P : Program} {tbl : FuncId → List A → List C} (ce38 : CloneCO 3 [.int .i64] P 38) (ce39 : OnArr spSort [.int .i64] P 39) (ce40 : CompactC 3 [.int .i64] P 40) (ce41 : DelFuncC 3 42 P 41) (ce43 : RouteC 9 P 43) {x1 : List (List C)} {x2 : Int} {x3 : List (List C)} {row : List C} (h : vc22 (stdE P tbl) x1 x2 x3 fun c => c = row) : WPg P tbl rf22 [(false, [.sl [.int .i64]]), (false, [.int .i64])] row [.c (.sl [.str, .int .i64, .int .i64, .int .i64, .int .i64, .int .i64, .sl [.int .i64], .int .i64] x1), .c (.int .i64 x2), .c (.sl [.int .i64] x3)] := by
  refine ⟨?_⟩
  revert h
  generalize hE : stdE P tbl = E
  intro h
  unfold vc22 at h
  cbv
  have c16 := h.1
  refine ⟨c16, ?_⟩
  replace h := h.2 _ rfl
  refine ⟨fun hb17 => ?_, fun hb17 => ?_⟩
  · replace h := h.t hb17
    have h : _ = row := h
    subst h
    repeat' (first | exact trivial | exact rfl | refine And.intro ?_ ?_)
  · replace h := h.f hb17
    refine ⟨fun hb18 => ?_, fun hb18 => ?_⟩
    · replace h := h.t hb18
      have h : _ = row := h
      subst h
      repeat' (first | exact trivial | exact rfl | refine And.intro ?_ ?_)
    · replace h := h.f hb18
      obtain ⟨I, μ, h0, hI⟩ := h
      refine LoopW.inv (fun R R' s h k => RCode.wp_mono _ R R' s h k) (fun p : Int => (fun (i5 : Int) => (⟨[.u, .u, .c (.sl [.int .i64] x3), .ptr 0 0, .u, .u, .u, .u, .u, .u, .u, .u, .u, .u, .u, .u, .u, .u, .u, .u, .u, .u, .u, .u, .u, .c (.sl [.int .i64] x3), .c (.int .i64 (E.len x3)), .c (.int .i64 i5), .u, .u, .u, .u, .u, .u, .u, .u, .u, .u, .u, .u, .u, .u, .u, .u, .u, .u, .u, .u, .u, .u, .u, .u, .u, .u, .u, .u, .u, .u, .u, .u, .u, .u, .u, .u, .u, .u, .u, .u, .u], [.box 22 [.c (.sl [.str, .int .i64, .int .i64, .int .i64, .int .i64, .int .i64, .sl [.int .i64], .int .i64] x1)]]⟩ : St)) p) (fun p => I p) (fun p => μ p) _ h0 ?_ ?_
      · refine GSt.ren [0] rfl rfl rfl (fun i hi => absurd hi (Nat.not_lt_zero i)) (Nat.zero_le _) ?_ ?_
        all_goals (repeat' (first | exact trivial | exact Or.inl rfl | exact Or.inr rfl | refine And.intro ?_ ?_))
      · rintro i5 h
        replace h := hI i5 h
        cbv
        refine ⟨fun hb19 => ?_, fun hb19 => ?_⟩
        · replace h := h.t hb19
          have c20 := h.1
          refine ⟨c20, ?_⟩
          replace h := h.2
          refine ⟨hb19, ?_⟩
          refine ⟨⟨fun hh => hh⟩, ?_⟩
          refine ⟨⟨fun hh => hh⟩, ?_⟩
          refine ⟨⟨fun hh => hh⟩, ?_⟩
          refine ⟨⟨fun hh => hh⟩, ?_⟩
          refine ⟨fun hb21 => ?_, fun hb21 => ?_⟩
          · replace h := h.t hb21
            have h : _ = row := h
            subst h
            repeat' (first | exact trivial | exact rfl | refine And.intro ?_ ?_)
          · replace h := h.f hb21
            refine ⟨_, h.1, GSt.ren [0] rfl rfl rfl (fun i hi => absurd hi (Nat.not_lt_zero i)) (Nat.zero_le _) ?_ ?_, h.2⟩
            all_goals (repeat' (first | exact trivial | exact Or.inl rfl | exact Or.inr rfl | refine And.intro ?_ ?_))
        · replace h := h.f hb19
          refine HCall.mk ce38.1.1 ((ACalls.frame (ce38.1.2 _ _ h) (H := _) (tgt := []) rfl (by decide) ?_).mono fun r H' hq => ?_)
          · intro i o ho
            cases ho
          obtain ⟨r1, H1', ⟨h, rfl, rfl⟩, _, rfl, rfl⟩ := hq
          cbv
          refine HCall.mk ce39.1 ((ACalls.frame (ce39.2 (T := 3) _ _ h) (H := _) (tgt := [1]) rfl (by decide) ?_).mono fun r H' hq => ?_)
          · intro i o ho
            match i, ho with
            | 0, ho => cases ho; rfl
          obtain ⟨r1, H1', ⟨l7, h, rfl, rfl⟩, _, rfl, rfl⟩ := hq
          cbv
          refine HCall.mk ce38.2.1 ((ACalls.frame (ACalls.gr (ce38.2.2 3 _ _ _ _ h)) (H := _) (tgt := [1]) rfl (by decide) ?_).mono fun r H' hq => ?_)
          · intro i o ho
            match i, ho with
            | 0, ho => cases ho; rfl
          obtain ⟨r1, H1', ⟨l8, h, rfl, rfl⟩, _, rfl, rfl⟩ := hq
          cbv
          refine HCall.mk ce40.1 ((ACalls.frame (ce40.2 _ _ h) (H := _) (tgt := [2]) rfl (by decide) ?_).mono fun r H' hq => ?_)
          · intro i o ho
            match i, ho with
            | 0, ho => cases ho; rfl
          obtain ⟨r1, H1', ⟨l9, i10, h, rfl, rfl⟩, _, rfl, rfl⟩ := hq
          cbv
          refine ⟨fun hb22 => ?_, fun hb22 => ?_⟩
          · replace h := h.t hb22
            have h : _ = row := h
            subst h
            repeat' (first | exact trivial | exact rfl | refine And.intro ?_ ?_)
          · replace h := h.f hb22
            refine ⟨fun hb23 => ?_, fun hb23 => ?_⟩
            · replace h := h.t hb23
              have h : _ = row := h
              subst h
              repeat' (first | exact trivial | exact rfl | refine And.intro ?_ ?_)
            · replace h := h.f hb23
              have c24 := h.1
              refine ⟨c24, ?_⟩
              replace h := h.2
              have c25 := h.1
              refine ⟨c25, ?_⟩
              replace h := h.2
              refine HCall.mk ce41.1 ((ACalls.frame (ce41.2 _ _ _ h) (H := _) (tgt := [1, 3]) rfl (by decide) ?_).mono fun r H' hq => ?_)
              · intro i o ho
                match i, ho with
                | 0, ho => cases ho; rfl
                | 1, ho => cases ho; rfl
              obtain ⟨r1, H1', ⟨l11, i12, h, rfl, rfl⟩, _, rfl, rfl⟩ := hq
              cbv
              refine ⟨c24, ?_⟩
              have c26 := h.1
              refine ⟨c26, ?_⟩
              replace h := h.2
              have c27 := h.1
              refine ⟨c27, ?_⟩
              replace h := h.2
              have c28 := h.1
              refine ⟨c28, ?_⟩
              replace h := h.2
              refine HCall.mk ce43.1 ((ACalls.frame (ce43.2.1 _ _ _ _ _ _ _ _ h) (H := _) (tgt := [7, 1, 4, 5, 0, 6]) rfl (by decide) ?_).mono fun r H' hq => ?_)
              · intro i o ho
                match i, ho with
                | 0, ho => cases ho; rfl
                | 1, ho => cases ho; rfl
                | 2, ho => cases ho; rfl
                | 3, ho => cases ho; rfl
                | 4, ho => cases ho; rfl
                | 5, ho => cases ho; rfl
              obtain ⟨r1, H1', ⟨l13, l14, i15, h, rfl, rfl⟩, _, rfl, rfl⟩ := hq
              cbv
              have h : _ = row := h
              subst h
              repeat' (first | exact trivial | exact rfl | refine And.intro ?_ ?_)
def vc23 (E : Env) (x1 : List (List C)) (x2 : Int) (x3 : List (List C)) (Q : List C → Prop) : Prop :=
  (E.pok 13 [(false, [.int .i64])] [.c (.sl [.str, .int .i64, .int .i64, .int .i64, .int .i64, .int .i64, .sl [.int .i64], .int .i64] x1), .c (.int .i64 x2)]) ∧ (∀ r4 : Nat → C, r4 = E.res 13 [.c (.sl [.str, .int .i64, .int .i64, .int .i64, .int .i64, .int .i64, .sl [.int .i64], .int .i64] x1), .c (.int .i64 x2)] → 
  (Br (E.not (E.eq (E.gi (r4 0)) 0))
  (Q [.sl [.int .i64] [], .int .i64 (E.gi (r4 0))])
  (Br (E.lt 8 (E.len x3))
    (Q [.sl [.int .i64] [], .int .i64 8])
    (LoopP1 (fun (i5 : Int) (K6 : (Int) → Prop) =>
      Br (E.lt i5 (E.len x3))
        (((E.le 0 i5) = true) ∧ 
          (Br (E.bite (E.lt (E.gi (E.cell x3 i5 0)) 0) true (E.le (E.len x1) (E.gi (E.cell x3 i5 0))))
          (Q [.sl [.int .i64] [], .int .i64 7])
          (K6 ((E.add .i64 i5 1)))))
        (LoopP1 (fun (i7 : Int) (K8 : (Int) → Prop) =>
          Br (E.lt i7 (E.len x3))
            (((E.le 0 0) = true) ∧ ((E.le 0 i7) = true) ∧ ((E.le i7 (E.len x3)) = true) ∧ 
              ((E.pok 45 [(false, [.bool])] [.c (.sl [.int .i64] (E.cut x3 0 i7)), .c (.int .i64 (E.gi (E.cell x3 i7 0)))]) ∧ (∀ r9 : Nat → C, r9 = E.res 45 [.c (.sl [.int .i64] (E.cut x3 0 i7)), .c (.int .i64 (E.gi (E.cell x3 i7 0)))] → 
              (Br (E.gb (r9 0))
              (Q [.sl [.int .i64] [], .int .i64 6])
              (K8 ((E.add .i64 i7 1)))))))
            (Br (E.eq (E.len x3) 0)
              (Q [.sl [.int .i64] [], .int .i64 0])
              (((E.le 0 0) = true) ∧ ((E.le 0 1) = true) ∧ ((E.le 1 (E.len x3)) = true) ∧ 
                (((E.le (E.len x3) (E.len x3)) = true) ∧ 
                ((E.pok 47 [(false, [.sl [.int .i64]])] [.c (.sl [.int .i64] (E.cut x3 1 (E.len x3)))]) ∧ (∀ r10 : Nat → C, r10 = E.res 47 [.c (.sl [.int .i64] (E.cut x3 1 (E.len x3)))] → 
                ((E.pok 46 [(false, [.sl [.int .i64]])] [.c (.sl [.str, .int .i64, .int .i64, .int .i64, .int .i64, .int .i64, .sl [.int .i64], .int .i64] x1), .c (.sl [.int .i64] (E.cut x3 0 1)), .c (.sl [.int .i64] (E.gl (r10 0)))]) ∧ (∀ r11 : Nat → C, r11 = E.res 46 [.c (.sl [.str, .int .i64, .int .i64, .int .i64, .int .i64, .int .i64, .sl [.int .i64], .int .i64] x1), .c (.sl [.int .i64] (E.cut x3 0 1)), .c (.sl [.int .i64] (E.gl (r10 0)))] → 
                (Q [.sl [.int .i64] (E.gl (r11 0)), .int .i64 0])))))))))
          (0)))
      (0)))))
theorem w23 {P : Program} {tbl : FuncId → List A → List C}  {x1 : List (List C)} {x2 : Int} {x3 : List (List C)} {row : List C} (h : vc23 (stdE P tbl) x1 x2 x3 fun c => c = row) : WPg P tbl rf23 [(false, [.sl [.int .i64]]), (false, [.int .i64])] row [.c (.sl [.str, .int .i64, .int .i64, .int .i64, .int .i64, .int .i64, .sl [.int .i64], .int .i64] x1), .c (.int .i64 x2), .c (.sl [.int .i64] x3)] := by
  refine ⟨?_⟩
  revert h
  generalize hE : stdE P tbl = E
  intro h
  unfold vc23 at h
  cbv
  have c12 := h.1
  refine ⟨c12, ?_⟩
  replace h := h.2 _ rfl
  refine ⟨fun hb13 => ?_, fun hb13 => ?_⟩
  · replace h := h.t hb13
    have h : _ = row := h
    subst h
    repeat' (first | exact trivial | exact rfl | refine And.intro ?_ ?_)
  · replace h := h.f hb13
    refine ⟨fun hb14 => ?_, fun hb14 => ?_⟩
    · replace h := h.t hb14
      have h : _ = row := h
      subst h
      repeat' (first | exact trivial | exact rfl | refine And.intro ?_ ?_)
    · replace h := h.f hb14
      obtain ⟨I, μ, h0, hI⟩ := h
      refine LoopW.inv (fun R R' s h k => RCode.wp_mono _ R R' s h k) (fun p : Int => (fun (i5 : Int) => (⟨[.c (.sl [.str, .int .i64, .int .i64, .int .i64, .int .i64, .int .i64, .sl [.int .i64], .int .i64] x1), .u, .c (.sl [.int .i64] x3), .u, .u, .u, .u, .u, .u, .c (.int .i64 i5), .u, .u, .u, .u, .u, .u, .u, .u, .u, .u, .u, .u, .u, .u, .u, .u, .u, .u, .u, .u, .u, .u, .u, .u, .u, .u, .u, .u, .u, .u, .u, .u, .u, .u, .u, .u, .u, .u, .u, .u, .u, .u, .u, .u, .u, .u, .u, .u, .u, .u, .u, .u, .u, .u], []⟩ : St)) p) (fun p => I p) (fun p => μ p) _ h0 ?_ ?_
      · refine GSt.ren [] rfl rfl rfl (fun i hi => absurd hi (Nat.not_lt_zero i)) (Nat.zero_le _) ?_ ?_
        all_goals (repeat' (first | exact trivial | exact Or.inl rfl | exact Or.inr rfl | refine And.intro ?_ ?_))
      · rintro i5 h
        replace h := hI i5 h
        cbv
        refine ⟨fun hb15 => ?_, fun hb15 => ?_⟩
        · replace h := h.t hb15
          have c16 := h.1
          refine ⟨c16, ?_⟩
          replace h := h.2
          refine ⟨hb15, ?_⟩
          refine ⟨⟨fun hh => hh⟩, ?_⟩
          refine ⟨⟨fun hh => hh⟩, ?_⟩
          refine ⟨⟨fun _ => c16⟩, ?_⟩
          refine ⟨⟨fun _ => hb15⟩, ?_⟩
          refine ⟨⟨fun hh => hh⟩, ?_⟩
          refine ⟨⟨fun hh => hh⟩, ?_⟩
          refine ⟨⟨fun hh => hh⟩, ?_⟩
          refine ⟨⟨fun hh => hh⟩, ?_⟩
          refine ⟨⟨fun hh => hh⟩, ?_⟩
          refine ⟨fun hb17 => ?_, fun hb17 => ?_⟩
          · replace h := h.t hb17
            have h : _ = row := h
            subst h
            repeat' (first | exact trivial | exact rfl | refine And.intro ?_ ?_)
          · replace h := h.f hb17
            refine ⟨_, h.1, GSt.ren [] rfl rfl rfl (fun i hi => absurd hi (Nat.not_lt_zero i)) (Nat.zero_le _) ?_ ?_, h.2⟩
            all_goals (repeat' (first | exact trivial | exact Or.inl rfl | exact Or.inr rfl | refine And.intro ?_ ?_))
        · replace h := h.f hb15
          obtain ⟨I, μ, h0, hI⟩ := h
          refine LoopW.inv (fun R R' s h k => RCode.wp_mono _ R R' s h k) (fun p : Int => (fun (i7 : Int) => (⟨[.c (.sl [.str, .int .i64, .int .i64, .int .i64, .int .i64, .int .i64, .sl [.int .i64], .int .i64] x1), .u, .c (.sl [.int .i64] x3), .u, .u, .u, .u, .u, .u, .u, .c (.int .i64 i7), .u, .u, .u, .u, .u, .u, .u, .u, .u, .u, .u, .u, .u, .u, .u, .u, .u, .u, .u, .u, .u, .u, .u, .u, .u, .u, .u, .u, .u, .u, .u, .u, .u, .u, .u, .u, .u, .u, .u, .u, .u, .u, .u, .u, .u, .u, .u, .u, .u, .u, .u, .u, .u], []⟩ : St)) p) (fun p => I p) (fun p => μ p) _ h0 ?_ ?_
          · refine GSt.ren [] rfl rfl rfl (fun i hi => absurd hi (Nat.not_lt_zero i)) (Nat.zero_le _) ?_ ?_
            all_goals (repeat' (first | exact trivial | exact Or.inl rfl | exact Or.inr rfl | refine And.intro ?_ ?_))
          · rintro i7 h
            replace h := hI i7 h
            cbv
            refine ⟨fun hb18 => ?_, fun hb18 => ?_⟩
            · replace h := h.t hb18
              have c19 := h.1
              refine ⟨c19, ?_⟩
              replace h := h.2
              have c20 := h.1
              refine ⟨c20, ?_⟩
              replace h := h.2
              have c21 := h.1
              refine ⟨c21, ?_⟩
              replace h := h.2
              refine ⟨c20, ?_⟩
              refine ⟨hb18, ?_⟩
              have c22 := h.1
              refine ⟨c22, ?_⟩
              replace h := h.2 _ rfl
              refine ⟨fun hb23 => ?_, fun hb23 => ?_⟩
              · replace h := h.t hb23
                have h : _ = row := h
                subst h
                repeat' (first | exact trivial | exact rfl | refine And.intro ?_ ?_)
              · replace h := h.f hb23
                refine ⟨_, h.1, GSt.ren [] rfl rfl rfl (fun i hi => absurd hi (Nat.not_lt_zero i)) (Nat.zero_le _) ?_ ?_, h.2⟩
                all_goals (repeat' (first | exact trivial | exact Or.inl rfl | exact Or.inr rfl | refine And.intro ?_ ?_))
            · replace h := h.f hb18
              refine ⟨fun hb24 => ?_, fun hb24 => ?_⟩
              · replace h := h.t hb24
                have h : _ = row := h
                subst h
                repeat' (first | exact trivial | exact rfl | refine And.intro ?_ ?_)
              · replace h := h.f hb24
                have c25 := h.1
                refine ⟨c25, ?_⟩
                replace h := h.2
                have c26 := h.1
                refine ⟨c26, ?_⟩
                replace h := h.2
                have c27 := h.1
                refine ⟨c27, ?_⟩
                replace h := h.2
                refine ⟨c26, ?_⟩
                refine ⟨c27, ?_⟩
                have c28 := h.1
                refine ⟨c28, ?_⟩
                replace h := h.2
                have c29 := h.1
                refine ⟨c29, ?_⟩
                replace h := h.2 _ rfl
                have c30 := h.1
                refine ⟨c30, ?_⟩
                replace h := h.2 _ rfl
                have h : _ = row := h
                subst h
                repeat' (first | exact trivial | exact rfl | refine And.intro ?_ ?_)
def vc46 (E : Env) (x1 : List (List C)) (x2 : List (List C)) (x3 : List (List C)) (Q : List C → Prop) : Prop :=
  Br (E.eq (E.len x3) 0)
  (Q [.sl [.int .i64] x2])
  (LoopP2 (fun (l4 : List (List C)) (i5 : Int) (K6 : (List (List C)) → (Int) → Prop) =>
    Br (E.lt i5 (E.len x3))
      (((E.le 0 0) = true) ∧ ((E.le 0 i5) = true) ∧ ((E.le i5 (E.len x3)) = true) ∧ 
        (((E.le (E.pl (E.len []) (E.len (E.cut x3 0 i5))) 17592186044416) = true) ∧ 
        (((E.le 0 (E.add .i64 i5 1)) = true) ∧ ((E.le (E.add .i64 i5 1) (E.len x3)) = true) ∧ ((E.le (E.len x3) (E.len x3)) = true) ∧ 
        (((E.le (E.pl (E.len (E.cat [] (E.cut x3 0 i5))) (E.len (E.cut x3 (E.add .i64 i5 1) (E.len x3)))) 17592186044416) = true) ∧ 
        (((E.le (E.pl (E.len []) (E.len x2)) 17592186044416) = true) ∧ 
        (((E.le (E.pl (E.len (E.cat [] x2)) (E.len [[.int .i64 (E.gi (E.cell x3 i5 0))]])) 17592186044416) = true) ∧ 
        ((E.pok 46 [(false, [.sl [.int .i64]])] [.c (.sl [.str, .int .i64, .int .i64, .int .i64, .int .i64, .int .i64, .sl [.int .i64], .int .i64] x1), .c (.sl [.int .i64] (E.cat (E.cat [] x2) [[.int .i64 (E.gi (E.cell x3 i5 0))]])), .c (.sl [.int .i64] (E.cat (E.cat [] (E.cut x3 0 i5)) (E.cut x3 (E.add .i64 i5 1) (E.len x3))))]) ∧ (∀ r7 : Nat → C, r7 = E.res 46 [.c (.sl [.str, .int .i64, .int .i64, .int .i64, .int .i64, .int .i64, .sl [.int .i64], .int .i64] x1), .c (.sl [.int .i64] (E.cat (E.cat [] x2) [[.int .i64 (E.gi (E.cell x3 i5 0))]])), .c (.sl [.int .i64] (E.cat (E.cat [] (E.cut x3 0 i5)) (E.cut x3 (E.add .i64 i5 1) (E.len x3))))] → 
        ((Imp (E.not (E.eq (E.len l4) 0)) (E.pok 26 [(false, [.int .i64])] [.c (.sl [.str, .int .i64, .int .i64, .int .i64, .int .i64, .int .i64, .sl [.int .i64], .int .i64] x1), .c (.sl [.int .i64] (E.gl (r7 0)))])) ∧ (∀ r8 : Nat → C, r8 = E.res 26 [.c (.sl [.str, .int .i64, .int .i64, .int .i64, .int .i64, .int .i64, .sl [.int .i64], .int .i64] x1), .c (.sl [.int .i64] (E.gl (r7 0)))] → 
        ((Imp (E.not (E.eq (E.len l4) 0)) (E.pok 26 [(false, [.int .i64])] [.c (.sl [.str, .int .i64, .int .i64, .int .i64, .int .i64, .int .i64, .sl [.int .i64], .int .i64] x1), .c (.sl [.int .i64] l4)])) ∧ (∀ r9 : Nat → C, r9 = E.res 26 [.c (.sl [.str, .int .i64, .int .i64, .int .i64, .int .i64, .int .i64, .sl [.int .i64], .int .i64] x1), .c (.sl [.int .i64] l4)] → 
        (Br (E.bite (E.eq (E.len l4) 0) true (E.lt (E.gi (r8 0)) (E.gi (r9 0))))
        (K6 ((E.gl (r7 0))) ((E.add .i64 i5 1)))
        (K6 (l4) ((E.add .i64 i5 1))))))))))))))))
      (Q [.sl [.int .i64] l4]))
    ([]) (0))
theorem w46 {P : Program} {tbl : FuncId → List A → List C}  {x1 : List (List C)} {x2 : List (List C)} {x3 : List (List C)} {row : List C} (h : vc46 (stdE P tbl) x1 x2 x3 fun c => c = row) : WPg P tbl rf46 [(false, [.sl [.int .i64]])] row [.c (.sl [.str, .int .i64, .int .i64, .int .i64, .int .i64, .int .i64, .sl [.int .i64], .int .i64] x1), .c (.sl [.int .i64] x2), .c (.sl [.int .i64] x3)] := by
  refine ⟨?_⟩
  revert h
  generalize hE : stdE P tbl = E
  intro h
  unfold vc46 at h
  cbv
  refine ⟨fun hb10 => ?_, fun hb10 => ?_⟩
  · replace h := h.t hb10
    have h : _ = row := h
    subst h
    repeat' (first | exact trivial | exact rfl | refine And.intro ?_ ?_)
  · replace h := h.f hb10
    obtain ⟨I, μ, h0, hI⟩ := h
    refine LoopW.inv (fun R R' s h k => RCode.wp_mono _ R R' s h k) (fun p : List (List C) × Int => (fun (l4 : List (List C)) (i5 : Int) => (⟨[.c (.sl [.str, .int .i64, .int .i64, .int .i64, .int .i64, .int .i64, .sl [.int .i64], .int .i64] x1), .c (.sl [.int .i64] x2), .c (.sl [.int .i64] x3), .u, .u, .u, .u, .c (.sl [.int .i64] l4), .c (.int .i64 i5), .u, .u, .u, .u, .u, .u, .u, .u, .u, .u, .u, .u, .u, .u, .u, .u, .u, .u, .u, .u, .u, .u, .u, .u, .u, .u, .u, .u, .u, .u, .u, .u, .u, .u, .u, .u, .u, .u, .u, .u, .u, .u, .u, .u, .u, .u, .u, .u], []⟩ : St)) p.1 p.2) (fun p => I p.1 p.2) (fun p => μ p.1 p.2) (_, _) h0 ?_ ?_
    · refine GSt.trans (GSt.nilSl 7 [.int .i64] rfl) (GSt.ren [] rfl rfl rfl (fun i hi => absurd hi (Nat.not_lt_zero i)) (Nat.zero_le _) ?_ ?_)
      all_goals (repeat' (first | exact trivial | exact Or.inl rfl | exact Or.inr rfl | refine And.intro ?_ ?_))
    · rintro ⟨l4, i5⟩ h
      replace h := hI l4 i5 h
      cbv
      refine ⟨fun hb11 => ?_, fun hb11 => ?_⟩
      · replace h := h.t hb11
        have c12 := h.1
        refine ⟨c12, ?_⟩
        replace h := h.2
        have c13 := h.1
        refine ⟨c13, ?_⟩
        replace h := h.2
        have c14 := h.1
        refine ⟨c14, ?_⟩
        replace h := h.2
        have c15 := h.1
        refine ⟨c15, ?_⟩
        replace h := h.2
        have c16 := h.1
        refine ⟨c16, ?_⟩
        replace h := h.2
        have c17 := h.1
        refine ⟨c17, ?_⟩
        replace h := h.2
        have c18 := h.1
        refine ⟨c18, ?_⟩
        replace h := h.2
        have c19 := h.1
        refine ⟨c19, ?_⟩
        replace h := h.2
        have c20 := h.1
        refine ⟨c20, ?_⟩
        replace h := h.2
        refine ⟨c13, ?_⟩
        refine ⟨hb11, ?_⟩
        have c21 := h.1
        refine ⟨c21, ?_⟩
        replace h := h.2
        have c22 := h.1
        refine ⟨c22, ?_⟩
        replace h := h.2 _ rfl
        refine ⟨⟨fun hh => hh⟩, ?_⟩
        refine ⟨⟨fun hh => hh⟩, ?_⟩
        have c23 := h.1
        refine ⟨c23, ?_⟩
        replace h := h.2 _ rfl
        refine ⟨⟨fun hh => hh⟩, ?_⟩
        refine ⟨⟨fun hh => hh⟩, ?_⟩
        have c24 := h.1
        refine ⟨c24, ?_⟩
        replace h := h.2 _ rfl
        refine ⟨⟨fun hh => hh⟩, ?_⟩
        refine ⟨⟨fun hh => hh⟩, ?_⟩
        refine ⟨⟨fun hh => hh⟩, ?_⟩
        refine ⟨fun hb25 => ?_, fun hb25 => ?_⟩
        · replace h := h.t hb25
          refine ⟨(_, _), h.1, GSt.ren [] rfl rfl rfl (fun i hi => absurd hi (Nat.not_lt_zero i)) (Nat.zero_le _) ?_ ?_, h.2⟩
          all_goals (repeat' (first | exact trivial | exact Or.inl rfl | exact Or.inr rfl | refine And.intro ?_ ?_))
        · replace h := h.f hb25
          refine ⟨(_, _), h.1, GSt.ren [] rfl rfl rfl (fun i hi => absurd hi (Nat.not_lt_zero i)) (Nat.zero_le _) ?_ ?_, h.2⟩
          all_goals (repeat' (first | exact trivial | exact Or.inl rfl | exact Or.inr rfl | refine And.intro ?_ ?_))
      · replace h := h.f hb11
        have h : _ = row := h
        subst h
        repeat' (first | exact trivial | exact rfl | refine And.intro ?_ ?_)
def vc47 (E : Env) (x1 : List (List C)) (Q : List C → Prop) : Prop :=
  LoopP2 (fun (l2 : List (List C)) (i3 : Int) (K4 : (List (List C)) → (Int) → Prop) =>
  Br (E.lt i3 (E.len x1))
    (LoopP1 (fun (i5 : Int) (K6 : (Int) → Prop) =>
      (Imp (E.lt i5 (E.len l2)) ((E.le 0 i5) = true)) ∧ 
        ((Imp (E.lt i5 (E.len l2)) ((E.le 0 i3) = true)) ∧ 
        (Br (E.bite (E.lt i5 (E.len l2)) (E.lt (E.gi (E.cell l2 i5 0)) (E.gi (E.cell x1 i3 0))) false)
        (K6 ((E.add .i64 i5 1)))
        (((E.le 0 0) = true) ∧ ((E.le 0 i5) = true) ∧ ((E.le i5 (E.len l2)) = true) ∧ 
          (((E.le (E.pl (E.len []) (E.len (E.cut l2 0 (E.pl 0 (E.mi i5 0))))) 17592186044416) = true) ∧ 
          (((E.le 0 i3) = true) ∧ 
          (((E.le (E.pl (E.len (E.cat [] (E.cut l2 0 (E.pl 0 (E.mi i5 0))))) (E.len [[.int .i64 (E.gi (E.cell x1 i3 0))]])) 17592186044416) = true) ∧ 
          (((E.le (E.len l2) (E.len l2)) = true) ∧ 
          (((E.le (E.pl (E.len (E.cat (E.cat [] (E.cut l2 0 (E.pl 0 (E.mi i5 0)))) [[.int .i64 (E.gi (E.cell x1 i3 0))]])) (E.len (E.cut l2 i5 (E.pl i5 (E.mi (E.len l2) i5))))) 17592186044416) = true) ∧ 
          (K4 ((E.cat (E.cat (E.cat [] (E.cut l2 0 (E.pl 0 (E.mi i5 0)))) [[.int .i64 (E.gi (E.cell x1 i3 0))]]) (E.cut l2 i5 (E.pl i5 (E.mi (E.len l2) i5))))) ((E.add .i64 i3 1))))))))))))
      (0))
    (Q [.sl [.int .i64] l2]))
  ([]) (0)
theorem w47 {P : Program} {tbl : FuncId → List A → List C}  {x1 : List (List C)} {row : List C} (h : vc47 (stdE P tbl) x1 fun c => c = row) : WPg P tbl rf47 [(false, [.sl [.int .i64]])] row [.c (.sl [.int .i64] x1)] := by
  refine ⟨?_⟩
  revert h
  generalize hE : stdE P tbl = E
  intro h
  unfold vc47 at h
  cbv
  obtain ⟨I, μ, h0, hI⟩ := h
  refine LoopW.inv (fun R R' s h k => RCode.wp_mono _ R R' s h k) (fun p : List (List C) × Int => (fun (l2 : List (List C)) (i3 : Int) => (⟨[.c (.sl [.int .i64] x1), .u, .u, .gr 0, .c (.int .i64 i3), .u, .u, .u, .u, .u, .u, .u, .u, .u, .u, .u, .u, .u, .u, .u, .u, .u, .u, .u, .u, .u, .u, .u, .u, .u, .u, .u, .u, .u, .u, .u, .u, .u, .u, .u, .u, .u, .u, .u, .u], [.arr 3 [.int .i64] l2]⟩ : St)) p.1 p.2) (fun p => I p.1 p.2) (fun p => μ p.1 p.2) (_, _) h0 ?_ ?_
  · refine GSt.trans (GSt.nil 3 3 [.int .i64] rfl) (GSt.ren [0] rfl rfl rfl (fun i hi => absurd hi (Nat.not_lt_zero i)) (Nat.zero_le _) ?_ ?_)
    all_goals (repeat' (first | exact trivial | exact Or.inl rfl | exact Or.inr rfl | refine And.intro ?_ ?_))
  · rintro ⟨l2, i3⟩ h
    replace h := hI l2 i3 h
    cbv
    refine ⟨fun hb7 => ?_, fun hb7 => ?_⟩
    · replace h := h.t hb7
      obtain ⟨I, μ, h0, hI⟩ := h
      refine LoopW.inv (fun R R' s h k => RCode.wp_mono _ R R' s h k) (fun p : Int => (fun (i5 : Int) => (⟨[.c (.sl [.int .i64] x1), .u, .u, .gr 0, .c (.int .i64 i3), .c (.int .i64 i5), .u, .u, .u, .u, .u, .u, .u, .u, .u, .u, .u, .u, .u, .u, .u, .u, .u, .u, .u, .u, .u, .u, .u, .u, .u, .u, .u, .u, .u, .u, .u, .u, .u, .u, .u, .u, .u, .u, .u], [.arr 3 [.int .i64] l2]⟩ : St)) p) (fun p => I p) (fun p => μ p) _ h0 ?_ ?_
      · refine GSt.ren [0] rfl rfl rfl (fun i hi => absurd hi (Nat.not_lt_zero i)) (Nat.zero_le _) ?_ ?_
        all_goals (repeat' (first | exact trivial | exact Or.inl rfl | exact Or.inr rfl | refine And.intro ?_ ?_))
      · rintro i5 h
        replace h := hI i5 h
        cbv
        refine ⟨⟨fun hh => hh⟩, ?_⟩
        refine ⟨⟨fun hh => hh⟩, ?_⟩
        have c8 := h.1
        refine ⟨c8, ?_⟩
        replace h := h.2
        refine ⟨⟨fun hh => hh⟩, ?_⟩
        refine ⟨⟨fun hh => hh⟩, ?_⟩
        refine ⟨⟨fun hh => hh⟩, ?_⟩
        refine ⟨⟨fun hh => hh⟩, ?_⟩
        have c9 := h.1
        refine ⟨c9, ?_⟩
        replace h := h.2
        refine ⟨⟨fun _ => hb7⟩, ?_⟩
        refine ⟨⟨fun hh => hh⟩, ?_⟩
        refine ⟨⟨fun hh => hh⟩, ?_⟩
        refine ⟨⟨fun hh => hh⟩, ?_⟩
        refine ⟨⟨fun hh => hh⟩, ?_⟩
        refine ⟨fun hb10 => ?_, fun hb10 => ?_⟩
        · replace h := h.t hb10
          refine ⟨_, h.1, GSt.ren [0] rfl rfl rfl (fun i hi => absurd hi (Nat.not_lt_zero i)) (Nat.zero_le _) ?_ ?_, h.2⟩
          all_goals (repeat' (first | exact trivial | exact Or.inl rfl | exact Or.inr rfl | refine And.intro ?_ ?_))
        · replace h := h.f hb10
          have c11 := h.1
          refine ⟨c11, ?_⟩
          replace h := h.2
          have c12 := h.1
          refine ⟨c12, ?_⟩
          replace h := h.2
          have c13 := h.1
          refine ⟨c13, ?_⟩
          replace h := h.2
          have c14 := h.1
          refine ⟨c14, ?_⟩
          replace h := h.2
          have c15 := h.1
          refine ⟨c15, ?_⟩
          replace h := h.2
          refine ⟨hb7, ?_⟩
          have c16 := h.1
          refine ⟨c16, ?_⟩
          replace h := h.2
          refine ⟨c12, ?_⟩
          refine ⟨c13, ?_⟩
          have c17 := h.1
          refine ⟨c17, ?_⟩
          replace h := h.2
          have c18 := h.1
          refine ⟨c18, ?_⟩
          replace h := h.2
          refine ⟨(_, _), h.1, GSt.ren [5] rfl rfl rfl (fun i hi => absurd hi (Nat.not_lt_zero i)) (Nat.zero_le _) ?_ ?_, h.2⟩
          all_goals (repeat' (first | exact trivial | exact Or.inl rfl | exact Or.inr rfl | refine And.intro ?_ ?_))
    · replace h := h.f hb7
      have h : _ = row := h
      subst h
      repeat' (first | exact trivial | exact rfl | refine And.intro ?_ ?_)
def vc45 (E : Env) (x1 : List (List C)) (x2 : Int) (Q : List C → Prop) : Prop :=
  LoopP1 (fun (i3 : Int) (K4 : (Int) → Prop) =>
  Br (E.lt i3 (E.len x1))
    (((E.le 0 i3) = true) ∧ 
      (Br (E.eq (E.gi (E.cell x1 i3 0)) x2)
      (Q [.bool true])
      (K4 ((E.add .i64 i3 1)))))
    (Q [.bool false]))
  (0)
theorem w45 {P : Program} {tbl : FuncId → List A → List C}  {x1 : List (List C)} {x2 : Int} {row : List C} (h : vc45 (stdE P tbl) x1 x2 fun c => c = row) : WPg P tbl rf45 [(false, [.bool])] row [.c (.sl [.int .i64] x1), .c (.int .i64 x2)] := by
  refine ⟨?_⟩
  revert h
  generalize hE : stdE P tbl = E
  intro h
  unfold vc45 at h
  cbv
  obtain ⟨I, μ, h0, hI⟩ := h
  refine LoopW.inv (fun R R' s h k => RCode.wp_mono _ R R' s h k) (fun p : Int => (fun (i3 : Int) => (⟨[.c (.sl [.int .i64] x1), .c (.int .i64 x2), .u, .u, .u, .c (.int .i64 i3), .u, .u, .u, .u, .u, .u, .u, .u, .u, .u, .u, .u], []⟩ : St)) p) (fun p => I p) (fun p => μ p) _ h0 ?_ ?_
  · refine GSt.ren [] rfl rfl rfl (fun i hi => absurd hi (Nat.not_lt_zero i)) (Nat.zero_le _) ?_ ?_
    all_goals (repeat' (first | exact trivial | exact Or.inl rfl | exact Or.inr rfl | refine And.intro ?_ ?_))
  · rintro i3 h
    replace h := hI i3 h
    cbv
    refine ⟨fun hb5 => ?_, fun hb5 => ?_⟩
    · replace h := h.t hb5
      have c6 := h.1
      refine ⟨c6, ?_⟩
      replace h := h.2
      refine ⟨hb5, ?_⟩
      refine ⟨fun hb7 => ?_, fun hb7 => ?_⟩
      · replace h := h.t hb7
        have h : _ = row := h
        subst h
        repeat' (first | exact trivial | exact rfl | refine And.intro ?_ ?_)
      · replace h := h.f hb7
        refine ⟨_, h.1, GSt.ren [] rfl rfl rfl (fun i hi => absurd hi (Nat.not_lt_zero i)) (Nat.zero_le _) ?_ ?_, h.2⟩
        all_goals (repeat' (first | exact trivial | exact Or.inl rfl | exact Or.inr rfl | refine And.intro ?_ ?_))
    · replace h := h.f hb5
      have h : _ = row := h
      subst h
      repeat' (first | exact trivial | exact rfl | refine And.intro ?_ ?_)
def vc26 (E : Env) (x1 : List (List C)) (x2 : List (List C)) (Q : List C → Prop) : Prop :=
  LoopP2 (fun (i3 : Int) (i4 : Int) (K5 : (Int) → (Int) → Prop) =>
  Br (E.lt i4 (E.len x2))
    (((E.le 0 (E.sub .i64 i4 1)) = true) ∧ ((E.lt (E.sub .i64 i4 1) (E.len x2)) = true) ∧ 
      (((E.le 0 (E.gi (E.cell x2 (E.sub .i64 i4 1) 0))) = true) ∧ ((E.lt (E.gi (E.cell x2 (E.sub .i64 i4 1) 0)) (E.len x1)) = true) ∧ 
      (((E.le 0 i4) = true) ∧ 
      (((E.le 0 (E.gi (E.cell x2 i4 0))) = true) ∧ ((E.lt (E.gi (E.cell x2 i4 0)) (E.len x1)) = true) ∧ 
      ((E.pok 37 [(false, [.int .u64])] [.c (.int .i64 (E.gi (E.cell x1 (E.gi (E.cell x2 (E.sub .i64 i4 1) 0)) 1))), .c (.int .i64 (E.gi (E.cell x1 (E.gi (E.cell x2 i4 0)) 1)))]) ∧ (∀ r6 : Nat → C, r6 = E.res 37 [.c (.int .i64 (E.gi (E.cell x1 (E.gi (E.cell x2 (E.sub .i64 i4 1) 0)) 1))), .c (.int .i64 (E.gi (E.cell x1 (E.gi (E.cell x2 i4 0)) 1)))] → 
      (K5 ((E.add .i64 i3 (E.wrap .i64 (E.gi (r6 0))))) ((E.add .i64 i4 1)))))))))
    (Q [.int .i64 i3]))
  (0) (1)
theorem w26 {P : Program} {tbl : FuncId → List A → List C}  {x1 : List (List C)} {x2 : List (List C)} {row : List C} (h : vc26 (stdE P tbl) x1 x2 fun c => c = row) : WPg P tbl rf26 [(false, [.int .i64])] row [.c (.sl [.str, .int .i64, .int .i64, .int .i64, .int .i64, .int .i64, .sl [.int .i64], .int .i64] x1), .c (.sl [.int .i64] x2)] := by
  refine ⟨?_⟩
  revert h
  generalize hE : stdE P tbl = E
  intro h
  unfold vc26 at h
  cbv
  obtain ⟨I, μ, h0, hI⟩ := h
  refine LoopW.inv (fun R R' s h k => RCode.wp_mono _ R R' s h k) (fun p : Int × Int => (fun (i3 : Int) (i4 : Int) => (⟨[.c (.sl [.str, .int .i64, .int .i64, .int .i64, .int .i64, .int .i64, .sl [.int .i64], .int .i64] x1), .c (.sl [.int .i64] x2), .u, .u, .u, .c (.int .i64 i3), .c (.int .i64 i4), .u, .u, .u, .u, .u, .u, .u, .u, .u, .u, .u, .u, .u, .u, .u, .u, .u, .u, .u, .u, .u, .u, .u, .u, .u, .u, .u, .u], []⟩ : St)) p.1 p.2) (fun p => I p.1 p.2) (fun p => μ p.1 p.2) (_, _) h0 ?_ ?_
  · refine GSt.ren [] rfl rfl rfl (fun i hi => absurd hi (Nat.not_lt_zero i)) (Nat.zero_le _) ?_ ?_
    all_goals (repeat' (first | exact trivial | exact Or.inl rfl | exact Or.inr rfl | refine And.intro ?_ ?_))
  · rintro ⟨i3, i4⟩ h
    replace h := hI i3 i4 h
    cbv
    refine ⟨fun hb7 => ?_, fun hb7 => ?_⟩
    · replace h := h.t hb7
      have c8 := h.1
      refine ⟨c8, ?_⟩
      replace h := h.2
      have c9 := h.1
      refine ⟨c9, ?_⟩
      replace h := h.2
      have c10 := h.1
      refine ⟨c10, ?_⟩
      replace h := h.2
      have c11 := h.1
      refine ⟨c11, ?_⟩
      replace h := h.2
      have c12 := h.1
      refine ⟨c12, ?_⟩
      replace h := h.2
      refine ⟨hb7, ?_⟩
      have c13 := h.1
      refine ⟨c13, ?_⟩
      replace h := h.2
      have c14 := h.1
      refine ⟨c14, ?_⟩
      replace h := h.2
      have c15 := h.1
      refine ⟨c15, ?_⟩
      replace h := h.2 _ rfl
      refine ⟨(_, _), h.1, GSt.ren [] rfl rfl rfl (fun i hi => absurd hi (Nat.not_lt_zero i)) (Nat.zero_le _) ?_ ?_, h.2⟩
      all_goals (repeat' (first | exact trivial | exact Or.inl rfl | exact Or.inr rfl | refine And.intro ?_ ?_))
    · replace h := h.f hb7
      have h : _ = row := h
      subst h
      repeat' (first | exact trivial | exact rfl | refine And.intro ?_ ?_)
def vc24 (E : Env) (x1 : List (List C)) (x2 : List (List C)) (Q : List C → Prop) : Prop :=
  Br (E.not (E.eq (E.len x1) (E.len x2)))
  (Q [.bool false])
  (LoopP1 (fun (i3 : Int) (K4 : (Int) → Prop) =>
    Br (E.lt i3 (E.len x1))
      (((E.le 0 i3) = true) ∧ 
        (((E.lt i3 (E.len x2)) = true) ∧ 
        (Br (E.not (E.eq (E.gi (E.cell x1 i3 0)) (E.gi (E.cell x2 i3 0))))
        (Q [.bool false])
        (K4 ((E.add .i64 i3 1))))))
      (Q [.bool true]))
    (0))
theorem w24 {P : Program} {tbl : FuncId → List A → List C}  {x1 : List (List C)} {x2 : List (List C)} {row : List C} (h : vc24 (stdE P tbl) x1 x2 fun c => c = row) : WPg P tbl rf24 [(false, [.bool])] row [.c (.sl [.int .i64] x1), .c (.sl [.int .i64] x2)] := by
  refine ⟨?_⟩
  revert h
  generalize hE : stdE P tbl = E
  intro h
  unfold vc24 at h
  cbv
  refine ⟨fun hb5 => ?_, fun hb5 => ?_⟩
  · replace h := h.t hb5
    have h : _ = row := h
    subst h
    repeat' (first | exact trivial | exact rfl | refine And.intro ?_ ?_)
  · replace h := h.f hb5
    obtain ⟨I, μ, h0, hI⟩ := h
    refine LoopW.inv (fun R R' s h k => RCode.wp_mono _ R R' s h k) (fun p : Int => (fun (i3 : Int) => (⟨[.c (.sl [.int .i64] x1), .c (.sl [.int .i64] x2), .u, .u, .u, .c (.int .i64 i3), .u, .u, .u, .u, .u, .u, .u, .u, .u, .u, .u, .u, .u, .u, .u, .u, .u, .u, .u, .u], []⟩ : St)) p) (fun p => I p) (fun p => μ p) _ h0 ?_ ?_
    · refine GSt.ren [] rfl rfl rfl (fun i hi => absurd hi (Nat.not_lt_zero i)) (Nat.zero_le _) ?_ ?_
      all_goals (repeat' (first | exact trivial | exact Or.inl rfl | exact Or.inr rfl | refine And.intro ?_ ?_))
    · rintro i3 h
      replace h := hI i3 h
      cbv
      refine ⟨fun hb6 => ?_, fun hb6 => ?_⟩
      · replace h := h.t hb6
        have c7 := h.1
        refine ⟨c7, ?_⟩
        replace h := h.2
        refine ⟨hb6, ?_⟩
        refine ⟨c7, ?_⟩
        have c8 := h.1
        refine ⟨c8, ?_⟩
        replace h := h.2
        refine ⟨fun hb9 => ?_, fun hb9 => ?_⟩
        · replace h := h.t hb9
          have h : _ = row := h
          subst h
          repeat' (first | exact trivial | exact rfl | refine And.intro ?_ ?_)
        · replace h := h.f hb9
          refine ⟨_, h.1, GSt.ren [] rfl rfl rfl (fun i hi => absurd hi (Nat.not_lt_zero i)) (Nat.zero_le _) ?_ ?_, h.2⟩
          all_goals (repeat' (first | exact trivial | exact Or.inl rfl | exact Or.inr rfl | refine And.intro ?_ ?_))
      · replace h := h.f hb6
        have h : _ = row := h
        subst h
        repeat' (first | exact trivial | exact rfl | refine And.intro ?_ ?_)
def vc7 (E : Env) (x1 : List (List C)) (x2 : Int) (x3 : List (List C)) (Q : List C → Prop) : Prop :=
  (E.pok 10 [(false, [.bool])] [.c (.sl [.str, .int .i64, .int .i64, .int .i64, .int .i64, .int .i64, .sl [.int .i64], .int .i64] x1)]) ∧ (∀ r4 : Nat → C, r4 = E.res 10 [.c (.sl [.str, .int .i64, .int .i64, .int .i64, .int .i64, .int .i64, .sl [.int .i64], .int .i64] x1)] → 
  (Br (E.bite (E.bite (E.bite (E.not (E.gb (r4 0))) true (E.eq (E.len x3) 7)) true (E.eq (E.len x3) 8)) true (E.lt 20 (E.len x3)))
  ((E.pok 11 [(false, [.bool])] []) ∧ (∀ r5 : Nat → C, r5 = E.res 11 [] → 
    (Q [.bool (E.gb (r5 0))])))
  ((E.pok 22 [(false, [.sl [.int .i64]]), (false, [.int .i64])] [.c (.sl [.str, .int .i64, .int .i64, .int .i64, .int .i64, .int .i64, .sl [.int .i64], .int .i64] x1), .c (.int .i64 x2), .c (.sl [.int .i64] x3)]) ∧ (∀ r6 : Nat → C, r6 = E.res 22 [.c (.sl [.str, .int .i64, .int .i64, .int .i64, .int .i64, .int .i64, .sl [.int .i64], .int .i64] x1), .c (.int .i64 x2), .c (.sl [.int .i64] x3)] → 
    ((E.pok 23 [(false, [.sl [.int .i64]]), (false, [.int .i64])] [.c (.sl [.str, .int .i64, .int .i64, .int .i64, .int .i64, .int .i64, .sl [.int .i64], .int .i64] x1), .c (.int .i64 x2), .c (.sl [.int .i64] x3)]) ∧ (∀ r7 : Nat → C, r7 = E.res 23 [.c (.sl [.str, .int .i64, .int .i64, .int .i64, .int .i64, .int .i64, .sl [.int .i64], .int .i64] x1), .c (.int .i64 x2), .c (.sl [.int .i64] x3)] → 
    ((E.pok 24 [(false, [.bool])] [.c (.sl [.int .i64] (E.gl (r6 0))), .c (.sl [.int .i64] (E.gl (r7 0)))]) ∧ (∀ r8 : Nat → C, r8 = E.res 24 [.c (.sl [.int .i64] (E.gl (r6 0))), .c (.sl [.int .i64] (E.gl (r7 0)))] → 
    ((Imp (E.bite (E.gb (r8 0)) (E.eq (E.gi (r6 1)) (E.gi (r7 1))) false) (E.pok 11 [(false, [.bool])] [])) ∧ (∀ r9 : Nat → C, r9 = E.res 11 [] → 
    (Q [.bool (E.bite (E.bite (E.gb (r8 0)) (E.eq (E.gi (r6 1)) (E.gi (r7 1))) false) (E.gb (r9 0)) false)])))))))))))
theorem w7 {P : Program} {tbl : FuncId → List A → List C}  {x1 : List (List C)} {x2 : Int} {x3 : List (List C)} {row : List C} (h : vc7 (stdE P tbl) x1 x2 x3 fun c => c = row) : WPg P tbl rf7 [(false, [.bool])] row [.c (.sl [.str, .int .i64, .int .i64, .int .i64, .int .i64, .int .i64, .sl [.int .i64], .int .i64] x1), .c (.int .i64 x2), .c (.sl [.int .i64] x3)] := by
  refine ⟨?_⟩
  revert h
  generalize hE : stdE P tbl = E
  intro h
  unfold vc7 at h
  cbv
  have c10 := h.1
  refine ⟨c10, ?_⟩
  replace h := h.2 _ rfl
  refine ⟨⟨fun hh => hh⟩, ?_⟩
  refine ⟨⟨fun hh => hh⟩, ?_⟩
  refine ⟨⟨fun hh => hh⟩, ?_⟩
  refine ⟨⟨fun hh => hh⟩, ?_⟩
  refine ⟨⟨fun hh => hh⟩, ?_⟩
  refine ⟨⟨fun hh => hh⟩, ?_⟩
  refine ⟨⟨fun hh => hh⟩, ?_⟩
  refine ⟨⟨fun hh => hh⟩, ?_⟩
  refine ⟨⟨fun hh => hh⟩, ?_⟩
  refine ⟨fun hb11 => ?_, fun hb11 => ?_⟩
  · replace h := h.t hb11
    have c12 := h.1
    refine ⟨c12, ?_⟩
    replace h := h.2 _ rfl
    have h : _ = row := h
    subst h
    repeat' (first | exact trivial | exact rfl | refine And.intro ?_ ?_)
  · replace h := h.f hb11
    have c13 := h.1
    refine ⟨c13, ?_⟩
    replace h := h.2 _ rfl
    have c14 := h.1
    refine ⟨c14, ?_⟩
    replace h := h.2 _ rfl
    have c15 := h.1
    refine ⟨c15, ?_⟩
    replace h := h.2 _ rfl
    refine ⟨⟨fun hh => hh⟩, ?_⟩
    refine ⟨⟨fun hh => hh⟩, ?_⟩
    refine ⟨⟨fun hh => hh⟩, ?_⟩
    have c16 := h.1
    refine ⟨c16, ?_⟩
    replace h := h.2 _ rfl
    refine ⟨⟨fun hh => hh⟩, ?_⟩
    have h : _ = row := h
    subst h
    repeat' (first | exact trivial | exact rfl | refine And.intro ?_ ?_)
def vc25 (E : Env) (x1 : List (List C)) (x2 : Int) (Q : List C → Prop) : Prop :=
  LoopP1 (fun (i3 : Int) (K4 : (Int) → Prop) =>
  Br (E.lt i3 (E.len x1))
    (((E.le 0 i3) = true) ∧ 
      (Br (E.eq (E.gi (E.cell x1 i3 0)) x2)
      (Q [.bool true])
      (K4 ((E.add .i64 i3 1)))))
    (Q [.bool false]))
  (0)
theorem w25 {P : Program} {tbl : FuncId → List A → List C}  {x1 : List (List C)} {x2 : Int} {row : List C} (h : vc25 (stdE P tbl) x1 x2 fun c => c = row) : WPg P tbl rf25 [(false, [.bool])] row [.c (.sl [.int .i64] x1), .c (.int .i64 x2)] := by
  refine ⟨?_⟩
  revert h
  generalize hE : stdE P tbl = E
  intro h
  unfold vc25 at h
  cbv
  obtain ⟨I, μ, h0, hI⟩ := h
  refine LoopW.inv (fun R R' s h k => RCode.wp_mono _ R R' s h k) (fun p : Int => (fun (i3 : Int) => (⟨[.c (.sl [.int .i64] x1), .c (.int .i64 x2), .u, .u, .u, .c (.int .i64 i3), .u, .u, .u, .u, .u, .u, .u, .u, .u, .u, .u, .u], []⟩ : St)) p) (fun p => I p) (fun p => μ p) _ h0 ?_ ?_
  · refine GSt.ren [] rfl rfl rfl (fun i hi => absurd hi (Nat.not_lt_zero i)) (Nat.zero_le _) ?_ ?_
    all_goals (repeat' (first | exact trivial | exact Or.inl rfl | exact Or.inr rfl | refine And.intro ?_ ?_))
  · rintro i3 h
    replace h := hI i3 h
    cbv
    refine ⟨fun hb5 => ?_, fun hb5 => ?_⟩
    · replace h := h.t hb5
      have c6 := h.1
      refine ⟨c6, ?_⟩
      replace h := h.2
      refine ⟨hb5, ?_⟩
      refine ⟨fun hb7 => ?_, fun hb7 => ?_⟩
      · replace h := h.t hb7
        have h : _ = row := h
        subst h
        repeat' (first | exact trivial | exact rfl | refine And.intro ?_ ?_)
      · replace h := h.f hb7
        refine ⟨_, h.1, GSt.ren [] rfl rfl rfl (fun i hi => absurd hi (Nat.not_lt_zero i)) (Nat.zero_le _) ?_ ?_, h.2⟩
        all_goals (repeat' (first | exact trivial | exact Or.inl rfl | exact Or.inr rfl | refine And.intro ?_ ?_))
    · replace h := h.f hb5
      have h : _ = row := h
      subst h
      repeat' (first | exact trivial | exact rfl | refine And.intro ?_ ?_)
def vc27 (E : Env) (x1 : List (List C)) (x2 : List (List C)) (Q : List C → Prop) : Prop :=
  LoopP1 (fun (i3 : Int) (K4 : (Int) → Prop) =>
  Br (E.bite (E.lt i3 (E.len x1)) (E.lt i3 (E.len x2)) false)
    (((E.le 0 i3) = true) ∧ ((E.lt i3 (E.len x1)) = true) ∧ 
      (((E.lt i3 (E.len x2)) = true) ∧ 
      (Br (E.not (E.eq (E.gi (E.cell x1 i3 0)) (E.gi (E.cell x2 i3 0))))
      (Q [.bool (E.lt (E.gi (E.cell x1 i3 0)) (E.gi (E.cell x2 i3 0)))])
      (K4 ((E.add .i64 i3 1))))))
    (Q [.bool false]))
  (0)
theorem w27 {P : Program} {tbl : FuncId → List A → List C}  {x1 : List (List C)} {x2 : List (List C)} {row : List C} (h : vc27 (stdE P tbl) x1 x2 fun c => c = row) : WPg P tbl rf27 [(false, [.bool])] row [.c (.sl [.int .i64] x1), .c (.sl [.int .i64] x2)] := by
  refine ⟨?_⟩
  revert h
  generalize hE : stdE P tbl = E
  intro h
  unfold vc27 at h
  cbv
  obtain ⟨I, μ, h0, hI⟩ := h
  refine LoopW.inv (fun R R' s h k => RCode.wp_mono _ R R' s h k) (fun p : Int => (fun (i3 : Int) => (⟨[.c (.sl [.int .i64] x1), .c (.sl [.int .i64] x2), .u, .u, .u, .c (.int .i64 i3), .u, .u, .u, .u, .u, .u, .u, .u, .u, .u, .u, .u, .u, .u, .u, .u, .u, .u, .u, .u, .u, .u, .u, .u, .u, .u, .u, .u, .u, .u], []⟩ : St)) p) (fun p => I p) (fun p => μ p) _ h0 ?_ ?_
  · refine GSt.ren [] rfl rfl rfl (fun i hi => absurd hi (Nat.not_lt_zero i)) (Nat.zero_le _) ?_ ?_
    all_goals (repeat' (first | exact trivial | exact Or.inl rfl | exact Or.inr rfl | refine And.intro ?_ ?_))
  · rintro i3 h
    replace h := hI i3 h
    cbv
    refine ⟨⟨fun hh => hh⟩, ?_⟩
    refine ⟨⟨fun hh => hh⟩, ?_⟩
    refine ⟨⟨fun hh => hh⟩, ?_⟩
    refine ⟨⟨fun hh => hh⟩, ?_⟩
    refine ⟨fun hb5 => ?_, fun hb5 => ?_⟩
    · replace h := h.t hb5
      have c6 := h.1
      refine ⟨c6, ?_⟩
      replace h := h.2
      have c7 := h.1
      refine ⟨c7, ?_⟩
      replace h := h.2
      refine ⟨c6, ?_⟩
      have c8 := h.1
      refine ⟨c8, ?_⟩
      replace h := h.2
      refine ⟨fun hb9 => ?_, fun hb9 => ?_⟩
      · replace h := h.t hb9
        refine ⟨c6, ?_⟩
        refine ⟨c7, ?_⟩
        refine ⟨c6, ?_⟩
        refine ⟨c8, ?_⟩
        have h : _ = row := h
        subst h
        repeat' (first | exact trivial | exact rfl | refine And.intro ?_ ?_)
      · replace h := h.f hb9
        refine ⟨_, h.1, GSt.ren [] rfl rfl rfl (fun i hi => absurd hi (Nat.not_lt_zero i)) (Nat.zero_le _) ?_ ?_, h.2⟩
        all_goals (repeat' (first | exact trivial | exact Or.inl rfl | exact Or.inr rfl | refine And.intro ?_ ?_))
    · replace h := h.f hb5
      have h : _ = row := h
      subst h
      repeat' (first | exact trivial | exact rfl | refine And.intro ?_ ?_)
def vc8 (E : Env) (x1 : List (List C)) (x2 : Int) (x3 : List (List C)) (x4 : List (List C)) (Q : List C → Prop) : Prop :=
  (E.pok 10 [(false, [.bool])] [.c (.sl [.str, .int .i64, .int .i64, .int .i64, .int .i64, .int .i64, .sl [.int .i64], .int .i64] x1)]) ∧ (∀ r5 : Nat → C, r5 = E.res 10 [.c (.sl [.str, .int .i64, .int .i64, .int .i64, .int .i64, .int .i64, .sl [.int .i64], .int .i64] x1)] → 
  (Br (E.bite (E.bite (E.not (E.gb (r5 0))) true (E.lt 20 (E.len x3))) true (E.lt 20 (E.len x4)))
  ((E.pok 11 [(false, [.bool])] []) ∧ (∀ r6 : Nat → C, r6 = E.res 11 [] → 
    (Q [.bool (E.gb (r6 0))])))
  ((E.pok 22 [(false, [.sl [.int .i64]]), (false, [.int .i64])] [.c (.sl [.str, .int .i64, .int .i64, .int .i64, .int .i64, .int .i64, .sl [.int .i64], .int .i64] x1), .c (.int .i64 x2), .c (.sl [.int .i64] x3)]) ∧ (∀ r7 : Nat → C, r7 = E.res 22 [.c (.sl [.str, .int .i64, .int .i64, .int .i64, .int .i64, .int .i64, .sl [.int .i64], .int .i64] x1), .c (.int .i64 x2), .c (.sl [.int .i64] x3)] → 
    (Br (E.not (E.eq (E.gi (r7 1)) 0))
    ((Imp (E.eq (E.len (E.gl (r7 0))) 0) (E.pok 11 [(false, [.bool])] [])) ∧ (∀ r8 : Nat → C, r8 = E.res 11 [] → 
      (Q [.bool (E.bite (E.eq (E.len (E.gl (r7 0))) 0) (E.gb (r8 0)) false)])))
    ((Imp (E.and (E.not (E.not (E.eq (E.len (E.gl (r7 0))) (E.len x3)))) (E.lt 0 (E.len (E.gl (r7 0))))) ((E.le 0 0) = true)) ∧ (Imp (E.and (E.not (E.not (E.eq (E.len (E.gl (r7 0))) (E.len x3)))) (E.lt 0 (E.len (E.gl (r7 0))))) ((E.lt 0 (E.len (E.gl (r7 0)))) = true)) ∧ 
      ((Imp (E.and (E.not (E.not (E.eq (E.len (E.gl (r7 0))) (E.len x3)))) (E.lt 0 (E.len (E.gl (r7 0))))) ((E.lt 0 (E.len x3)) = true)) ∧ 
      ((Imp (E.not (E.not (E.eq (E.len (E.gl (r7 0))) (E.len x3)))) (Imp (E.lt 0 (E.len (E.gl (r7 0)))) ((E.and (E.not (E.not (E.eq (E.len (E.gl (r7 0))) (E.len x3)))) (E.lt 0 (E.len (E.gl (r7 0))))) = true))) ∧ 
      ((Imp (E.not (E.bite (E.not (E.eq (E.len (E.gl (r7 0))) (E.len x3))) true (E.bite (E.lt 0 (E.len (E.gl (r7 0)))) (E.not (E.eq (E.gi (E.cell (E.gl (r7 0)) 0 0)) (E.gi (E.cell x3 0 0)))) false))) (E.pok 13 [(false, [.int .i64])] [.c (.sl [.str, .int .i64, .int .i64, .int .i64, .int .i64, .int .i64, .sl [.int .i64], .int .i64] x1), .c (.int .i64 x2)])) ∧ (∀ r9 : Nat → C, r9 = E.res 13 [.c (.sl [.str, .int .i64, .int .i64, .int .i64, .int .i64, .int .i64, .sl [.int .i64], .int .i64] x1), .c (.int .i64 x2)] → 
      (Br (E.bite (E.bite (E.not (E.eq (E.len (E.gl (r7 0))) (E.len x3))) true (E.bite (E.lt 0 (E.len (E.gl (r7 0)))) (E.not (E.eq (E.gi (E.cell (E.gl (r7 0)) 0 0)) (E.gi (E.cell x3 0 0)))) false)) true (E.not (E.eq (E.gi (r9 0)) 0)))
      (Q [.bool false])
      (LoopP1 (fun (i10 : Int) (K11 : (Int) → Prop) =>
        Br (E.lt i10 (E.len x3))
          (((E.le 0 i10) = true) ∧ 
            ((Imp (E.not (E.bite (E.lt (E.gi (E.cell x3 i10 0)) 0) true (E.le (E.len x1) (E.gi (E.cell x3 i10 0))))) (E.pok 25 [(false, [.bool])] [.c (.sl [.int .i64] (E.gl (r7 0))), .c (.int .i64 (E.gi (E.cell x3 i10 0)))])) ∧ (∀ r12 : Nat → C, r12 = E.res 25 [.c (.sl [.int .i64] (E.gl (r7 0))), .c (.int .i64 (E.gi (E.cell x3 i10 0)))] → 
            ((Imp (E.not (E.bite (E.bite (E.lt (E.gi (E.cell x3 i10 0)) 0) true (E.le (E.len x1) (E.gi (E.cell x3 i10 0)))) true (E.not (E.gb (r12 0))))) ((E.lt i10 (E.len (E.gl (r7 0)))) = true)) ∧ 
            ((Imp (E.not (E.bite (E.bite (E.bite (E.lt (E.gi (E.cell x3 i10 0)) 0) true (E.le (E.len x1) (E.gi (E.cell x3 i10 0)))) true (E.not (E.gb (r12 0)))) true (E.lt (E.gi (E.cell (E.gl (r7 0)) i10 0)) 0))) ((E.lt i10 (E.len (E.gl (r7 0)))) = true)) ∧ 
            (Br (E.bite (E.bite (E.bite (E.bite (E.lt (E.gi (E.cell x3 i10 0)) 0) true (E.le (E.len x1) (E.gi (E.cell x3 i10 0)))) true (E.not (E.gb (r12 0)))) true (E.lt (E.gi (E.cell (E.gl (r7 0)) i10 0)) 0)) true (E.le (E.len x1) (E.gi (E.cell (E.gl (r7 0)) i10 0))))
            (Q [.bool false])
            (K11 ((E.add .i64 i10 1)))))))))
          (((E.le (E.pl (E.len []) (E.len x3)) 17592186044416) = true) ∧ 
            (LoopP2 (fun (l13 : List (List C)) (i14 : Int) (K15 : (List (List C)) → (Int) → Prop) =>
            Br (E.bite (E.lt (E.add .i64 i14 1) (E.len x4)) (E.lt 1 (E.len l13)) false)
              (((E.le 0 i14) = true) ∧ ((E.lt i14 (E.len x4)) = true) ∧ 
                (((E.eq (E.sub .i64 (E.len l13) 1) 0) = false) ∧ 
                (((E.le 0 (E.add .i64 i14 1)) = true) ∧ ((E.lt (E.add .i64 i14 1) (E.len x4)) = true) ∧ 
                (((E.le 0 (E.add .i64 1 (E.rem .i64 (E.add .i64 (E.rem .i64 (E.gi (E.cell x4 (E.add .i64 i14 1) 0)) (E.sub .i64 (E.len l13) 1)) (E.sub .i64 (E.len l13) 1)) (E.sub .i64 (E.len l13) 1)))) = true) ∧ ((E.lt (E.add .i64 1 (E.rem .i64 (E.add .i64 (E.rem .i64 (E.gi (E.cell x4 (E.add .i64 i14 1) 0)) (E.sub .i64 (E.len l13) 1)) (E.sub .i64 (E.len l13) 1)) (E.sub .i64 (E.len l13) 1))) (E.len l13)) = true) ∧ 
                (((E.le 0 (E.add .i64 1 (E.rem .i64 (E.add .i64 (E.rem .i64 (E.gi (E.cell x4 i14 0)) (E.sub .i64 (E.len l13) 1)) (E.sub .i64 (E.len l13) 1)) (E.sub .i64 (E.len l13) 1)))) = true) ∧ ((E.lt (E.add .i64 1 (E.rem .i64 (E.add .i64 (E.rem .i64 (E.gi (E.cell x4 i14 0)) (E.sub .i64 (E.len l13) 1)) (E.sub .i64 (E.len l13) 1)) (E.sub .i64 (E.len l13) 1))) (E.len l13)) = true) ∧ 
                (((E.lt (E.add .i64 1 (E.rem .i64 (E.add .i64 (E.rem .i64 (E.gi (E.cell x4 (E.add .i64 i14 1) 0)) (E.sub .i64 (E.len l13) 1)) (E.sub .i64 (E.len l13) 1)) (E.sub .i64 (E.len l13) 1))) (E.len (E.upd l13 (E.add .i64 1 (E.rem .i64 (E.add .i64 (E.rem .i64 (E.gi (E.cell x4 i14 0)) (E.sub .i64 (E.len l13) 1)) (E.sub .i64 (E.len l13) 1)) (E.sub .i64 (E.len l13) 1))) 0 (.int .i64 (E.gi (E.cell l13 (E.add .i64 1 (E.rem .i64 (E.add .i64 (E.rem .i64 (E.gi (E.cell x4 (E.add .i64 i14 1) 0)) (E.sub .i64 (E.len l13) 1)) (E.sub .i64 (E.len l13) 1)) (E.sub .i64 (E.len l13) 1))) 0)))))) = true) ∧ 
                (K15 ((E.upd (E.upd l13 (E.add .i64 1 (E.rem .i64 (E.add .i64 (E.rem .i64 (E.gi (E.cell x4 i14 0)) (E.sub .i64 (E.len l13) 1)) (E.sub .i64 (E.len l13) 1)) (E.sub .i64 (E.len l13) 1))) 0 (.int .i64 (E.gi (E.cell l13 (E.add .i64 1 (E.rem .i64 (E.add .i64 (E.rem .i64 (E.gi (E.cell x4 (E.add .i64 i14 1) 0)) (E.sub .i64 (E.len l13) 1)) (E.sub .i64 (E.len l13) 1)) (E.sub .i64 (E.len l13) 1))) 0)))) (E.add .i64 1 (E.rem .i64 (E.add .i64 (E.rem .i64 (E.gi (E.cell x4 (E.add .i64 i14 1) 0)) (E.sub .i64 (E.len l13) 1)) (E.sub .i64 (E.len l13) 1)) (E.sub .i64 (E.len l13) 1))) 0 (.int .i64 (E.gi (E.cell l13 (E.add .i64 1 (E.rem .i64 (E.add .i64 (E.rem .i64 (E.gi (E.cell x4 i14 0)) (E.sub .i64 (E.len l13) 1)) (E.sub .i64 (E.len l13) 1)) (E.sub .i64 (E.len l13) 1))) 0))))) ((E.add .i64 i14 1)))))))))
              ((E.pok 26 [(false, [.int .i64])] [.c (.sl [.str, .int .i64, .int .i64, .int .i64, .int .i64, .int .i64, .sl [.int .i64], .int .i64] x1), .c (.sl [.int .i64] l13)]) ∧ (∀ r16 : Nat → C, r16 = E.res 26 [.c (.sl [.str, .int .i64, .int .i64, .int .i64, .int .i64, .int .i64, .sl [.int .i64], .int .i64] x1), .c (.sl [.int .i64] l13)] → 
                ((E.pok 26 [(false, [.int .i64])] [.c (.sl [.str, .int .i64, .int .i64, .int .i64, .int .i64, .int .i64, .sl [.int .i64], .int .i64] x1), .c (.sl [.int .i64] (E.gl (r7 0)))]) ∧ (∀ r17 : Nat → C, r17 = E.res 26 [.c (.sl [.str, .int .i64, .int .i64, .int .i64, .int .i64, .int .i64, .sl [.int .i64], .int .i64] x1), .c (.sl [.int .i64] (E.gl (r7 0)))] → 
                (Br (E.lt (E.gi (r16 0)) (E.gi (r17 0)))
                (Q [.bool false])
                ((∀ r18 : Nat → C, r18 = E.res 26 [.c (.sl [.str, .int .i64, .int .i64, .int .i64, .int .i64, .int .i64, .sl [.int .i64], .int .i64] x1), .c (.sl [.int .i64] l13)] → 
                  ((∀ r19 : Nat → C, r19 = E.res 26 [.c (.sl [.str, .int .i64, .int .i64, .int .i64, .int .i64, .int .i64, .sl [.int .i64], .int .i64] x1), .c (.sl [.int .i64] (E.gl (r7 0)))] → 
                  ((Imp (E.not (E.lt (E.gi (r19 0)) (E.gi (r18 0)))) (E.pok 27 [(false, [.bool])] [.c (.sl [.int .i64] l13), .c (.sl [.int .i64] (E.gl (r7 0)))])) ∧ (∀ r20 : Nat → C, r20 = E.res 27 [.c (.sl [.int .i64] l13), .c (.sl [.int .i64] (E.gl (r7 0)))] → 
                  ((Imp (E.bite (E.lt (E.gi (r19 0)) (E.gi (r18 0))) true (E.not (E.gb (r20 0)))) (E.pok 11 [(false, [.bool])] [])) ∧ (∀ r21 : Nat → C, r21 = E.res 11 [] → 
                  (Q [.bool (E.bite (E.bite (E.lt (E.gi (r19 0)) (E.gi (r18 0))) true (E.not (E.gb (r20 0)))) (E.gb (r21 0)) false)])))))))))))))))
            ((E.cat [] x3)) (0))))
        (0)))))))))))))
theorem w8 {P : Program} {tbl : FuncId → List A → List C}  {x1 : List (List C)} {x2 : Int} {x3 : List (List C)} {x4 : List (List C)} {row : List C} (h : vc8 (stdE P tbl) x1 x2 x3 x4 fun c => c = row) : WPg P tbl rf8 [(false, [.bool])] row [.c (.sl [.str, .int .i64, .int .i64, .int .i64, .int .i64, .int .i64, .sl [.int .i64], .int .i64] x1), .c (.int .i64 x2), .c (.sl [.int .i64] x3), .c (.sl [.int .i64] x4)] := by
  refine ⟨?_⟩
  revert h
  generalize hE : stdE P tbl = E
  intro h
  unfold vc8 at h
  cbv
  have c22 := h.1
  refine ⟨c22, ?_⟩
  replace h := h.2 _ rfl
  refine ⟨⟨fun hh => hh⟩, ?_⟩
  refine ⟨⟨fun hh => hh⟩, ?_⟩
  refine ⟨⟨fun hh => hh⟩, ?_⟩
  refine ⟨⟨fun hh => hh⟩, ?_⟩
  refine ⟨⟨fun hh => hh⟩, ?_⟩
  refine ⟨⟨fun hh => hh⟩, ?_⟩
  refine ⟨fun hb23 => ?_, fun hb23 => ?_⟩
  · replace h := h.t hb23
    have c24 := h.1
    refine ⟨c24, ?_⟩
    replace h := h.2 _ rfl
    have h : _ = row := h
    subst h
    repeat' (first | exact trivial | exact rfl | refine And.intro ?_ ?_)
  · replace h := h.f hb23
    have c25 := h.1
    refine ⟨c25, ?_⟩
    replace h := h.2 _ rfl
    refine ⟨fun hb26 => ?_, fun hb26 => ?_⟩
    · replace h := h.t hb26
      have c27 := h.1
      refine ⟨c27, ?_⟩
      replace h := h.2 _ rfl
      refine ⟨⟨fun hh => hh⟩, ?_⟩
      have h : _ = row := h
      subst h
      repeat' (first | exact trivial | exact rfl | refine And.intro ?_ ?_)
    · replace h := h.f hb26
      refine ⟨⟨fun hh => hh⟩, ?_⟩
      refine ⟨⟨fun hh => hh⟩, ?_⟩
      refine ⟨⟨fun hh => hh⟩, ?_⟩
      refine ⟨⟨fun hh => hh⟩, ?_⟩
      have c28 := h.1
      refine ⟨c28, ?_⟩
      replace h := h.2
      have c29 := h.1
      refine ⟨c29, ?_⟩
      replace h := h.2
      refine ⟨⟨fun hh => hh⟩, ?_⟩
      refine ⟨⟨fun hh => hh⟩, ?_⟩
      refine ⟨c28, ?_⟩
      have c30 := h.1
      refine ⟨c30, ?_⟩
      replace h := h.2
      refine ⟨⟨fun hh => hh⟩, ?_⟩
      refine ⟨⟨fun hh => hh⟩, ?_⟩
      refine ⟨⟨fun hh => hh⟩, ?_⟩
      refine ⟨⟨fun hh => hh⟩, ?_⟩
      have c31 := h.1
      refine ⟨c31, ?_⟩
      replace h := h.2
      refine ⟨⟨fun hh => hh⟩, ?_⟩
      refine ⟨⟨fun hh => hh⟩, ?_⟩
      refine ⟨⟨fun hh => hh⟩, ?_⟩
      have c32 := h.1
      refine ⟨c32, ?_⟩
      replace h := h.2 _ rfl
      refine ⟨⟨fun hh => hh⟩, ?_⟩
      refine ⟨⟨fun hh => hh⟩, ?_⟩
      refine ⟨fun hb33 => ?_, fun hb33 => ?_⟩
      · replace h := h.t hb33
        have h : _ = row := h
        subst h
        repeat' (first | exact trivial | exact rfl | refine And.intro ?_ ?_)
      · replace h := h.f hb33
        obtain ⟨I, μ, h0, hI⟩ := h
        refine LoopW.inv (fun R R' s h k => RCode.wp_mono _ R R' s h k) (fun p : Int => (fun (i10 : Int) => (⟨[.c (.sl [.str, .int .i64, .int .i64, .int .i64, .int .i64, .int .i64, .sl [.int .i64], .int .i64] x1), .u, .c (.sl [.int .i64] x3), .c (.sl [.int .i64] x4), .u, .u, .u, .u, .u, .c (.sl [.int .i64] (E.gl ((E.res 22 [.c (.sl [.str, .int .i64, .int .i64, .int .i64, .int .i64, .int .i64, .sl [.int .i64], .int .i64] x1), .c (.int .i64 x2), .c (.sl [.int .i64] x3)]) 0))), .u, .c (.int .i64 i10), .u, .u, .u, .u, .u, .u, .u, .u, .u, .u, .u, .u, .u, .u, .u, .u, .u, .u, .u, .u, .u, .u, .u, .u, .u, .u, .u, .u, .u, .u, .u, .u, .u, .u, .u, .u, .u, .u, .u, .u, .u, .u, .u, .u, .u, .u, .u, .u, .u, .u, .u, .u, .u, .u, .u, .u, .u, .u, .u, .u, .u, .u, .u, .u, .u, .u, .u, .u, .u, .u, .u, .u, .u, .u, .u, .u, .u, .u, .u, .u, .u, .u, .u, .u, .u, .u, .u, .u, .u, .u, .u, .u, .u, .u, .u, .u, .u, .u, .u, .u, .u, .u, .u, .u, .u, .u, .u, .u, .u, .u, .u, .u, .u, .u, .u, .u, .u, .u, .u, .u, .u, .u, .u, .u, .u, .u, .u, .u, .u, .u, .u, .u, .u, .u, .u, .u, .u, .u, .u, .u, .u, .u, .u, .u, .u, .u, .u, .u, .u, .u, .u, .u, .u, .u, .u, .u, .u, .u, .u, .u, .u, .u, .u, .u, .u, .u, .u, .u, .u, .u, .u, .u, .u, .u, .u, .u, .u, .u, .u, .u, .u, .u], []⟩ : St)) p) (fun p => I p) (fun p => μ p) _ h0 ?_ ?_
        · refine GSt.ren [] rfl rfl rfl (fun i hi => absurd hi (Nat.not_lt_zero i)) (Nat.zero_le _) ?_ ?_
          all_goals (repeat' (first | exact trivial | exact Or.inl rfl | exact Or.inr rfl | refine And.intro ?_ ?_))
        · rintro i10 h
          replace h := hI i10 h
          cbv
          refine ⟨fun hb34 => ?_, fun hb34 => ?_⟩
          · replace h := h.t hb34
            have c35 := h.1
            refine ⟨c35, ?_⟩
            replace h := h.2
            refine ⟨hb34, ?_⟩
            refine ⟨⟨fun hh => hh⟩, ?_⟩
            refine ⟨⟨fun hh => hh⟩, ?_⟩
            refine ⟨⟨fun _ => c35⟩, ?_⟩
            refine ⟨⟨fun _ => hb34⟩, ?_⟩
            refine ⟨⟨fun hh => hh⟩, ?_⟩
            refine ⟨⟨fun hh => hh⟩, ?_⟩
            refine ⟨⟨fun hh => hh⟩, ?_⟩
            refine ⟨⟨fun hh => hh⟩, ?_⟩
            refine ⟨⟨fun hh => hh⟩, ?_⟩
            refine ⟨⟨fun hh => hh⟩, ?_⟩
            refine ⟨⟨fun hh => hh⟩, ?_⟩
            refine ⟨⟨fun _ => c35⟩, ?_⟩
            refine ⟨⟨fun _ => hb34⟩, ?_⟩
            refine ⟨⟨fun hh => hh⟩, ?_⟩
            refine ⟨⟨fun hh => hh⟩, ?_⟩
            refine ⟨⟨fun hh => hh⟩, ?_⟩
            have c36 := h.1
            refine ⟨c36, ?_⟩
            replace h := h.2 _ rfl
            refine ⟨⟨fun hh => hh⟩, ?_⟩
            refine ⟨⟨fun hh => hh⟩, ?_⟩
            refine ⟨⟨fun hh => hh⟩, ?_⟩
            refine ⟨⟨fun hh => hh⟩, ?_⟩
            refine ⟨⟨fun _ => c35⟩, ?_⟩
            have c37 := h.1
            refine ⟨c37, ?_⟩
            replace h := h.2
            refine ⟨⟨fun hh => hh⟩, ?_⟩
            refine ⟨⟨fun hh => hh⟩, ?_⟩
            refine ⟨⟨fun hh => hh⟩, ?_⟩
            refine ⟨⟨fun hh => hh⟩, ?_⟩
            refine ⟨⟨fun hh => hh⟩, ?_⟩
            refine ⟨⟨fun _ => c35⟩, ?_⟩
            have c38 := h.1
            refine ⟨c38, ?_⟩
            replace h := h.2
            refine ⟨⟨fun hh => hh⟩, ?_⟩
            refine ⟨⟨fun hh => hh⟩, ?_⟩
            refine ⟨⟨fun hh => hh⟩, ?_⟩
            refine ⟨⟨fun hh => hh⟩, ?_⟩
            refine ⟨⟨fun hh => hh⟩, ?_⟩
            refine ⟨fun hb39 => ?_, fun hb39 => ?_⟩
            · replace h := h.t hb39
              have h : _ = row := h
              subst h
              repeat' (first | exact trivial | exact rfl | refine And.intro ?_ ?_)
            · replace h := h.f hb39
              refine ⟨_, h.1, GSt.ren [] rfl rfl rfl (fun i hi => absurd hi (Nat.not_lt_zero i)) (Nat.zero_le _) ?_ ?_, h.2⟩
              all_goals (repeat' (first | exact trivial | exact Or.inl rfl | exact Or.inr rfl | refine And.intro ?_ ?_))
          · replace h := h.f hb34
            have c40 := h.1
            refine ⟨c40, ?_⟩
            replace h := h.2
            obtain ⟨I, μ, h0, hI⟩ := h
            refine LoopW.inv (fun R R' s h k => RCode.wp_mono _ R R' s h k) (fun p : List (List C) × Int => (fun (l13 : List (List C)) (i14 : Int) => (⟨[.c (.sl [.str, .int .i64, .int .i64, .int .i64, .int .i64, .int .i64, .sl [.int .i64], .int .i64] x1), .u, .u, .c (.sl [.int .i64] x4), .u, .u, .u, .u, .u, .c (.sl [.int .i64] (E.gl ((E.res 22 [.c (.sl [.str, .int .i64, .int .i64, .int .i64, .int .i64, .int .i64, .sl [.int .i64], .int .i64] x1), .c (.int .i64 x2), .c (.sl [.int .i64] x3)]) 0))), .u, .u, .gr 0, .c (.int .i64 i14), .u, .u, .u, .u, .u, .u, .u, .u, .u, .u, .u, .u, .u, .u, .u, .u, .u, .u, .u, .u, .u, .u, .u, .u, .u, .u, .u, .u, .u, .u, .u, .u, .u, .u, .u, .u, .u, .u, .u, .u, .u, .u, .u, .u, .u, .u, .u, .u, .u, .u, .u, .u, .u, .u, .u, .u, .u, .u, .u, .u, .u, .u, .u, .u, .u, .u, .u, .u, .u, .u, .u, .u, .u, .u, .u, .u, .u, .u, .u, .u, .u, .u, .u, .u, .u, .u, .u, .u, .u, .u, .u, .u, .u, .u, .u, .u, .u, .u, .u, .u, .u, .u, .u, .u, .u, .u, .u, .u, .u, .u, .u, .u, .u, .u, .u, .u, .u, .u, .u, .u, .u, .u, .u, .u, .u, .u, .u, .u, .u, .u, .u, .u, .u, .u, .u, .u, .u, .u, .u, .u, .u, .u, .u, .u, .u, .u, .u, .u, .u, .u, .u, .u, .u, .u, .u, .u, .u, .u, .u, .u, .u, .u, .u, .u, .u, .u, .u, .u, .u, .u, .u, .u, .u, .u, .u, .u, .u, .u, .u, .u], [.arr 3 [.int .i64] l13]⟩ : St)) p.1 p.2) (fun p => I p.1 p.2) (fun p => μ p.1 p.2) (_, _) h0 ?_ ?_
            · refine GSt.ren [1] rfl rfl rfl (fun i hi => absurd hi (Nat.not_lt_zero i)) (Nat.zero_le _) ?_ ?_
              all_goals (repeat' (first | exact trivial | exact Or.inl rfl | exact Or.inr rfl | refine And.intro ?_ ?_))
            · rintro ⟨l13, i14⟩ h
              replace h := hI l13 i14 h
              cbv
              refine ⟨⟨fun hh => hh⟩, ?_⟩
              refine ⟨⟨fun hh => hh⟩, ?_⟩
              refine ⟨⟨fun hh => hh⟩, ?_⟩
              refine ⟨fun hb41 => ?_, fun hb41 => ?_⟩
              · replace h := h.t hb41
                have c42 := h.1
                refine ⟨c42, ?_⟩
                replace h := h.2
                have c43 := h.1
                refine ⟨c43, ?_⟩
                replace h := h.2
                have c44 := h.1
                refine ⟨c44, ?_⟩
                replace h := h.2
                refine ⟨c44, ?_⟩
                have c45 := h.1
                refine ⟨c45, ?_⟩
                replace h := h.2
                have c46 := h.1
                refine ⟨c46, ?_⟩
                replace h := h.2
                refine ⟨c44, ?_⟩
                refine ⟨c44, ?_⟩
                have c47 := h.1
                refine ⟨c47, ?_⟩
                replace h := h.2
                have c48 := h.1
                refine ⟨c48, ?_⟩
                replace h := h.2
                have c49 := h.1
                refine ⟨c49, ?_⟩
                replace h := h.2
                have c50 := h.1
                refine ⟨c50, ?_⟩
                replace h := h.2
                refine ⟨c49, ?_⟩
                refine ⟨c50, ?_⟩
                refine ⟨c47, ?_⟩
                have c51 := h.1
                refine ⟨c51, ?_⟩
                replace h := h.2
                refine ⟨(_, _), h.1, GSt.ren [0] rfl rfl rfl (fun i hi => absurd hi (Nat.not_lt_zero i)) (Nat.zero_le _) ?_ ?_, h.2⟩
                all_goals (repeat' (first | exact trivial | exact Or.inl rfl | exact Or.inr rfl | refine And.intro ?_ ?_))
              · replace h := h.f hb41
                have c52 := h.1
                refine ⟨c52, ?_⟩
                replace h := h.2 _ rfl
                have c53 := h.1
                refine ⟨c53, ?_⟩
                replace h := h.2 _ rfl
                refine ⟨fun hb54 => ?_, fun hb54 => ?_⟩
                · replace h := h.t hb54
                  have h : _ = row := h
                  subst h
                  repeat' (first | exact trivial | exact rfl | refine And.intro ?_ ?_)
                · replace h := h.f hb54
                  refine ⟨c52, ?_⟩
                  replace h := h _ rfl
                  refine ⟨c53, ?_⟩
                  replace h := h _ rfl
                  refine ⟨⟨fun hh => hh⟩, ?_⟩
                  refine ⟨⟨fun hh => hh⟩, ?_⟩
                  have c55 := h.1
                  refine ⟨c55, ?_⟩
                  replace h := h.2 _ rfl
                  refine ⟨⟨fun hh => hh⟩, ?_⟩
                  refine ⟨⟨fun hh => hh⟩, ?_⟩
                  have c56 := h.1
                  refine ⟨c56, ?_⟩
                  replace h := h.2 _ rfl
                  refine ⟨⟨fun hh => hh⟩, ?_⟩
                  have h : _ = row := h
                  subst h
                  repeat' (first | exact trivial | exact rfl | refine And.intro ?_ ?_)
end Go.Proofs.Ytljnpioekbdcaaa.V
