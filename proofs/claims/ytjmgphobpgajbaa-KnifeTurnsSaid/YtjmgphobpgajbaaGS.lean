/- Knives: the walk of the search. No conditions. -/
import Derived.Test.YtjmgphobpgajbaaOrd
set_option linter.unusedVariables false
set_option linter.unusedSimpArgs false
namespace Go.Proofs.Ytjmgphobpgajbaa.V
open Go Go.Eng
set_option maxRecDepth 1000000
set_option maxHeartbeats 4000000
/-- The positions of patterns as maps. -/
def rowM (P : List (List Int)) : List (List C) := P.map fun p => [.mp .i64 false [.bool] (mpL p)]
def usR (n : Nat) (order : List Int) : List (List C) := (List.range n).map fun (k : Nat) => [.bool (decide ((k : Int) ∈ order))]
def lastP (P : List (List Int)) (order : List Int) : List Int := if order = [] then [] else P.getD (order.getD (order.length - 1) 0).toNat []
/-- The better of what is known and one more. -/
def upd (P : List (List Int)) (s : Int × List Int) (T : List Int) : Int × List Int := if s.1 < 0 ∨ lenL P T < s.1 then (lenL P T, T) else s
structure Sq (m : Nat) (P : List (List Int)) (es : List (Int × List C)) (cost o : Int) (os us : List (List C)) (order left : List Int) : Prop where
  hm : left.length < m
  ho : o = order.length
  hx : os.take order.length = rowsI order
  hl : os.length = 8
  h8 : P.length ≤ 8
  hp : (order ++ left).Perm ((List.range P.length).map fun (k : Nat) => (k : Int))
  hs : left.Pairwise (· < ·)
  hu : us = usR P.length order
  he : es = mpL (lastP P order)
  hc : cost = lenL P (-1 :: order)
  hP : okG P
def spSq (m : Nat) (es : List (Int × List C)) (cost least oo o : Int) (os ss best' : List (List C)) (un : Int) (us : List (List C)) (K : Int → Int → Int → List (List C) → List (List C) → List (List C) → Prop) : Prop :=
  ∃ P order left b, ss = rowM P ∧ oo = 0 ∧ un = P.length ∧ Sq m P es cost o os us order left ∧ best' = rowsI b ∧ ∀ os', os'.length = os.length → os'.take order.length = rowsI order →
    K (upd P (least, -1 :: b) (best P left.length (-1 :: order) left)).1 0 o os' (rowsI (upd P (least, -1 :: b) (best P left.length (-1 :: order) left)).2.tail) us
def spSn (m : Nat) (cost least oo o : Int) (os ss : List (List C)) (un : Int) (us : List (List C)) (K : Int → Int → Int → List (List C) → List (List C) → List (List C) → Prop) : Prop :=
  ∃ P order left, ss = rowM P ∧ oo = 0 ∧ un = P.length ∧ Sq m P [] cost o os us order left ∧ ∀ os', os'.length = os.length → os'.take order.length = rowsI order →
    K (upd P (least, [-1]) (best P left.length (-1 :: order) left)).1 0 o os' (rowsI (upd P (least, [-1]) (best P left.length (-1 :: order) left)).2.tail) us
def sqHeap (least oo o : Int) (os ss : List (List C)) (best' : A) (un : Int) (us : List (List C)) : List O :=
  [.box 3 [iC least], .box 22 [.own 2 oo o], .arr 3 [.int .i64] os, .box 54 [.c (.sl [.mp .i64 false [.bool]] ss)], .box 22 [best'], .box 57 [.own 6 0 un], .arr 4 [.bool] us, .box 58 [.fn 31 [.ptr 0 0, .ptr 1 0, .ptr 3 0, .ptr 4 0, .ptr 5 0, .ptr 7 0]]]
def SeqC (m : Nat) (P : Program) (f : FuncId) : Prop := hasBody P f = true ∧
  (∀ (es : List (Int × List C)) (cost least oo o : Int) (os ss best' : List (List C)) (un : Int) (us : List (List C)) (K : Int → Int → Int → List (List C) → List (List C) → List (List C) → Prop), spSq m es cost least oo o os ss best' un us K →
    ACalls P f [.c (.mp .i64 false [.bool] es), iC cost, .ptr 0 0, .ptr 1 0, .ptr 3 0, .ptr 4 0, .ptr 5 0, .ptr 7 0]
      [.box 3 [iC least], .box 22 [.own 2 oo o], .arr 3 [.int .i64] os, .box 54 [.c (.sl [.mp .i64 false [.bool]] ss)], .box 22 [.c (.sl [.int .i64] best')], .box 57 [.own 6 0 un], .arr 4 [.bool] us, .box 58 [.fn 31 [.ptr 0 0, .ptr 1 0, .ptr 3 0, .ptr 4 0, .ptr 5 0, .ptr 7 0]]]
      fun r H' => ∃ i1 i2 i3 l1 l2 l3, K i1 i2 i3 l1 l2 l3 ∧ r = .tup [] ∧ H' = [.box 3 [iC i1], .box 22 [.own 2 i2 i3], .arr 3 [.int .i64] l1, .box 54 [.c (.sl [.mp .i64 false [.bool]] ss)], .box 22 [.c (.sl [.int .i64] l2)], .box 57 [.own 6 0 un], .arr 4 [.bool] l3, .box 58 [.fn 31 [.ptr 0 0, .ptr 1 0, .ptr 3 0, .ptr 4 0, .ptr 5 0, .ptr 7 0]]]) ∧
  (∀ (cost least oo o : Int) (os ss : List (List C)) (un : Int) (us : List (List C)) (K : Int → Int → Int → List (List C) → List (List C) → List (List C) → Prop), spSn m cost least oo o os ss un us K →
    ACalls P f [.nm, iC cost, .ptr 0 0, .ptr 1 0, .ptr 3 0, .ptr 4 0, .ptr 5 0, .ptr 7 0]
      [.box 3 [iC least], .box 22 [.own 2 oo o], .arr 3 [.int .i64] os, .box 54 [.c (.sl [.mp .i64 false [.bool]] ss)], .box 22 [.c .nil], .box 57 [.own 6 0 un], .arr 4 [.bool] us, .box 58 [.fn 31 [.ptr 0 0, .ptr 1 0, .ptr 3 0, .ptr 4 0, .ptr 5 0, .ptr 7 0]]]
      fun r H' => ∃ i1 i2 i3 l1 l2 l3, K i1 i2 i3 l1 l2 l3 ∧ r = .tup [] ∧ H' = [.box 3 [iC i1], .box 22 [.own 2 i2 i3], .arr 3 [.int .i64] l1, .box 54 [.c (.sl [.mp .i64 false [.bool]] ss)], .box 22 [.c (.sl [.int .i64] l2)], .box 57 [.own 6 0 un], .arr 4 [.bool] l3, .box 58 [.fn 31 [.ptr 0 0, .ptr 1 0, .ptr 3 0, .ptr 4 0, .ptr 5 0, .ptr 7 0]]])
/-- papermill knife.Sequence -/
def rf17 : RFn := ⟨(.seq (.ops 1 [⟨(some 2), (.v (.box 0 24 (.t 0))), none, []⟩, ⟨(some 4), (.v (.mv (.k (.c .nil)))), none, []⟩, ⟨(some 5), (.v (.mv (.k (.c (.int .i64 0))))), none, []⟩, ⟨(some 6), (.v (.mv (.k (.c (.int .i64 0))))), none, []⟩]) (.seq (.ops 1 [⟨(some 15), (.v (.lda 5 (.t 2))), none, []⟩, ⟨(some 16), (.v (.mv (.t 1))), none, []⟩, ⟨(some 17), (.v (.det 30 [⟨false, [(.sl [(.mp .i64 false [.bool])])]⟩, ⟨false, [(.int .i64)]⟩] [(.t 15), (.t 16)])), none, []⟩, ⟨(some 14), (.v (.mv (.t 17))), none, []⟩, ⟨(some 18), (.v (.ext (.t 14) 0)), none, []⟩, ⟨(some 19), (.v (.ext (.t 14) 1)), none, []⟩, ⟨(some 7), (.v (.alloc 0 54 [(.c .nil)])), none, []⟩, ⟨none, (.v (.st 1 (.t 7) (.t 18))), none, []⟩, ⟨(some 8), (.v (.mv (.t 19))), none, []⟩]) (.seq (.seq (.ops 0 [⟨(some 20), (.v (.mv (.t 8))), none, []⟩, ⟨(some 21), (.v (.bin .neq (.t 20) (.k (.c (.int .i64 0))))), none, []⟩]) (.cond (.t 21) (.seq (.ops 0 [⟨(some 22), (.v (.mv (.t 8))), none, []⟩, ⟨(some 4), (.v (.mv (.k (.c .nil)))), none, []⟩, ⟨(some 5), (.v (.mv (.k (.c (.int .i64 0))))), none, []⟩, ⟨(some 6), (.v (.mv (.t 22))), none, []⟩]) .ret) .skip)) (.seq (.ops 1 [⟨(some 9), (.v (.alloc 0 22 [(.c .nil)])), none, []⟩]) (.seq (.ops 1 [⟨(some 10), (.v (.alloc 0 3 [(.c (.int .i64 0))])), none, []⟩, ⟨none, (.v (.st 1 (.t 10) (.k (.c (.int .i64 (-1)))))), none, []⟩]) (.seq (.ops 2 [⟨(some 23), (.v (.ld (.t 7))), none, []⟩, ⟨(some 24), (.v (.lenS (.t 23))), none, []⟩, ⟨(some 25), (.v (.mkx 0 4 [.bool] [(.bool false)] 140737488355328 (.t 24) (.t 24))), none, []⟩, ⟨(some 11), (.v (.alloc 1 57 [(.c .nil)])), none, []⟩, ⟨none, (.v (.st 1 (.t 11) (.t 25))), none, []⟩]) (.seq (.ops 2 [⟨(some 26), (.v (.mkx 0 3 [(.int .i64)] [(.int .i64 0)] 17592186044416 (.k (.c (.int .i64 0))) (.k (.c (.int .i64 8))))), none, []⟩, ⟨(some 12), (.v (.alloc 1 22 [(.c .nil)])), none, []⟩, ⟨none, (.v (.st 1 (.t 12) (.t 26))), none, []⟩]) (.seq (.ops 1 [⟨(some 13), (.v (.alloc 0 58 [.nf])), none, []⟩]) (.seq (.ops 0 [⟨(some 27), (.v (.mkf 31 [(.t 10), (.t 12), (.t 7), (.t 9), (.t 11), (.t 13)])), none, []⟩, ⟨none, (.v (.st 1 (.t 13) (.t 27))), none, []⟩]) (.seq (.ops 0 [⟨(some 28), (.v (.ld (.t 13))), none, []⟩, ⟨(some 29), (.h (.callv (.t 28) [(.k .nm), (.k (.c (.int .i64 0)))])), none, []⟩]) (.seq (.any 0 [⟨0, ⟨[], ⟨(some 30), (.v (.ld (.t 9))), none, []⟩⟩⟩, ⟨1, ⟨[], ⟨(some 31), (.v (.ld (.t 10))), none, []⟩⟩⟩, ⟨2, ⟨[1], ⟨(some 32), (.v (.max (.t 31) [(.k (.c (.int .i64 0)))])), none, []⟩⟩⟩, ⟨3, ⟨[0], ⟨(some 4), (.v (.mv (.t 30))), none, []⟩⟩⟩, ⟨4, ⟨[2, 1, 3, 0], ⟨(some 5), (.v (.mv (.t 32))), none, []⟩⟩⟩, ⟨5, ⟨[4, 2, 1, 3, 0], ⟨(some 6), (.v (.mv (.k (.c (.int .i64 0))))), none, []⟩⟩⟩]) .ret))))))))))), 33, [(.t 4), (.t 5), (.t 6)]⟩
theorem h17 : fnR Try.prog ⟨ms, true, false, true⟩ 17 = some rf17 := by kernel_rfl
/-- papermill knife.Sequence closure 1 -/
def rf31 : RFn := ⟨(.seq (.seq (.ops 0 [⟨(some 11), (.v (.ld (.t 2))), none, []⟩, ⟨(some 12), (.v (.bin .geq (.t 11) (.k (.c (.int .i64 0))))), none, []⟩, ⟨(some 13), (.v (.mv (.t 12))), none, []⟩, ⟨(some 14), (.v (.mv (.t 1))), (some ⟨13, true⟩), [(.t 1)]⟩, ⟨(some 15), (.v (.ld (.t 2))), (some ⟨13, true⟩), [(.t 2)]⟩, ⟨(some 16), (.v (.bin .geq (.t 14) (.t 15))), (some ⟨13, true⟩), [(.t 14), (.t 15)]⟩, ⟨(some 17), (.v (.pick (.t 13) (.t 16) (.k (.c (.bool false))))), none, []⟩]) (.cond (.t 17) .ret .skip)) (.seq (.seq (.ops 0 [⟨(some 18), (.v (.ld (.t 3))), none, []⟩, ⟨(some 19), (.v (.lenS (.t 18))), none, []⟩, ⟨(some 20), (.v (.ld (.t 4))), none, []⟩, ⟨(some 21), (.v (.lenS (.t 20))), none, []⟩, ⟨(some 22), (.v (.bin .eql (.t 19) (.t 21))), none, []⟩]) (.cond (.t 22) (.seq (.ops 0 [⟨(some 23), (.v (.ld (.t 3))), none, []⟩, ⟨(some 24), (.h (.call 32 [(.t 23)])), none, []⟩, ⟨(some 25), (.v (.mv (.t 1))), none, []⟩, ⟨none, (.v (.st 1 (.t 5) (.t 24))), none, []⟩, ⟨none, (.v (.st 1 (.t 2) (.t 25))), none, []⟩]) .ret) .skip)) (.seq (.ops 0 [⟨(some 26), (.v (.ld (.t 4))), none, []⟩, ⟨(some 27), (.v (.lenS (.t 26))), none, []⟩, ⟨(some 28), (.v (.mv (.k (.c (.int .i64 0))))), none, []⟩]) (.block 0 (.loop (.seq (.ops 0 [⟨(some 29), (.v (.bin .lss (.t 28) (.t 27))), none, []⟩]) (.seq (.cond (.t 29) .skip (.exit 0)) (.seq (.block 1 (.seq (.ops 0 [⟨(some 30), (.v (.mv (.t 28))), none, []⟩, ⟨(some 10), (.v (.mv (.t 30))), none, []⟩]) (.seq (.seq (.ops 0 [⟨(some 31), (.v (.ld (.t 6))), none, []⟩, ⟨(some 32), (.v (.mv (.t 10))), none, []⟩, ⟨(some 33), (.v (.ia 1 (.t 31) (.t 32))), none, []⟩, ⟨(some 34), (.v (.ld (.t 33))), none, []⟩]) (.cond (.t 34) (.exit 1) .skip)) (.seq (.any 1 [⟨0, ⟨[], ⟨(some 35), (.v (.ld (.t 6))), none, []⟩⟩⟩, ⟨1, ⟨[], ⟨(some 36), (.v (.mv (.t 10))), none, []⟩⟩⟩, ⟨2, ⟨[], ⟨(some 37), (.v (.ld (.t 3))), none, []⟩⟩⟩, ⟨3, ⟨[], ⟨(some 38), (.v (.mv (.t 10))), none, []⟩⟩⟩, ⟨4, ⟨[3], ⟨(some 39), (.v (.bsl 0 3 [(.int .i64)] [(.t 38)])), none, []⟩⟩⟩, ⟨5, ⟨[2, 4, 3], ⟨(some 40), (.v (.apx 3 [(.int .i64)] (.t 37) (.t 39))), none, []⟩⟩⟩, ⟨6, ⟨[0, 1, 5, 2, 4, 3], ⟨(some 41), (.v (.ia 1 (.t 35) (.t 36))), none, []⟩⟩⟩, ⟨7, ⟨[6, 0, 1, 5, 2, 4, 3], ⟨none, (.v (.st 1 (.t 41) (.k (.c (.bool true))))), none, []⟩⟩⟩, ⟨8, ⟨[7, 6, 0, 1, 5, 2, 4, 3], ⟨none, (.v (.st 1 (.t 3) (.t 40))), none, []⟩⟩⟩]) (.seq (.any 0 [⟨0, ⟨[], ⟨(some 42), (.v (.ld (.t 7))), none, []⟩⟩⟩, ⟨1, ⟨[], ⟨(some 43), (.v (.ld (.t 4))), none, []⟩⟩⟩, ⟨2, ⟨[], ⟨(some 44), (.v (.mv (.t 10))), none, []⟩⟩⟩, ⟨3, ⟨[1, 2], ⟨(some 45), (.v (.ia 1 (.t 43) (.t 44))), none, []⟩⟩⟩, ⟨4, ⟨[3, 1, 2], ⟨(some 46), (.v (.ld (.t 45))), none, []⟩⟩⟩, ⟨5, ⟨[], ⟨(some 47), (.v (.mv (.t 1))), none, []⟩⟩⟩, ⟨6, ⟨[], ⟨(some 48), (.v (.mv (.t 0))), none, []⟩⟩⟩, ⟨7, ⟨[], ⟨(some 49), (.v (.ld (.t 4))), none, []⟩⟩⟩, ⟨8, ⟨[], ⟨(some 50), (.v (.mv (.t 10))), none, []⟩⟩⟩, ⟨9, ⟨[7, 8], ⟨(some 51), (.v (.ia 1 (.t 49) (.t 50))), none, []⟩⟩⟩, ⟨10, ⟨[9, 7, 8], ⟨(some 52), (.v (.ld (.t 51))), none, []⟩⟩⟩, ⟨11, ⟨[6, 10, 9, 7, 8], ⟨(some 53), (.v (.det 28 [⟨false, [(.int .i64)]⟩] [(.t 48), (.t 52)])), none, []⟩⟩⟩, ⟨12, ⟨[5, 11, 6, 10, 9, 7, 8], ⟨(some 54), (.v (.bin .add (.t 47) (.t 53))), none, []⟩⟩⟩, ⟨13, ⟨[0, 4, 3, 1, 2, 12, 5, 11, 6, 10, 9, 7, 8], ⟨(some 55), (.h (.callv (.t 42) [(.t 46), (.t 54)])), none, []⟩⟩⟩]) (.any 0 [⟨0, ⟨[], ⟨(some 56), (.v (.ld (.t 6))), none, []⟩⟩⟩, ⟨1, ⟨[], ⟨(some 57), (.v (.mv (.t 10))), none, []⟩⟩⟩, ⟨2, ⟨[], ⟨(some 58), (.v (.ld (.t 3))), none, []⟩⟩⟩, ⟨3, ⟨[], ⟨(some 59), (.v (.ld (.t 3))), none, []⟩⟩⟩, ⟨4, ⟨[3], ⟨(some 60), (.v (.lenS (.t 59))), none, []⟩⟩⟩, ⟨5, ⟨[4, 3], ⟨(some 61), (.v (.bin .sub (.t 60) (.k (.c (.int .i64 1))))), none, []⟩⟩⟩, ⟨6, ⟨[2, 5, 4, 3], ⟨(some 62), (.v (.slx 1 (.t 58) none (some (.t 61)))), none, []⟩⟩⟩, ⟨7, ⟨[0, 1], ⟨(some 63), (.v (.ia 1 (.t 56) (.t 57))), none, []⟩⟩⟩, ⟨8, ⟨[7, 0, 1], ⟨none, (.v (.st 1 (.t 63) (.k (.c (.bool false))))), none, []⟩⟩⟩, ⟨9, ⟨[6, 2, 5, 4, 3, 8, 7, 0, 1], ⟨none, (.v (.st 1 (.t 3) (.t 62))), none, []⟩⟩⟩])))))) (.ops 0 [⟨(some 64), (.v (.bin .add (.t 28) (.k (.c (.int .i64 1))))), none, []⟩, ⟨(some 28), (.v (.mv (.t 64))), none, []⟩]))))))))), 65, []⟩
theorem h31 : fnR Try.prog ⟨ms, true, false, true⟩ 31 = some rf31 := by kernel_rfl
/-- papermill knife.Cost -/
def rf19 : RFn := ⟨(.seq (.ops 1 [⟨(some 3), (.v (.box 0 24 (.t 0))), none, []⟩, ⟨(some 6), (.v (.mv (.k (.c (.int .i64 0))))), none, []⟩, ⟨(some 7), (.v (.mv (.k (.c (.int .i64 0))))), none, []⟩]) (.seq (.ops 0 [⟨(some 16), (.v (.lda 5 (.t 3))), none, []⟩, ⟨(some 17), (.v (.mv (.t 1))), none, []⟩, ⟨(some 18), (.v (.det 30 [⟨false, [(.sl [(.mp .i64 false [.bool])])]⟩, ⟨false, [(.int .i64)]⟩] [(.t 16), (.t 17)])), none, []⟩, ⟨(some 15), (.v (.mv (.t 18))), none, []⟩, ⟨(some 19), (.v (.ext (.t 15) 0)), none, []⟩, ⟨(some 20), (.v (.ext (.t 15) 1)), none, []⟩, ⟨(some 8), (.v (.mv (.t 19))), none, []⟩, ⟨(some 9), (.v (.mv (.t 20))), none, []⟩]) (.seq (.seq (.ops 0 [⟨(some 21), (.v (.mv (.t 9))), none, []⟩, ⟨(some 22), (.v (.bin .neq (.t 21) (.k (.c (.int .i64 0))))), none, []⟩]) (.cond (.t 22) (.seq (.ops 0 [⟨(some 23), (.v (.mv (.t 9))), none, []⟩, ⟨(some 6), (.v (.mv (.k (.c (.int .i64 0))))), none, []⟩, ⟨(some 7), (.v (.mv (.t 23))), none, []⟩]) .ret) .skip)) (.seq (.seq (.ops 0 [⟨(some 24), (.v (.mv (.t 2))), none, []⟩, ⟨(some 25), (.v (.lenS (.t 24))), none, []⟩, ⟨(some 26), (.v (.mv (.t 1))), none, []⟩, ⟨(some 27), (.v (.lenS (.t 26))), none, []⟩, ⟨(some 28), (.v (.bin .neq (.t 25) (.t 27))), none, []⟩]) (.cond (.t 28) (.seq (.ops 0 [⟨(some 6), (.v (.mv (.k (.c (.int .i64 0))))), none, []⟩, ⟨(some 7), (.v (.mv (.k (.c (.int .i64 3))))), none, []⟩]) .ret) .skip)) (.seq (.ops 0 [⟨(some 10), (.v (.mv (.k (.c (.int .i64 0))))), none, []⟩]) (.seq (.ops 1 [⟨(some 29), (.v (.mkm 0 .i64 false [.bool])), none, []⟩, ⟨(some 11), (.v (.mv (.t 29))), none, []⟩]) (.seq (.ops 0 [⟨(some 12), (.v (.mv (.k .nm))), none, []⟩]) (.seq (.seq (.ops 0 [⟨(some 30), (.v (.mv (.t 2))), none, []⟩, ⟨(some 31), (.v (.lenS (.t 30))), none, []⟩, ⟨(some 32), (.v (.mv (.k (.c (.int .i64 0))))), none, []⟩]) (.block 0 (.loop (.seq (.ops 0 [⟨(some 33), (.v (.bin .lss (.t 32) (.t 31))), none, []⟩]) (.seq (.cond (.t 33) .skip (.exit 0)) (.seq (.block 1 (.seq (.ops 0 [⟨(some 34), (.v (.ia 1 (.t 30) (.t 32))), none, []⟩, ⟨(some 35), (.v (.ld (.t 34))), none, []⟩, ⟨(some 14), (.v (.mv (.t 35))), none, []⟩]) (.seq (.seq (.ops 0 [⟨(some 36), (.v (.mv (.t 14))), none, []⟩, ⟨(some 37), (.v (.bin .lss (.t 36) (.k (.c (.int .i64 0))))), none, []⟩, ⟨(some 38), (.v (.mv (.t 37))), none, []⟩, ⟨(some 39), (.v (.mv (.t 14))), (some ⟨38, false⟩), [(.t 14)]⟩, ⟨(some 40), (.v (.mv (.t 8))), (some ⟨38, false⟩), [(.t 8)]⟩, ⟨(some 41), (.v (.lenS (.t 40))), (some ⟨38, false⟩), [(.t 40)]⟩, ⟨(some 42), (.v (.bin .geq (.t 39) (.t 41))), (some ⟨38, false⟩), [(.t 39), (.t 41)]⟩, ⟨(some 43), (.v (.pick (.t 38) (.k (.c (.bool true))) (.t 42))), none, []⟩, ⟨(some 44), (.v (.mv (.t 43))), none, []⟩, ⟨(some 45), (.v (.mv (.t 11))), (some ⟨44, false⟩), [(.t 11)]⟩, ⟨(some 46), (.v (.mv (.t 14))), (some ⟨44, false⟩), [(.t 14)]⟩, ⟨(some 47), (.v (.lkp (.c (.bool false)) (.t 45) (.t 46) false)), (some ⟨44, false⟩), [(.t 45), (.t 46)]⟩, ⟨(some 48), (.v (.pick (.t 44) (.k (.c (.bool true))) (.t 47))), none, []⟩]) (.cond (.t 48) (.seq (.ops 0 [⟨(some 6), (.v (.mv (.k (.c (.int .i64 0))))), none, []⟩, ⟨(some 7), (.v (.mv (.k (.c (.int .i64 3))))), none, []⟩]) .ret) .skip)) (.seq (.ops 0 [⟨(some 49), (.v (.mv (.t 11))), none, []⟩, ⟨(some 50), (.v (.mv (.t 14))), none, []⟩, ⟨none, (.v (.mup (.t 49) (.t 50) (.k (.c (.bool true))))), none, []⟩]) (.seq (.ops 0 [⟨(some 51), (.v (.mv (.t 10))), none, []⟩, ⟨(some 52), (.v (.mv (.t 12))), none, []⟩, ⟨(some 53), (.v (.mv (.t 8))), none, []⟩, ⟨(some 54), (.v (.mv (.t 14))), none, []⟩, ⟨(some 55), (.v (.ia 1 (.t 53) (.t 54))), none, []⟩, ⟨(some 56), (.v (.ld (.t 55))), none, []⟩, ⟨(some 57), (.v (.det 28 [⟨false, [(.int .i64)]⟩] [(.t 52), (.t 56)])), none, []⟩, ⟨(some 58), (.v (.bin .add (.t 51) (.t 57))), none, []⟩, ⟨(some 10), (.v (.mv (.t 58))), none, []⟩]) (.ops 0 [⟨(some 59), (.v (.mv (.t 8))), none, []⟩, ⟨(some 60), (.v (.mv (.t 14))), none, []⟩, ⟨(some 61), (.v (.ia 1 (.t 59) (.t 60))), none, []⟩, ⟨(some 62), (.v (.ld (.t 61))), none, []⟩, ⟨(some 12), (.v (.mv (.t 62))), none, []⟩])))))) (.ops 0 [⟨(some 63), (.v (.bin .add (.t 32) (.k (.c (.int .i64 1))))), none, []⟩, ⟨(some 32), (.v (.mv (.t 63))), none, []⟩]))))))) (.seq (.ops 0 [⟨(some 64), (.v (.mv (.t 10))), none, []⟩, ⟨(some 6), (.v (.mv (.t 64))), none, []⟩, ⟨(some 7), (.v (.mv (.k (.c (.int .i64 0))))), none, []⟩]) .ret))))))))), 65, [(.t 6), (.t 7)]⟩
theorem h19 : fnR Try.prog DD 19 = some rf19 := by kernel_rfl
/-- papermill papermillref49.best -/
def rf35 : RFn := ⟨(.seq (.ops 0 [⟨(some 6), (.v (.mv (.k (.c .nil)))), none, []⟩]) (.seq (.seq (.ops 0 [⟨(some 11), (.v (.mv (.t 2))), none, []⟩, ⟨(some 12), (.v (.lenS (.t 11))), none, []⟩, ⟨(some 13), (.v (.bin .eql (.t 12) (.k (.c (.int .i64 0))))), none, []⟩]) (.cond (.t 13) (.seq (.ops 0 [⟨(some 14), (.v (.mv (.t 1))), none, []⟩, ⟨(some 6), (.v (.mv (.t 14))), none, []⟩]) .ret) .skip)) (.seq (.ops 0 [⟨(some 7), (.v (.mv (.k (.c .nil)))), none, []⟩]) (.seq (.seq (.ops 0 [⟨(some 8), (.v (.mv (.k (.c (.int .i64 0))))), none, []⟩]) (.block 0 (.loop (.seq (.seq (.ops 0 [⟨(some 15), (.v (.mv (.t 8))), none, []⟩, ⟨(some 16), (.v (.mv (.t 2))), none, []⟩, ⟨(some 17), (.v (.lenS (.t 16))), none, []⟩, ⟨(some 18), (.v (.bin .lss (.t 15) (.t 17))), none, []⟩]) (.cond (.t 18) .skip (.exit 0))) (.seq (.block 1 (.seq (.any 3 [⟨0, ⟨[], ⟨(some 21), (.v (.bsl 0 3 [(.int .i64)] [])), none, []⟩⟩⟩, ⟨1, ⟨[], ⟨(some 22), (.v (.mv (.t 2))), none, []⟩⟩⟩, ⟨2, ⟨[], ⟨(some 23), (.v (.mv (.t 8))), none, []⟩⟩⟩, ⟨3, ⟨[1, 2], ⟨(some 24), (.v (.sls 1 (.t 22) none (some (.t 23)))), none, []⟩⟩⟩, ⟨4, ⟨[0, 3, 1, 2], ⟨(some 25), (.v (.app 1 3 [(.int .i64)] 17592186044416 (.t 21) (.t 24))), none, []⟩⟩⟩, ⟨5, ⟨[], ⟨(some 26), (.v (.mv (.t 2))), none, []⟩⟩⟩, ⟨6, ⟨[], ⟨(some 27), (.v (.mv (.t 8))), none, []⟩⟩⟩, ⟨7, ⟨[6], ⟨(some 28), (.v (.bin .add (.t 27) (.k (.c (.int .i64 1))))), none, []⟩⟩⟩, ⟨8, ⟨[5, 7, 6], ⟨(some 29), (.v (.sls 1 (.t 26) (some (.t 28)) none)), none, []⟩⟩⟩, ⟨9, ⟨[8, 5, 7, 6, 4, 0, 3, 1, 2], ⟨(some 30), (.v (.app 2 3 [(.int .i64)] 17592186044416 (.t 25) (.t 29))), none, []⟩⟩⟩, ⟨10, ⟨[9, 8, 5, 7, 6, 4, 0, 3, 1, 2], ⟨(some 9), (.v (.mv (.t 30))), none, []⟩⟩⟩]) (.seq (.any 4 [⟨0, ⟨[], ⟨(some 31), (.v (.mv (.t 0))), none, []⟩⟩⟩, ⟨1, ⟨[], ⟨(some 32), (.v (.bsl 0 3 [(.int .i64)] [])), none, []⟩⟩⟩, ⟨2, ⟨[], ⟨(some 33), (.v (.mv (.t 1))), none, []⟩⟩⟩, ⟨3, ⟨[1, 2], ⟨(some 34), (.v (.app 1 3 [(.int .i64)] 17592186044416 (.t 32) (.t 33))), none, []⟩⟩⟩, ⟨4, ⟨[], ⟨(some 35), (.v (.mv (.t 2))), none, []⟩⟩⟩, ⟨5, ⟨[], ⟨(some 36), (.v (.mv (.t 8))), none, []⟩⟩⟩, ⟨6, ⟨[4, 5], ⟨(some 37), (.v (.ia 1 (.t 35) (.t 36))), none, []⟩⟩⟩, ⟨7, ⟨[6, 4, 5], ⟨(some 38), (.v (.ld (.t 37))), none, []⟩⟩⟩, ⟨8, ⟨[7, 6, 4, 5], ⟨(some 39), (.v (.bsl 2 3 [(.int .i64)] [(.t 38)])), none, []⟩⟩⟩, ⟨9, ⟨[8, 7, 6, 4, 5, 3, 1, 2], ⟨(some 40), (.v (.app 3 3 [(.int .i64)] 17592186044416 (.t 34) (.t 39))), none, []⟩⟩⟩, ⟨10, ⟨[], ⟨(some 41), (.v (.mv (.t 9))), none, []⟩⟩⟩, ⟨11, ⟨[0, 10, 9, 8, 7, 6, 4, 5, 3, 1, 2], ⟨(some 42), (.v (.det 35 [⟨false, [(.sl [(.int .i64)])]⟩] [(.t 31), (.t 40), (.t 41)])), none, []⟩⟩⟩, ⟨12, ⟨[11, 0, 10, 9, 8, 7, 6, 4, 5, 3, 1, 2], ⟨(some 10), (.v (.mv (.t 42))), none, []⟩⟩⟩]) (.seq (.ops 0 [⟨(some 43), (.v (.mv (.t 7))), none, []⟩, ⟨(some 44), (.v (.lenS (.t 43))), none, []⟩, ⟨(some 45), (.v (.bin .eql (.t 44) (.k (.c (.int .i64 0))))), none, []⟩, ⟨(some 46), (.v (.mv (.t 45))), none, []⟩, ⟨(some 47), (.v (.mv (.t 0))), (some ⟨46, false⟩), [(.t 0)]⟩, ⟨(some 48), (.v (.mv (.t 10))), (some ⟨46, false⟩), [(.t 10)]⟩, ⟨(some 49), (.v (.det 36 [⟨false, [(.int .i64)]⟩] [(.t 47), (.t 48)])), (some ⟨46, false⟩), [(.k (.fn 36 [])), (.t 47), (.t 48)]⟩, ⟨(some 50), (.v (.mv (.t 0))), (some ⟨46, false⟩), [(.t 0)]⟩, ⟨(some 51), (.v (.mv (.t 7))), (some ⟨46, false⟩), [(.t 7)]⟩, ⟨(some 52), (.v (.det 36 [⟨false, [(.int .i64)]⟩] [(.t 50), (.t 51)])), (some ⟨46, false⟩), [(.k (.fn 36 [])), (.t 50), (.t 51)]⟩, ⟨(some 53), (.v (.bin .lss (.t 49) (.t 52))), (some ⟨46, false⟩), [(.t 49), (.t 52)]⟩, ⟨(some 54), (.v (.pick (.t 46) (.k (.c (.bool true))) (.t 53))), none, []⟩]) (.cond (.t 54) (.ops 0 [⟨(some 55), (.v (.mv (.t 10))), none, []⟩, ⟨(some 7), (.v (.mv (.t 55))), none, []⟩]) .skip))))) (.ops 0 [⟨(some 19), (.v (.mv (.t 8))), none, []⟩, ⟨(some 20), (.v (.bin .add (.t 19) (.k (.c (.int .i64 1))))), none, []⟩, ⟨(some 8), (.v (.mv (.t 20))), none, []⟩])))))) (.seq (.ops 0 [⟨(some 56), (.v (.mv (.t 7))), none, []⟩, ⟨(some 6), (.v (.mv (.t 56))), none, []⟩]) .ret))))), 57, [(.t 6)]⟩
theorem h35 : fnR Try.prog DD 35 = some rf35 := by kernel_rfl
/-- papermill papermillref49.cost -/
def rf36 : RFn := ⟨(.seq (.ops 0 [⟨(some 4), (.v (.mv (.k (.c (.int .i64 0))))), none, []⟩]) (.seq (.ops 0 [⟨(some 5), (.v (.mv (.k (.c (.int .i64 0))))), none, []⟩]) (.seq (.seq (.ops 0 [⟨(some 6), (.v (.mv (.k (.c (.int .i64 0))))), none, []⟩]) (.block 0 (.loop (.seq (.seq (.ops 0 [⟨(some 7), (.v (.mv (.t 6))), none, []⟩, ⟨(some 8), (.v (.mv (.t 1))), none, []⟩, ⟨(some 9), (.v (.lenS (.t 8))), none, []⟩, ⟨(some 10), (.v (.bin .lss (.t 7) (.t 9))), none, []⟩]) (.cond (.t 10) .skip (.exit 0))) (.seq (.block 1 (.seq (.ops 0 [⟨(some 13), (.v (.mv (.t 6))), none, []⟩, ⟨(some 14), (.v (.bin .eql (.t 13) (.k (.c (.int .i64 0))))), none, []⟩]) (.cond (.t 14) (.ops 0 [⟨(some 15), (.v (.mv (.t 0))), none, []⟩, ⟨(some 16), (.v (.mv (.t 1))), none, []⟩, ⟨(some 17), (.v (.ia 1 (.t 16) (.k (.c (.int .i64 0))))), none, []⟩, ⟨(some 18), (.v (.ld (.t 17))), none, []⟩, ⟨(some 19), (.v (.ia 1 (.t 15) (.t 18))), none, []⟩, ⟨(some 20), (.v (.ld (.t 19))), none, []⟩, ⟨(some 21), (.v (.lenS (.t 20))), none, []⟩, ⟨(some 5), (.v (.mv (.t 21))), none, []⟩]) (.any 0 [⟨0, ⟨[], ⟨(some 22), (.v (.mv (.t 5))), none, []⟩⟩⟩, ⟨1, ⟨[], ⟨(some 23), (.v (.mv (.t 0))), none, []⟩⟩⟩, ⟨2, ⟨[], ⟨(some 24), (.v (.mv (.t 1))), none, []⟩⟩⟩, ⟨3, ⟨[], ⟨(some 25), (.v (.mv (.t 6))), none, []⟩⟩⟩, ⟨4, ⟨[3], ⟨(some 26), (.v (.bin .sub (.t 25) (.k (.c (.int .i64 1))))), none, []⟩⟩⟩, ⟨5, ⟨[2, 4, 3], ⟨(some 27), (.v (.ia 1 (.t 24) (.t 26))), none, []⟩⟩⟩, ⟨6, ⟨[5, 2, 4, 3], ⟨(some 28), (.v (.ld (.t 27))), none, []⟩⟩⟩, ⟨7, ⟨[1, 6, 5, 2, 4, 3], ⟨(some 29), (.v (.ia 1 (.t 23) (.t 28))), none, []⟩⟩⟩, ⟨8, ⟨[7, 1, 6, 5, 2, 4, 3], ⟨(some 30), (.v (.ld (.t 29))), none, []⟩⟩⟩, ⟨9, ⟨[], ⟨(some 31), (.v (.mv (.t 0))), none, []⟩⟩⟩, ⟨10, ⟨[], ⟨(some 32), (.v (.mv (.t 1))), none, []⟩⟩⟩, ⟨11, ⟨[], ⟨(some 33), (.v (.mv (.t 6))), none, []⟩⟩⟩, ⟨12, ⟨[10, 11], ⟨(some 34), (.v (.ia 1 (.t 32) (.t 33))), none, []⟩⟩⟩, ⟨13, ⟨[12, 10, 11], ⟨(some 35), (.v (.ld (.t 34))), none, []⟩⟩⟩, ⟨14, ⟨[9, 13, 12, 10, 11], ⟨(some 36), (.v (.ia 1 (.t 31) (.t 35))), none, []⟩⟩⟩, ⟨15, ⟨[14, 9, 13, 12, 10, 11], ⟨(some 37), (.v (.ld (.t 36))), none, []⟩⟩⟩, ⟨16, ⟨[8, 7, 1, 6, 5, 2, 4, 3, 15, 14, 9, 13, 12, 10, 11], ⟨(some 38), (.v (.det 29 [⟨false, [(.int .i64)]⟩] [(.t 30), (.t 37)])), none, []⟩⟩⟩, ⟨17, ⟨[0, 16, 8, 7, 1, 6, 5, 2, 4, 3, 15, 14, 9, 13, 12, 10, 11], ⟨(some 39), (.v (.bin .add (.t 22) (.t 38))), none, []⟩⟩⟩, ⟨18, ⟨[17, 0, 16, 8, 7, 1, 6, 5, 2, 4, 3, 15, 14, 9, 13, 12, 10, 11], ⟨(some 5), (.v (.mv (.t 39))), none, []⟩⟩⟩])))) (.ops 0 [⟨(some 11), (.v (.mv (.t 6))), none, []⟩, ⟨(some 12), (.v (.bin .add (.t 11) (.k (.c (.int .i64 1))))), none, []⟩, ⟨(some 6), (.v (.mv (.t 12))), none, []⟩])))))) (.seq (.ops 0 [⟨(some 40), (.v (.mv (.t 5))), none, []⟩, ⟨(some 4), (.v (.mv (.t 40))), none, []⟩]) .ret)))), 41, [(.t 4)]⟩
theorem h36 : fnR Try.prog DD 36 = some rf36 := by kernel_rfl
/-- papermill papermillref49.Sequence -/
def rf18 : RFn := ⟨(.seq (.ops 1 [⟨(some 2), (.v (.box 0 24 (.t 0))), none, []⟩, ⟨(some 4), (.v (.mv (.k (.c .nil)))), none, []⟩, ⟨(some 5), (.v (.mv (.k (.c (.int .i64 0))))), none, []⟩, ⟨(some 6), (.v (.mv (.k (.c (.int .i64 0))))), none, []⟩]) (.seq (.seq (.ops 0 [⟨(some 12), (.v (.lda 5 (.t 2))), none, []⟩, ⟨(some 13), (.v (.mv (.t 1))), none, []⟩, ⟨(some 14), (.v (.det 33 [⟨false, [(.int .i64)]⟩] [(.t 12), (.t 13)])), none, []⟩, ⟨(some 7), (.v (.mv (.t 14))), none, []⟩]) (.seq (.ops 0 [⟨(some 15), (.v (.mv (.t 7))), none, []⟩, ⟨(some 16), (.v (.bin .neq (.t 15) (.k (.c (.int .i64 0))))), none, []⟩]) (.cond (.t 16) (.seq (.ops 0 [⟨(some 17), (.v (.mv (.t 7))), none, []⟩, ⟨(some 4), (.v (.mv (.k (.c .nil)))), none, []⟩, ⟨(some 5), (.v (.mv (.k (.c (.int .i64 0))))), none, []⟩, ⟨(some 6), (.v (.mv (.t 17))), none, []⟩]) .ret) .skip))) (.seq (.ops 0 [⟨(some 8), (.v (.mv (.k (.c .nil)))), none, []⟩]) (.seq (.seq (.ops 0 [⟨(some 9), (.v (.mv (.k (.c (.int .i64 0))))), none, []⟩]) (.block 0 (.loop (.seq (.seq (.ops 0 [⟨(some 18), (.v (.mv (.t 9))), none, []⟩, ⟨(some 19), (.v (.mv (.t 1))), none, []⟩, ⟨(some 20), (.v (.lenS (.t 19))), none, []⟩, ⟨(some 21), (.v (.bin .lss (.t 18) (.t 20))), none, []⟩]) (.cond (.t 21) .skip (.exit 0))) (.seq (.block 1 (.ops 2 [⟨(some 24), (.v (.mv (.t 8))), none, []⟩, ⟨(some 25), (.v (.mv (.t 9))), none, []⟩, ⟨(some 26), (.v (.bsl 0 3 [(.int .i64)] [(.t 25)])), none, []⟩, ⟨(some 27), (.v (.app 1 3 [(.int .i64)] 17592186044416 (.t 24) (.t 26))), none, []⟩, ⟨(some 8), (.v (.mv (.t 27))), none, []⟩])) (.ops 0 [⟨(some 22), (.v (.mv (.t 9))), none, []⟩, ⟨(some 23), (.v (.bin .add (.t 22) (.k (.c (.int .i64 1))))), none, []⟩, ⟨(some 9), (.v (.mv (.t 23))), none, []⟩])))))) (.seq (.ops 0 [⟨(some 28), (.v (.lda 5 (.t 2))), none, []⟩, ⟨(some 29), (.v (.mv (.t 1))), none, []⟩, ⟨(some 30), (.v (.det 34 [⟨false, [(.sl [(.sl [(.int .i64)])])]⟩] [(.t 28), (.t 29)])), none, []⟩, ⟨(some 10), (.v (.mv (.t 30))), none, []⟩]) (.seq (.ops 0 [⟨(some 31), (.v (.mv (.t 10))), none, []⟩, ⟨(some 32), (.v (.mv (.t 8))), none, []⟩, ⟨(some 33), (.v (.det 35 [⟨false, [(.sl [(.int .i64)])]⟩] [(.t 31), (.k (.c .nil)), (.t 32)])), none, []⟩, ⟨(some 11), (.v (.mv (.t 33))), none, []⟩]) (.seq (.ops 0 [⟨(some 34), (.v (.mv (.t 11))), none, []⟩, ⟨(some 35), (.v (.mv (.t 10))), none, []⟩, ⟨(some 36), (.v (.mv (.t 11))), none, []⟩, ⟨(some 37), (.v (.det 36 [⟨false, [(.int .i64)]⟩] [(.t 35), (.t 36)])), none, []⟩, ⟨(some 4), (.v (.mv (.t 34))), none, []⟩, ⟨(some 5), (.v (.mv (.t 37))), none, []⟩, ⟨(some 6), (.v (.mv (.k (.c (.int .i64 0))))), none, []⟩]) .ret))))))), 38, [(.t 4), (.t 5), (.t 6)]⟩
theorem h18 : fnR Try.prog DD 18 = some rf18 := by kernel_rfl
/-- papermill papermillref49.Cost -/
def rf20 : RFn := ⟨(.seq (.ops 1 [⟨(some 3), (.v (.box 0 24 (.t 0))), none, []⟩, ⟨(some 6), (.v (.mv (.k (.c (.int .i64 0))))), none, []⟩, ⟨(some 7), (.v (.mv (.k (.c (.int .i64 0))))), none, []⟩]) (.seq (.seq (.ops 0 [⟨(some 11), (.v (.lda 5 (.t 3))), none, []⟩, ⟨(some 12), (.v (.mv (.t 1))), none, []⟩, ⟨(some 13), (.v (.det 33 [⟨false, [(.int .i64)]⟩] [(.t 11), (.t 12)])), none, []⟩, ⟨(some 8), (.v (.mv (.t 13))), none, []⟩]) (.seq (.ops 0 [⟨(some 14), (.v (.mv (.t 8))), none, []⟩, ⟨(some 15), (.v (.bin .neq (.t 14) (.k (.c (.int .i64 0))))), none, []⟩]) (.cond (.t 15) (.seq (.ops 0 [⟨(some 16), (.v (.mv (.t 8))), none, []⟩, ⟨(some 6), (.v (.mv (.k (.c (.int .i64 0))))), none, []⟩, ⟨(some 7), (.v (.mv (.t 16))), none, []⟩]) .ret) .skip))) (.seq (.seq (.ops 0 [⟨(some 17), (.v (.mv (.t 2))), none, []⟩, ⟨(some 18), (.v (.lenS (.t 17))), none, []⟩, ⟨(some 19), (.v (.mv (.t 1))), none, []⟩, ⟨(some 20), (.v (.lenS (.t 19))), none, []⟩, ⟨(some 21), (.v (.bin .neq (.t 18) (.t 20))), none, []⟩]) (.cond (.t 21) (.seq (.ops 0 [⟨(some 6), (.v (.mv (.k (.c (.int .i64 0))))), none, []⟩, ⟨(some 7), (.v (.mv (.k (.c (.int .i64 3))))), none, []⟩]) .ret) .skip)) (.seq (.ops 0 [⟨(some 9), (.v (.mv (.k (.c .nil)))), none, []⟩]) (.seq (.seq (.ops 0 [⟨(some 10), (.v (.mv (.k (.c (.int .i64 0))))), none, []⟩]) (.block 0 (.loop (.seq (.seq (.ops 0 [⟨(some 22), (.v (.mv (.t 10))), none, []⟩, ⟨(some 23), (.v (.mv (.t 2))), none, []⟩, ⟨(some 24), (.v (.lenS (.t 23))), none, []⟩, ⟨(some 25), (.v (.bin .lss (.t 22) (.t 24))), none, []⟩]) (.cond (.t 25) .skip (.exit 0))) (.seq (.block 1 (.seq (.seq (.ops 0 [⟨(some 28), (.v (.mv (.t 2))), none, []⟩, ⟨(some 29), (.v (.mv (.t 10))), none, []⟩, ⟨(some 30), (.v (.ia 1 (.t 28) (.t 29))), none, []⟩, ⟨(some 31), (.v (.ld (.t 30))), none, []⟩, ⟨(some 32), (.v (.bin .lss (.t 31) (.k (.c (.int .i64 0))))), none, []⟩, ⟨(some 33), (.v (.mv (.t 32))), none, []⟩, ⟨(some 34), (.v (.mv (.t 2))), (some ⟨33, false⟩), [(.t 2)]⟩, ⟨(some 35), (.v (.mv (.t 10))), (some ⟨33, false⟩), [(.t 10)]⟩, ⟨(some 36), (.v (.ia 1 (.t 34) (.t 35))), (some ⟨33, false⟩), [(.t 34), (.t 35)]⟩, ⟨(some 37), (.v (.ld (.t 36))), (some ⟨33, false⟩), [(.t 36)]⟩, ⟨(some 38), (.v (.mv (.t 1))), (some ⟨33, false⟩), [(.t 1)]⟩, ⟨(some 39), (.v (.lenS (.t 38))), (some ⟨33, false⟩), [(.t 38)]⟩, ⟨(some 40), (.v (.bin .geq (.t 37) (.t 39))), (some ⟨33, false⟩), [(.t 37), (.t 39)]⟩, ⟨(some 41), (.v (.pick (.t 33) (.k (.c (.bool true))) (.t 40))), none, []⟩]) (.cond (.t 41) (.seq (.ops 0 [⟨(some 6), (.v (.mv (.k (.c (.int .i64 0))))), none, []⟩, ⟨(some 7), (.v (.mv (.k (.c (.int .i64 3))))), none, []⟩]) .ret) .skip)) (.ops 0 [⟨(some 42), (.v (.mv (.t 9))), none, []⟩, ⟨(some 43), (.v (.mv (.t 2))), none, []⟩, ⟨(some 44), (.v (.mv (.t 10))), none, []⟩, ⟨(some 45), (.v (.ia 1 (.t 43) (.t 44))), none, []⟩, ⟨(some 46), (.v (.ld (.t 45))), none, []⟩, ⟨(some 47), (.v (.det 27 [⟨false, [(.sl [(.int .i64)])]⟩] [(.t 42), (.t 46)])), none, []⟩, ⟨(some 9), (.v (.mv (.t 47))), none, []⟩]))) (.ops 0 [⟨(some 26), (.v (.mv (.t 10))), none, []⟩, ⟨(some 27), (.v (.bin .add (.t 26) (.k (.c (.int .i64 1))))), none, []⟩, ⟨(some 10), (.v (.mv (.t 27))), none, []⟩])))))) (.seq (.seq (.ops 0 [⟨(some 48), (.v (.mv (.t 9))), none, []⟩, ⟨(some 49), (.v (.lenS (.t 48))), none, []⟩, ⟨(some 50), (.v (.mv (.t 1))), none, []⟩, ⟨(some 51), (.v (.lenS (.t 50))), none, []⟩, ⟨(some 52), (.v (.bin .neq (.t 49) (.t 51))), none, []⟩]) (.cond (.t 52) (.seq (.ops 0 [⟨(some 6), (.v (.mv (.k (.c (.int .i64 0))))), none, []⟩, ⟨(some 7), (.v (.mv (.k (.c (.int .i64 3))))), none, []⟩]) .ret) .skip)) (.seq (.ops 0 [⟨(some 53), (.v (.lda 5 (.t 3))), none, []⟩, ⟨(some 54), (.v (.mv (.t 1))), none, []⟩, ⟨(some 55), (.v (.det 34 [⟨false, [(.sl [(.sl [(.int .i64)])])]⟩] [(.t 53), (.t 54)])), none, []⟩, ⟨(some 56), (.v (.mv (.t 2))), none, []⟩, ⟨(some 57), (.v (.det 36 [⟨false, [(.int .i64)]⟩] [(.t 55), (.t 56)])), none, []⟩, ⟨(some 6), (.v (.mv (.t 57))), none, []⟩, ⟨(some 7), (.v (.mv (.k (.c (.int .i64 0))))), none, []⟩]) .ret))))))), 58, [(.t 6), (.t 7)]⟩
theorem h20 : fnR Try.prog DD 20 = some rf20 := by kernel_rfl
def vc31 (E : Env) (nR : Nat) (x1 : List (Int × List C)) (x2 : Int) (x3 : Int) (x10 : Int) (x4 : Int) (x5 : List (List C)) (x6 : List (List C)) (x7 : List (List C)) (x8 : Int) (x9 : List (List C)) (Q0 : (Int) → (Int) → (Int) → (List (List C)) → (List (List C)) → (List (List C)) → Prop) : Prop :=
  Br (E.bite (E.le 0 x3) (E.le x3 x2) false)
  (Q0 (x3) (x10) (x4) (x5) (x7) (x9))
  (Br (E.eq x4 (E.len x6))
    (spCloneK (x5) (x10) (x4) (fun (l7 : List (List C)) => 
      Q0 (x2) (x10) (x4) (x5) (l7) (x9)))
    (LoopP7 (fun (i8 : Int) (i9 : Int) (i10 : Int) (l11 : List (List C)) (l12 : List (List C)) (l13 : List (List C)) (i14 : Int) (K15 : (Int) → (Int) → (Int) → (List (List C)) → (List (List C)) → (List (List C)) → (Int) → Prop) =>
      Br (E.lt i14 (E.len x6))
        (((E.le 0 i14) = true) ∧ ((E.lt i14 x8) = true) ∧ 
          (Br (E.gb (E.cell l13 (E.pl 0 i14) 0))
          (K15 (i8) (i9) (i10) (l11) (l12) (l13) ((E.add .i64 i14 1)))
          (((E.le (E.pl (E.pl i9 i10) (E.len [[.int .i64 i14]])) (E.len l11)) = true) ∧ 
            ((E.pok 28 [(false, [.int .i64])] [.c (.mp .i64 false [.bool] x1), .c (.mp .i64 false [.bool] (E.gm (E.cell x6 i14 0)))]) ∧ (∀ r16 : Nat → C, r16 = E.res 28 [.c (.mp .i64 false [.bool] x1), .c (.mp .i64 false [.bool] (E.gm (E.cell x6 i14 0)))] → 
            (spSq nR ((E.gm (E.cell x6 i14 0))) ((E.add .i64 x2 (E.gi (r16 0)))) (i8) (i9) ((E.pl i10 (E.len [[.int .i64 i14]]))) ((E.cat (E.cut l11 0 (E.pl i9 i10)) (E.cat [[.int .i64 i14]] (E.cut l11 (E.pl (E.pl i9 i10) (E.len [[.int .i64 i14]])) (E.len l11))))) (x6) (l12) (x8) ((E.upd l13 (E.pl 0 i14) 0 (.bool true))) (fun (i17 : Int) (i18 : Int) (i19 : Int) (l20 : List (List C)) (l21 : List (List C)) (l22 : List (List C)) => 
            ((E.le 0 0) = true) ∧ ((E.le 0 (E.sub .i64 i19 1)) = true) ∧ ((E.le (E.pl i18 (E.sub .i64 i19 1)) (E.len l20)) = true) ∧ 
              (K15 (i17) ((E.pl i18 0)) ((E.mi (E.sub .i64 i19 1) 0)) (l20) (l21) ((E.upd l22 (E.pl 0 i14) 0 (.bool false))) ((E.add .i64 i14 1))))))))))
        (Q0 (i8) (i9) (i10) (l11) (l12) (l13)))
      (x3) (x10) (x4) (x5) (x7) (x9) (0)))
theorem w31 {P : Program} {tbl : FuncId → List A → List C} {nR : Nat} {x1 : List (Int × List C)} {x2 : Int} {x3 : Int} {x10 : Int} {x4 : Int} {x5 : List (List C)} {x6 : List (List C)} {x7 : List (List C)} {x8 : Int} {x9 : List (List C)} (ce31 : SeqC nR P 31) (ce32 : CloneCO 3 [.int .i64] P 32) {Q0 : (Int) → (Int) → (Int) → (List (List C)) → (List (List C)) → (List (List C)) → Prop} (h : vc31 (stdE P tbl) nR x1 x2 x3 x10 x4 x5 x6 x7 x8 x9 Q0) : WEg P tbl rf31 (fun r H' => (∃ i1 : Int, ∃ i2 : Int, ∃ i3 : Int, ∃ l4 : List (List C), ∃ l5 : List (List C), ∃ l6 : List (List C), Q0 i1 i2 i3 l4 l5 l6 ∧ r = .tup [] ∧ H' = [.box 3 [.c (.int .i64 i1)], .box 22 [.own 2 i2 i3], .arr 3 [.int .i64] l4, .box 54 [.c (.sl [.mp .i64 false [.bool]] x6)], .box 22 [.c (.sl [.int .i64] l5)], .box 57 [.own 6 0 x8], .arr 4 [.bool] l6, .box 58 [.fn 31 [.ptr 0 0, .ptr 1 0, .ptr 3 0, .ptr 4 0, .ptr 5 0, .ptr 7 0]]])) [.c (.mp .i64 false [.bool] x1), .c (.int .i64 x2), .ptr 0 0, .ptr 1 0, .ptr 3 0, .ptr 4 0, .ptr 5 0, .ptr 7 0] [.box 3 [.c (.int .i64 x3)], .box 22 [.own 2 x10 x4], .arr 3 [.int .i64] x5, .box 54 [.c (.sl [.mp .i64 false [.bool]] x6)], .box 22 [.c (.sl [.int .i64] x7)], .box 57 [.own 6 0 x8], .arr 4 [.bool] x9, .box 58 [.fn 31 [.ptr 0 0, .ptr 1 0, .ptr 3 0, .ptr 4 0, .ptr 5 0, .ptr 7 0]]] := by
  refine ⟨?_⟩
  revert h
  generalize hE : stdE P tbl = E
  intro h
  unfold vc31 at h
  cbv
  refine ⟨⟨fun hh => (by first | exact hh | trivial)⟩, ?_⟩
  refine ⟨⟨fun hh => (by first | exact hh | trivial)⟩, ?_⟩
  refine ⟨⟨fun hh => (by first | exact hh | trivial)⟩, ?_⟩
  refine ⟨fun hb23 => ?_, fun hb23 => ?_⟩
  · replace h := h.t hb23
    refine ⟨_, _, GFin.of (GSt.ren [0, 1, 2, 3, 4, 5, 6, 7] rfl rfl rfl (by decide) (Nat.le_add_left _ _) ?_ ?_), ⟨_, _, _, _, _, _, h, rfl, rfl⟩⟩
    all_goals (repeat' (first | exact trivial | exact Or.inl rfl | exact Or.inr rfl | refine And.intro ?_ ?_))
  · replace h := h.f hb23
    refine ⟨fun hb24 => ?_, fun hb24 => ?_⟩
    · replace h := h.t hb24
      refine HCall.mk ce32.2.1 ((ACalls.frame (ce32.2.2 3 _ _ _ _ h) (H := _) (tgt := [2]) rfl (by decide) ?_).mono fun r H' hq => ?_)
      · intro i o ho
        match i, ho with
        | 0, ho => cases ho; rfl
      obtain ⟨r1, H1', ⟨l7, h, rfl, rfl⟩, _, rfl, rfl⟩ := hq
      cbv
      try refine KeepP.mk (by repeat' (first | exact trivial | exact rfl | refine And.intro ?_ ?_)) ?_
      refine ⟨_, _, GFin.of (GSt.trans (s' := (⟨[.tup []], [.box 3 [.c (.int .i64 x2)], .box 22 [.own 2 x10 x4], .arr 3 [.int .i64] x5, .box 54 [.c (.sl [.mp .i64 false [.bool]] x6)], .box 22 [.c (.sl [.int .i64] l7)], .box 57 [.own 6 0 x8], .arr 4 [.bool] x9, .box 58 [.fn 31 [.ptr 0 0, .ptr 1 0, .ptr 3 0, .ptr 4 0, .ptr 5 0, .ptr 7 0]], .frz [.int .i64] l7]⟩ : St)) (GSt.datBox 4 0 8 (Tb := 22) (T := 3) (cs := [.gr 8]) (lay := [.int .i64]) (xs := l7) rfl rfl rfl) (GSt.ren [0, 1, 2, 3, 4, 5, 6, 7] rfl rfl rfl (by decide) (Nat.le_add_left _ _) ?_ ?_)), ⟨_, _, _, _, _, _, h, rfl, rfl⟩⟩
      all_goals (repeat' (first | exact trivial | exact Or.inl rfl | exact Or.inr rfl | refine And.intro ?_ ?_))
    · replace h := h.f hb24
      obtain ⟨I, μ, h0, hI⟩ := h
      refine LoopW.inv (fun R R' s h k => RCode.wp_mono _ R R' s h k) (fun p : Int × Int × Int × List (List C) × List (List C) × List (List C) × Int => (fun (i8 : Int) (i9 : Int) (i10 : Int) (l11 : List (List C)) (l12 : List (List C)) (l13 : List (List C)) (i14 : Int) => (⟨[.c (.mp .i64 false [.bool] x1), .c (.int .i64 x2), .u, .ptr 1 0, .ptr 3 0, .u, .ptr 5 0, .ptr 7 0, .u, .u, .u, .u, .u, .u, .u, .u, .u, .u, .u, .u, .u, .u, .u, .u, .u, .u, .u, .c (.int .i64 (E.len x6)), .c (.int .i64 i14), .u, .u, .u, .u, .u, .u, .u, .u, .u, .u, .u, .u, .u, .u, .u, .u, .u, .u, .u, .u, .u, .u, .u, .u, .u, .u, .u, .u, .u, .u, .u, .u, .u, .u, .u, .u], [.box 3 [.c (.int .i64 i8)], .box 22 [.own 2 i9 i10], .arr 3 [.int .i64] l11, .box 54 [.c (.sl [.mp .i64 false [.bool]] x6)], .box 22 [.c (.sl [.int .i64] l12)], .box 57 [.own 6 0 x8], .arr 4 [.bool] l13, .box 58 [.fn 31 [.ptr 0 0, .ptr 1 0, .ptr 3 0, .ptr 4 0, .ptr 5 0, .ptr 7 0]]]⟩ : St)) p.1 p.2.1 p.2.2.1 p.2.2.2.1 p.2.2.2.2.1 p.2.2.2.2.2.1 p.2.2.2.2.2.2) (fun p => I p.1 p.2.1 p.2.2.1 p.2.2.2.1 p.2.2.2.2.1 p.2.2.2.2.2.1 p.2.2.2.2.2.2) (fun p => μ p.1 p.2.1 p.2.2.1 p.2.2.2.1 p.2.2.2.2.1 p.2.2.2.2.2.1 p.2.2.2.2.2.2) (_, _, _, _, _, _, _) h0 ?_ ?_
      · refine GSt.ren [0, 1, 2, 3, 4, 5, 6, 7] rfl rfl rfl (by decide) (Nat.le_add_left _ _) ?_ ?_
        all_goals (repeat' (first | exact trivial | exact Or.inl rfl | exact Or.inr rfl | refine And.intro ?_ ?_))
      · rintro ⟨i8, i9, i10, l11, l12, l13, i14⟩ h
        replace h := hI i8 i9 i10 l11 l12 l13 i14 h
        cbv
        refine ⟨fun hb25 => ?_, fun hb25 => ?_⟩
        · replace h := h.t hb25
          have c26 := h.1
          refine ⟨c26, ?_⟩
          replace h := h.2
          have c27 := h.1
          refine ⟨c27, ?_⟩
          replace h := h.2
          refine ⟨fun hb28 => ?_, fun hb28 => ?_⟩
          · replace h := h.t hb28
            refine ⟨(_, _, _, _, _, _, _), h.1, GSt.ren [0, 1, 2, 3, 4, 5, 6, 7] rfl rfl rfl (by decide) (Nat.le_add_left _ _) ?_ ?_, h.2⟩
            all_goals (repeat' (first | exact trivial | exact Or.inl rfl | exact Or.inr rfl | refine And.intro ?_ ?_))
          · replace h := h.f hb28
            have c29 := h.1
            refine ⟨c29, ?_⟩
            replace h := h.2
            refine ⟨c26, ?_⟩
            refine ⟨c27, ?_⟩
            refine ⟨c26, ?_⟩
            refine ⟨hb25, ?_⟩
            refine ⟨c26, ?_⟩
            refine ⟨hb25, ?_⟩
            have c30 := h.1
            refine ⟨c30, ?_⟩
            replace h := h.2 _ rfl
            refine HCall.mk ce31.1 ((ACalls.frame (ce31.2.1 _ _ _ _ _ _ _ _ _ _ _ h) (H := _) (tgt := [0, 1, 2, 3, 4, 5, 6, 7]) rfl (by decide) ?_).mono fun r H' hq => ?_)
            · intro i o ho
              match i, ho with
              | 0, ho => cases ho; rfl
              | 1, ho => cases ho; rfl
              | 2, ho => cases ho; rfl
              | 3, ho => cases ho; rfl
              | 4, ho => cases ho; rfl
              | 5, ho => cases ho; rfl
              | 6, ho => cases ho; rfl
              | 7, ho => cases ho; rfl
            obtain ⟨r1, H1', ⟨i17, i18, i19, l20, l21, l22, h, rfl, rfl⟩, _, rfl, rfl⟩ := hq
            cbv
            try refine KeepP.mk (by repeat' (first | exact trivial | exact rfl | refine And.intro ?_ ?_)) ?_
            have c31 := h.1
            refine ⟨c31, ?_⟩
            replace h := h.2
            have c32 := h.1
            refine ⟨c32, ?_⟩
            replace h := h.2
            have c33 := h.1
            refine ⟨c33, ?_⟩
            replace h := h.2
            refine ⟨c26, ?_⟩
            refine ⟨c27, ?_⟩
            refine ⟨(_, _, _, _, _, _, _), h.1, GSt.ren [0, 1, 2, 3, 4, 5, 6, 7] rfl rfl rfl (by decide) (Nat.le_add_left _ _) ?_ ?_, h.2⟩
            all_goals (repeat' (first | exact trivial | exact Or.inl rfl | exact Or.inr rfl | refine And.intro ?_ ?_))
        · replace h := h.f hb25
          refine ⟨_, _, GFin.of (GSt.ren [0, 1, 2, 3, 4, 5, 6, 7] rfl rfl rfl (by decide) (Nat.le_add_left _ _) ?_ ?_), ⟨_, _, _, _, _, _, h, rfl, rfl⟩⟩
          all_goals (repeat' (first | exact trivial | exact Or.inl rfl | exact Or.inr rfl | refine And.intro ?_ ?_))
def vc17 (E : Env) (x1 : Int) (x2 : Int) (x3 : Int) (x4 : Int) (x5 : List (List C)) (x6 : List (List C)) (Q : List C → Prop) : Prop :=
  (E.pok 30 [(false, [.sl [.mp .i64 false [.bool]]]), (false, [.int .i64])] [.agg [.c (.int .i64 x1), .c (.int .i64 x2), .c (.int .i64 x3), .c (.int .i64 x4), .c (.sl [.int .i64] x5)], .c (.sl [.sl [.int .i64]] x6)]) ∧ (∀ r7 : Nat → C, r7 = E.res 30 [.agg [.c (.int .i64 x1), .c (.int .i64 x2), .c (.int .i64 x3), .c (.int .i64 x4), .c (.sl [.int .i64] x5)], .c (.sl [.sl [.int .i64]] x6)] → 
  (Br (E.not (E.eq (E.gi (r7 1)) 0))
  (Q [.sl [.int .i64] [], .int .i64 0, .int .i64 (E.gi (r7 1))])
  (((E.le 0 (E.len (E.gl (r7 0)))) = true) ∧ ((E.le (E.len (E.gl (r7 0))) (E.len (E.gl (r7 0)))) = true) ∧ ((E.le (E.len (E.gl (r7 0))) 140737488355328) = true) ∧ 
    (((E.le 0 0) = true) ∧ ((E.le 0 8) = true) ∧ ((E.le 8 17592186044416) = true) ∧ 
    (spSn 9 (0) ((-1)) (0) (0) ((E.rep 8 [.int .i64 0])) ((E.gl (r7 0))) ((E.len (E.gl (r7 0)))) ((E.rep (E.len (E.gl (r7 0))) [.bool false])) (fun (i8 : Int) (i9 : Int) (i10 : Int) (l11 : List (List C)) (l12 : List (List C)) (l13 : List (List C)) => 
    Q [.sl [.int .i64] l12, .int .i64 (E.max i8 0), .int .i64 0]))))))
theorem w17 {P : Program} {tbl : FuncId → List A → List C} (ce31 : SeqC 9 P 31) {x1 : Int} {x2 : Int} {x3 : Int} {x4 : Int} {x5 : List (List C)} {x6 : List (List C)} {row : List C} (h : vc17 (stdE P tbl) x1 x2 x3 x4 x5 x6 fun c => c = row) : WPg P tbl rf17 [(false, [.sl [.int .i64]]), (false, [.int .i64]), (false, [.int .i64])] row [.agg [.c (.int .i64 x1), .c (.int .i64 x2), .c (.int .i64 x3), .c (.int .i64 x4), .c (.sl [.int .i64] x5)], .c (.sl [.sl [.int .i64]] x6)] := by
  refine ⟨?_⟩
  revert h
  generalize hE : stdE P tbl = E
  intro h
  unfold vc17 at h
  cbv
  have c14 := h.1
  refine ⟨c14, ?_⟩
  replace h := h.2 _ rfl
  refine ⟨fun hb15 => ?_, fun hb15 => ?_⟩
  · replace h := h.t hb15
    have h : _ = row := h
    subst h
    repeat' (first | exact trivial | exact rfl | refine And.intro ?_ ?_)
  · replace h := h.f hb15
    have c16 := h.1
    refine ⟨c16, ?_⟩
    replace h := h.2
    have c17 := h.1
    refine ⟨c17, ?_⟩
    replace h := h.2
    have c18 := h.1
    refine ⟨c18, ?_⟩
    replace h := h.2
    have c19 := h.1
    refine ⟨c19, ?_⟩
    replace h := h.2
    have c20 := h.1
    refine ⟨c20, ?_⟩
    replace h := h.2
    have c21 := h.1
    refine ⟨c21, ?_⟩
    replace h := h.2
    refine HCall.mk ce31.1 ((ACalls.frame (ce31.2.2 _ _ _ _ _ _ _ _ _ h) (H := _) (tgt := [3, 7, 6, 1, 2, 5, 4, 8]) rfl (by decide) ?_).mono fun r H' hq => ?_)
    · intro i o ho
      match i, ho with
      | 0, ho => cases ho; rfl
      | 1, ho => cases ho; rfl
      | 2, ho => cases ho; rfl
      | 3, ho => cases ho; rfl
      | 4, ho => cases ho; rfl
      | 5, ho => cases ho; rfl
      | 6, ho => cases ho; rfl
      | 7, ho => cases ho; rfl
    obtain ⟨r1, H1', ⟨i8, i9, i10, l11, l12, l13, h, rfl, rfl⟩, _, rfl, rfl⟩ := hq
    cbv
    try refine KeepP.mk (by repeat' (first | exact trivial | exact rfl | refine And.intro ?_ ?_)) ?_
    have h : _ = row := h
    subst h
    repeat' (first | exact trivial | exact rfl | refine And.intro ?_ ?_)
def vc19 (E : Env) (x1 : Int) (x2 : Int) (x3 : Int) (x4 : Int) (x5 : List (List C)) (x6 : List (List C)) (x7 : List (List C)) (Q : List C → Prop) : Prop :=
  (E.pok 30 [(false, [.sl [.mp .i64 false [.bool]]]), (false, [.int .i64])] [.agg [.c (.int .i64 x1), .c (.int .i64 x2), .c (.int .i64 x3), .c (.int .i64 x4), .c (.sl [.int .i64] x5)], .c (.sl [.sl [.int .i64]] x6)]) ∧ (∀ r8 : Nat → C, r8 = E.res 30 [.agg [.c (.int .i64 x1), .c (.int .i64 x2), .c (.int .i64 x3), .c (.int .i64 x4), .c (.sl [.int .i64] x5)], .c (.sl [.sl [.int .i64]] x6)] → 
  (Br (E.not (E.eq (E.gi (r8 1)) 0))
  (Q [.int .i64 0, .int .i64 (E.gi (r8 1))])
  (Br (E.not (E.eq (E.len x7) (E.len x6)))
    (Q [.int .i64 0, .int .i64 3])
    (LoopP4 (fun (i9 : Int) (m10 : List (Int × List C)) (m11 : List (Int × List C)) (i12 : Int) (K13 : (Int) → (List (Int × List C)) → (List (Int × List C)) → (Int) → Prop) =>
      Br (E.lt i12 (E.len x7))
        (((E.le 0 i12) = true) ∧ 
          (Br (E.bite (E.bite (E.lt (E.gi (E.cell x7 i12 0)) 0) true (E.le (E.len (E.gl (r8 0))) (E.gi (E.cell x7 i12 0)))) true (E.gb (E.mlk m10 (E.gi (E.cell x7 i12 0)) 0 (.bool false))))
          (Q [.int .i64 0, .int .i64 3])
          (((E.le 0 (E.gi (E.cell x7 i12 0))) = true) ∧ ((E.lt (E.gi (E.cell x7 i12 0)) (E.len (E.gl (r8 0)))) = true) ∧ 
            ((E.pok 28 [(false, [.int .i64])] [.c (.mp .i64 false [.bool] m11), .c (.mp .i64 false [.bool] (E.gm (E.cell (E.gl (r8 0)) (E.gi (E.cell x7 i12 0)) 0)))]) ∧ (∀ r14 : Nat → C, r14 = E.res 28 [.c (.mp .i64 false [.bool] m11), .c (.mp .i64 false [.bool] (E.gm (E.cell (E.gl (r8 0)) (E.gi (E.cell x7 i12 0)) 0)))] → 
            (K13 ((E.add .i64 i9 (E.gi (r14 0)))) ((E.mset m10 (E.gi (E.cell x7 i12 0)) [.bool true])) ((E.gm (E.cell (E.gl (r8 0)) (E.gi (E.cell x7 i12 0)) 0))) ((E.add .i64 i12 1))))))))
        (Q [.int .i64 i9, .int .i64 0]))
      (0) ([]) ([]) (0)))))
theorem w19 {P : Program} {tbl : FuncId → List A → List C}  {x1 : Int} {x2 : Int} {x3 : Int} {x4 : Int} {x5 : List (List C)} {x6 : List (List C)} {x7 : List (List C)} {row : List C} (h : vc19 (stdE P tbl) x1 x2 x3 x4 x5 x6 x7 fun c => c = row) : WPg P tbl rf19 [(false, [.int .i64]), (false, [.int .i64])] row [.agg [.c (.int .i64 x1), .c (.int .i64 x2), .c (.int .i64 x3), .c (.int .i64 x4), .c (.sl [.int .i64] x5)], .c (.sl [.sl [.int .i64]] x6), .c (.sl [.int .i64] x7)] := by
  refine ⟨?_⟩
  revert h
  generalize hE : stdE P tbl = E
  intro h
  unfold vc19 at h
  cbv
  have c15 := h.1
  refine ⟨c15, ?_⟩
  replace h := h.2 _ rfl
  refine ⟨fun hb16 => ?_, fun hb16 => ?_⟩
  · replace h := h.t hb16
    have h : _ = row := h
    subst h
    repeat' (first | exact trivial | exact rfl | refine And.intro ?_ ?_)
  · replace h := h.f hb16
    refine ⟨fun hb17 => ?_, fun hb17 => ?_⟩
    · replace h := h.t hb17
      have h : _ = row := h
      subst h
      repeat' (first | exact trivial | exact rfl | refine And.intro ?_ ?_)
    · replace h := h.f hb17
      obtain ⟨I, μ, h0, hI⟩ := h
      refine LoopW.inv (fun R R' s h k => RCode.wp_mono _ R R' s h k) (fun p : Int × List (Int × List C) × List (Int × List C) × Int => (fun (i9 : Int) (m10 : List (Int × List C)) (m11 : List (Int × List C)) (i12 : Int) => (⟨[.u, .u, .u, .u, .u, .u, .u, .u, .c (.sl [.mp .i64 false [.bool]] (E.gl ((E.res 30 [.agg [.c (.int .i64 x1), .c (.int .i64 x2), .c (.int .i64 x3), .c (.int .i64 x4), .c (.sl [.int .i64] x5)], .c (.sl [.sl [.int .i64]] x6)]) 0))), .u, .c (.int .i64 i9), .map 0, .c (.mp .i64 false [.bool] m11), .u, .u, .u, .u, .u, .u, .u, .u, .u, .u, .u, .u, .u, .u, .u, .u, .u, .c (.sl [.int .i64] x7), .c (.int .i64 (E.len x7)), .c (.int .i64 i12), .u, .u, .u, .u, .u, .u, .u, .u, .u, .u, .u, .u, .u, .u, .u, .u, .u, .u, .u, .u, .u, .u, .u, .u, .u, .u, .u, .u, .u, .u, .u, .u], [.mp .i64 false [.bool] m10]⟩ : St)) p.1 p.2.1 p.2.2.1 p.2.2.2) (fun p => I p.1 p.2.1 p.2.2.1 p.2.2.2) (fun p => μ p.1 p.2.1 p.2.2.1 p.2.2.2) (_, _, _, _) h0 ?_ ?_
      · refine GSt.trans (GSt.nilMp 12 .i64 false [.bool] rfl rfl) (GSt.ren [1] rfl rfl rfl (fun i hi => absurd hi (Nat.not_lt_zero i)) (Nat.zero_le _) ?_ ?_)
        all_goals (repeat' (first | exact trivial | exact Or.inl rfl | exact Or.inr rfl | refine And.intro ?_ ?_))
      · rintro ⟨i9, m10, m11, i12⟩ h
        replace h := hI i9 m10 m11 i12 h
        cbv
        refine ⟨fun hb18 => ?_, fun hb18 => ?_⟩
        · replace h := h.t hb18
          have c19 := h.1
          refine ⟨c19, ?_⟩
          replace h := h.2
          refine ⟨hb18, ?_⟩
          refine ⟨⟨fun hh => (by first | exact hh | trivial)⟩, ?_⟩
          refine ⟨⟨fun hh => (by first | exact hh | trivial)⟩, ?_⟩
          refine ⟨⟨fun hh => (by first | exact hh | trivial)⟩, ?_⟩
          refine ⟨⟨fun hh => (by first | exact hh | trivial)⟩, ?_⟩
          refine ⟨⟨fun hh => (by first | exact hh | trivial)⟩, ?_⟩
          refine ⟨⟨fun hh => (by first | exact hh | trivial)⟩, ?_⟩
          refine ⟨⟨fun hh => (by first | exact hh | trivial)⟩, ?_⟩
          refine ⟨fun hb20 => ?_, fun hb20 => ?_⟩
          · replace h := h.t hb20
            have h : _ = row := h
            subst h
            repeat' (first | exact trivial | exact rfl | refine And.intro ?_ ?_)
          · replace h := h.f hb20
            have c21 := h.1
            refine ⟨c21, ?_⟩
            replace h := h.2
            have c22 := h.1
            refine ⟨c22, ?_⟩
            replace h := h.2
            have c23 := h.1
            refine ⟨c23, ?_⟩
            replace h := h.2 _ rfl
            refine ⟨c21, ?_⟩
            refine ⟨c22, ?_⟩
            refine ⟨(_, _, _, _), h.1, GSt.ren [0] rfl rfl rfl (fun i hi => absurd hi (Nat.not_lt_zero i)) (Nat.zero_le _) ?_ ?_, h.2⟩
            all_goals (repeat' (first | exact trivial | exact Or.inl rfl | exact Or.inr rfl | refine And.intro ?_ ?_))
        · replace h := h.f hb18
          have h : _ = row := h
          subst h
          repeat' (first | exact trivial | exact rfl | refine And.intro ?_ ?_)
def vc35 (E : Env) (x1 : List (List C)) (x2 : List (List C)) (x3 : List (List C)) (Q : List C → Prop) : Prop :=
  Br (E.eq (E.len x3) 0)
  (Q [.sl [.int .i64] x2])
  (LoopP2 (fun (l4 : List (List C)) (i5 : Int) (K6 : (List (List C)) → (Int) → Prop) =>
    Br (E.lt i5 (E.len x3))
      (((E.le 0 0) = true) ∧ ((E.le 0 i5) = true) ∧ ((E.le i5 (E.len x3)) = true) ∧ 
        (((E.le (E.pl (E.len []) (E.len (E.cut x3 0 i5))) 17592186044416) = true) ∧ 
        (((E.le 0 (E.add .i64 i5 1)) = true) ∧ ((E.le (E.add .i64 i5 1) (E.len x3)) = true) ∧ ((E.le (E.len x3) (E.len x3)) = true) ∧ 
        (((E.le (E.pl (E.len (E.cat [] (E.cut x3 0 i5))) (E.len (E.cut x3 (E.add .i64 i5 1) (E.len x3)))) 17592186044416) = true) ∧ 
        (((E.le (E.pl (E.len []) (E.len x2)) 17592186044416) = true) ∧ 
        (((E.le (E.pl (E.len (E.cat [] x2)) (E.len [[.int .i64 (E.gi (E.cell x3 i5 0))]])) 17592186044416) = true) ∧ 
        ((E.pok 35 [(false, [.sl [.int .i64]])] [.c (.sl [.sl [.int .i64]] x1), .c (.sl [.int .i64] (E.cat (E.cat [] x2) [[.int .i64 (E.gi (E.cell x3 i5 0))]])), .c (.sl [.int .i64] (E.cat (E.cat [] (E.cut x3 0 i5)) (E.cut x3 (E.add .i64 i5 1) (E.len x3))))]) ∧ (∀ r7 : Nat → C, r7 = E.res 35 [.c (.sl [.sl [.int .i64]] x1), .c (.sl [.int .i64] (E.cat (E.cat [] x2) [[.int .i64 (E.gi (E.cell x3 i5 0))]])), .c (.sl [.int .i64] (E.cat (E.cat [] (E.cut x3 0 i5)) (E.cut x3 (E.add .i64 i5 1) (E.len x3))))] → 
        ((Imp (E.not (E.eq (E.len l4) 0)) (E.pok 36 [(false, [.int .i64])] [.c (.sl [.sl [.int .i64]] x1), .c (.sl [.int .i64] (E.gl (r7 0)))])) ∧ (∀ r8 : Nat → C, r8 = E.res 36 [.c (.sl [.sl [.int .i64]] x1), .c (.sl [.int .i64] (E.gl (r7 0)))] → 
        ((Imp (E.not (E.eq (E.len l4) 0)) (E.pok 36 [(false, [.int .i64])] [.c (.sl [.sl [.int .i64]] x1), .c (.sl [.int .i64] l4)])) ∧ (∀ r9 : Nat → C, r9 = E.res 36 [.c (.sl [.sl [.int .i64]] x1), .c (.sl [.int .i64] l4)] → 
        (Br (E.bite (E.eq (E.len l4) 0) true (E.lt (E.gi (r8 0)) (E.gi (r9 0))))
        (K6 ((E.gl (r7 0))) ((E.add .i64 i5 1)))
        (K6 (l4) ((E.add .i64 i5 1))))))))))))))))
      (Q [.sl [.int .i64] l4]))
    ([]) (0))
theorem w35 {P : Program} {tbl : FuncId → List A → List C}  {x1 : List (List C)} {x2 : List (List C)} {x3 : List (List C)} {row : List C} (h : vc35 (stdE P tbl) x1 x2 x3 fun c => c = row) : WPg P tbl rf35 [(false, [.sl [.int .i64]])] row [.c (.sl [.sl [.int .i64]] x1), .c (.sl [.int .i64] x2), .c (.sl [.int .i64] x3)] := by
  refine ⟨?_⟩
  revert h
  generalize hE : stdE P tbl = E
  intro h
  unfold vc35 at h
  cbv
  refine ⟨fun hb10 => ?_, fun hb10 => ?_⟩
  · replace h := h.t hb10
    have h : _ = row := h
    subst h
    repeat' (first | exact trivial | exact rfl | refine And.intro ?_ ?_)
  · replace h := h.f hb10
    obtain ⟨I, μ, h0, hI⟩ := h
    refine LoopW.inv (fun R R' s h k => RCode.wp_mono _ R R' s h k) (fun p : List (List C) × Int => (fun (l4 : List (List C)) (i5 : Int) => (⟨[.c (.sl [.sl [.int .i64]] x1), .c (.sl [.int .i64] x2), .c (.sl [.int .i64] x3), .u, .u, .u, .u, .c (.sl [.int .i64] l4), .c (.int .i64 i5), .u, .u, .u, .u, .u, .u, .u, .u, .u, .u, .u, .u, .u, .u, .u, .u, .u, .u, .u, .u, .u, .u, .u, .u, .u, .u, .u, .u, .u, .u, .u, .u, .u, .u, .u, .u, .u, .u, .u, .u, .u, .u, .u, .u, .u, .u, .u, .u], []⟩ : St)) p.1 p.2) (fun p => I p.1 p.2) (fun p => μ p.1 p.2) (_, _) h0 ?_ ?_
    · refine GSt.trans (GSt.nilSl 7 [.int .i64] rfl) (GSt.ren [] rfl rfl rfl (fun i hi => absurd hi (Nat.not_lt_zero i)) (Nat.zero_le _) ?_ ?_)
      all_goals (repeat' (first | exact trivial | exact Or.inl rfl | exact Or.inr rfl | refine And.intro ?_ ?_))
    · rintro ⟨l4, i5⟩ h
      replace h := hI l4 i5 h
      cbv
      refine ⟨fun hb11 => ?_, fun hb11 => ?_⟩
      · replace h := h.t hb11
        have c12 := h.1
        refine ⟨c12, ?_⟩
        replace h := h.2
        have c13 := h.1
        refine ⟨c13, ?_⟩
        replace h := h.2
        have c14 := h.1
        refine ⟨c14, ?_⟩
        replace h := h.2
        have c15 := h.1
        refine ⟨c15, ?_⟩
        replace h := h.2
        have c16 := h.1
        refine ⟨c16, ?_⟩
        replace h := h.2
        have c17 := h.1
        refine ⟨c17, ?_⟩
        replace h := h.2
        have c18 := h.1
        refine ⟨c18, ?_⟩
        replace h := h.2
        have c19 := h.1
        refine ⟨c19, ?_⟩
        replace h := h.2
        have c20 := h.1
        refine ⟨c20, ?_⟩
        replace h := h.2
        refine ⟨c13, ?_⟩
        refine ⟨hb11, ?_⟩
        have c21 := h.1
        refine ⟨c21, ?_⟩
        replace h := h.2
        have c22 := h.1
        refine ⟨c22, ?_⟩
        replace h := h.2 _ rfl
        refine ⟨⟨fun hh => (by first | exact hh | trivial)⟩, ?_⟩
        refine ⟨⟨fun hh => (by first | exact hh | trivial)⟩, ?_⟩
        have c23 := h.1
        refine ⟨c23, ?_⟩
        replace h := h.2 _ rfl
        refine ⟨⟨fun hh => (by first | exact hh | trivial)⟩, ?_⟩
        refine ⟨⟨fun hh => (by first | exact hh | trivial)⟩, ?_⟩
        have c24 := h.1
        refine ⟨c24, ?_⟩
        replace h := h.2 _ rfl
        refine ⟨⟨fun hh => (by first | exact hh | trivial)⟩, ?_⟩
        refine ⟨⟨fun hh => (by first | exact hh | trivial)⟩, ?_⟩
        refine ⟨⟨fun hh => (by first | exact hh | trivial)⟩, ?_⟩
        refine ⟨fun hb25 => ?_, fun hb25 => ?_⟩
        · replace h := h.t hb25
          refine ⟨(_, _), h.1, GSt.ren [] rfl rfl rfl (fun i hi => absurd hi (Nat.not_lt_zero i)) (Nat.zero_le _) ?_ ?_, h.2⟩
          all_goals (repeat' (first | exact trivial | exact Or.inl rfl | exact Or.inr rfl | refine And.intro ?_ ?_))
        · replace h := h.f hb25
          refine ⟨(_, _), h.1, GSt.ren [] rfl rfl rfl (fun i hi => absurd hi (Nat.not_lt_zero i)) (Nat.zero_le _) ?_ ?_, h.2⟩
          all_goals (repeat' (first | exact trivial | exact Or.inl rfl | exact Or.inr rfl | refine And.intro ?_ ?_))
      · replace h := h.f hb11
        have h : _ = row := h
        subst h
        repeat' (first | exact trivial | exact rfl | refine And.intro ?_ ?_)
def vc36 (E : Env) (x1 : List (List C)) (x2 : List (List C)) (Q : List C → Prop) : Prop :=
  LoopP2 (fun (i3 : Int) (i4 : Int) (K5 : (Int) → (Int) → Prop) =>
  Br (E.lt i4 (E.len x2))
    (Br (E.eq i4 0)
      (((E.le 0 0) = true) ∧ ((E.lt 0 (E.len x2)) = true) ∧ 
        (((E.le 0 (E.gi (E.cell x2 0 0))) = true) ∧ ((E.lt (E.gi (E.cell x2 0 0)) (E.len x1)) = true) ∧ 
        (K5 ((E.len (E.gl (E.cell x1 (E.gi (E.cell x2 0 0)) 0)))) ((E.add .i64 i4 1)))))
      (((E.le 0 (E.sub .i64 i4 1)) = true) ∧ ((E.lt (E.sub .i64 i4 1) (E.len x2)) = true) ∧ 
        (((E.le 0 (E.gi (E.cell x2 (E.sub .i64 i4 1) 0))) = true) ∧ ((E.lt (E.gi (E.cell x2 (E.sub .i64 i4 1) 0)) (E.len x1)) = true) ∧ 
        (((E.le 0 i4) = true) ∧ 
        (((E.le 0 (E.gi (E.cell x2 i4 0))) = true) ∧ ((E.lt (E.gi (E.cell x2 i4 0)) (E.len x1)) = true) ∧ 
        ((E.pok 29 [(false, [.int .i64])] [.c (.sl [.int .i64] (E.gl (E.cell x1 (E.gi (E.cell x2 (E.sub .i64 i4 1) 0)) 0))), .c (.sl [.int .i64] (E.gl (E.cell x1 (E.gi (E.cell x2 i4 0)) 0)))]) ∧ (∀ r6 : Nat → C, r6 = E.res 29 [.c (.sl [.int .i64] (E.gl (E.cell x1 (E.gi (E.cell x2 (E.sub .i64 i4 1) 0)) 0))), .c (.sl [.int .i64] (E.gl (E.cell x1 (E.gi (E.cell x2 i4 0)) 0)))] → 
        (K5 ((E.add .i64 i3 (E.gi (r6 0)))) ((E.add .i64 i4 1))))))))))
    (Q [.int .i64 i3]))
  (0) (0)
theorem w36 {P : Program} {tbl : FuncId → List A → List C}  {x1 : List (List C)} {x2 : List (List C)} {row : List C} (h : vc36 (stdE P tbl) x1 x2 fun c => c = row) : WPg P tbl rf36 [(false, [.int .i64])] row [.c (.sl [.sl [.int .i64]] x1), .c (.sl [.int .i64] x2)] := by
  refine ⟨?_⟩
  revert h
  generalize hE : stdE P tbl = E
  intro h
  unfold vc36 at h
  cbv
  obtain ⟨I, μ, h0, hI⟩ := h
  refine LoopW.inv (fun R R' s h k => RCode.wp_mono _ R R' s h k) (fun p : Int × Int => (fun (i3 : Int) (i4 : Int) => (⟨[.c (.sl [.sl [.int .i64]] x1), .c (.sl [.int .i64] x2), .u, .u, .u, .c (.int .i64 i3), .c (.int .i64 i4), .u, .u, .u, .u, .u, .u, .u, .u, .u, .u, .u, .u, .u, .u, .u, .u, .u, .u, .u, .u, .u, .u, .u, .u, .u, .u, .u, .u, .u, .u, .u, .u, .u, .u], []⟩ : St)) p.1 p.2) (fun p => I p.1 p.2) (fun p => μ p.1 p.2) (_, _) h0 ?_ ?_
  · refine GSt.ren [] rfl rfl rfl (fun i hi => absurd hi (Nat.not_lt_zero i)) (Nat.zero_le _) ?_ ?_
    all_goals (repeat' (first | exact trivial | exact Or.inl rfl | exact Or.inr rfl | refine And.intro ?_ ?_))
  · rintro ⟨i3, i4⟩ h
    replace h := hI i3 i4 h
    cbv
    refine ⟨fun hb7 => ?_, fun hb7 => ?_⟩
    · replace h := h.t hb7
      refine ⟨fun hb8 => ?_, fun hb8 => ?_⟩
      · replace h := h.t hb8
        have c9 := h.1
        refine ⟨c9, ?_⟩
        replace h := h.2
        have c10 := h.1
        refine ⟨c10, ?_⟩
        replace h := h.2
        have c11 := h.1
        refine ⟨c11, ?_⟩
        replace h := h.2
        have c12 := h.1
        refine ⟨c12, ?_⟩
        replace h := h.2
        refine ⟨(_, _), h.1, GSt.ren [] rfl rfl rfl (fun i hi => absurd hi (Nat.not_lt_zero i)) (Nat.zero_le _) ?_ ?_, h.2⟩
        all_goals (repeat' (first | exact trivial | exact Or.inl rfl | exact Or.inr rfl | refine And.intro ?_ ?_))
      · replace h := h.f hb8
        have c13 := h.1
        refine ⟨c13, ?_⟩
        replace h := h.2
        have c14 := h.1
        refine ⟨c14, ?_⟩
        replace h := h.2
        have c15 := h.1
        refine ⟨c15, ?_⟩
        replace h := h.2
        have c16 := h.1
        refine ⟨c16, ?_⟩
        replace h := h.2
        have c17 := h.1
        refine ⟨c17, ?_⟩
        replace h := h.2
        refine ⟨hb7, ?_⟩
        have c18 := h.1
        refine ⟨c18, ?_⟩
        replace h := h.2
        have c19 := h.1
        refine ⟨c19, ?_⟩
        replace h := h.2
        have c20 := h.1
        refine ⟨c20, ?_⟩
        replace h := h.2 _ rfl
        refine ⟨(_, _), h.1, GSt.ren [] rfl rfl rfl (fun i hi => absurd hi (Nat.not_lt_zero i)) (Nat.zero_le _) ?_ ?_, h.2⟩
        all_goals (repeat' (first | exact trivial | exact Or.inl rfl | exact Or.inr rfl | refine And.intro ?_ ?_))
    · replace h := h.f hb7
      have h : _ = row := h
      subst h
      repeat' (first | exact trivial | exact rfl | refine And.intro ?_ ?_)
def vc18 (E : Env) (x1 : Int) (x2 : Int) (x3 : Int) (x4 : Int) (x5 : List (List C)) (x6 : List (List C)) (Q : List C → Prop) : Prop :=
  (E.pok 33 [(false, [.int .i64])] [.agg [.c (.int .i64 x1), .c (.int .i64 x2), .c (.int .i64 x3), .c (.int .i64 x4), .c (.sl [.int .i64] x5)], .c (.sl [.sl [.int .i64]] x6)]) ∧ (∀ r7 : Nat → C, r7 = E.res 33 [.agg [.c (.int .i64 x1), .c (.int .i64 x2), .c (.int .i64 x3), .c (.int .i64 x4), .c (.sl [.int .i64] x5)], .c (.sl [.sl [.int .i64]] x6)] → 
  (Br (E.not (E.eq (E.gi (r7 0)) 0))
  (Q [.sl [.int .i64] [], .int .i64 0, .int .i64 (E.gi (r7 0))])
  (LoopP2 (fun (l8 : List (List C)) (i9 : Int) (K10 : (List (List C)) → (Int) → Prop) =>
    Br (E.lt i9 (E.len x6))
      (((E.le (E.pl (E.len l8) (E.len [[.int .i64 i9]])) 17592186044416) = true) ∧ 
        (K10 ((E.cat l8 [[.int .i64 i9]])) ((E.add .i64 i9 1))))
      ((E.pok 34 [(false, [.sl [.sl [.int .i64]]])] [.agg [.c (.int .i64 x1), .c (.int .i64 x2), .c (.int .i64 x3), .c (.int .i64 x4), .c (.sl [.int .i64] x5)], .c (.sl [.sl [.int .i64]] x6)]) ∧ (∀ r11 : Nat → C, r11 = E.res 34 [.agg [.c (.int .i64 x1), .c (.int .i64 x2), .c (.int .i64 x3), .c (.int .i64 x4), .c (.sl [.int .i64] x5)], .c (.sl [.sl [.int .i64]] x6)] → 
        ((E.pok 35 [(false, [.sl [.int .i64]])] [.c (.sl [.sl [.int .i64]] (E.gl (r11 0))), .c (.nil), .c (.sl [.int .i64] l8)]) ∧ (∀ r12 : Nat → C, r12 = E.res 35 [.c (.sl [.sl [.int .i64]] (E.gl (r11 0))), .c (.nil), .c (.sl [.int .i64] l8)] → 
        ((E.pok 36 [(false, [.int .i64])] [.c (.sl [.sl [.int .i64]] (E.gl (r11 0))), .c (.sl [.int .i64] (E.gl (r12 0)))]) ∧ (∀ r13 : Nat → C, r13 = E.res 36 [.c (.sl [.sl [.int .i64]] (E.gl (r11 0))), .c (.sl [.int .i64] (E.gl (r12 0)))] → 
        (Q [.sl [.int .i64] (E.gl (r12 0)), .int .i64 (E.gi (r13 0)), .int .i64 0]))))))))
    ([]) (0))))
theorem w18 {P : Program} {tbl : FuncId → List A → List C}  {x1 : Int} {x2 : Int} {x3 : Int} {x4 : Int} {x5 : List (List C)} {x6 : List (List C)} {row : List C} (h : vc18 (stdE P tbl) x1 x2 x3 x4 x5 x6 fun c => c = row) : WPg P tbl rf18 [(false, [.sl [.int .i64]]), (false, [.int .i64]), (false, [.int .i64])] row [.agg [.c (.int .i64 x1), .c (.int .i64 x2), .c (.int .i64 x3), .c (.int .i64 x4), .c (.sl [.int .i64] x5)], .c (.sl [.sl [.int .i64]] x6)] := by
  refine ⟨?_⟩
  revert h
  generalize hE : stdE P tbl = E
  intro h
  unfold vc18 at h
  cbv
  have c14 := h.1
  refine ⟨c14, ?_⟩
  replace h := h.2 _ rfl
  refine ⟨fun hb15 => ?_, fun hb15 => ?_⟩
  · replace h := h.t hb15
    have h : _ = row := h
    subst h
    repeat' (first | exact trivial | exact rfl | refine And.intro ?_ ?_)
  · replace h := h.f hb15
    obtain ⟨I, μ, h0, hI⟩ := h
    refine LoopW.inv (fun R R' s h k => RCode.wp_mono _ R R' s h k) (fun p : List (List C) × Int => (fun (l8 : List (List C)) (i9 : Int) => (⟨[.u, .c (.sl [.sl [.int .i64]] x6), .ptr 0 0, .u, .u, .u, .u, .u, .gr 1, .c (.int .i64 i9), .u, .u, .u, .u, .u, .u, .u, .u, .u, .u, .u, .u, .u, .u, .u, .u, .u, .u, .u, .u, .u, .u, .u, .u, .u, .u, .u, .u], [.box 24 [.c (.int .i64 x1), .c (.int .i64 x2), .c (.int .i64 x3), .c (.int .i64 x4), .c (.sl [.int .i64] x5)], .arr 3 [.int .i64] l8]⟩ : St)) p.1 p.2) (fun p => I p.1 p.2) (fun p => μ p.1 p.2) (_, _) h0 ?_ ?_
    · refine GSt.trans (GSt.nil 8 3 [.int .i64] rfl) (GSt.ren [0, 1] rfl rfl rfl (fun i hi => absurd hi (Nat.not_lt_zero i)) (Nat.zero_le _) ?_ ?_)
      all_goals (repeat' (first | exact trivial | exact Or.inl rfl | exact Or.inr rfl | refine And.intro ?_ ?_))
    · rintro ⟨l8, i9⟩ h
      replace h := hI l8 i9 h
      cbv
      refine ⟨fun hb16 => ?_, fun hb16 => ?_⟩
      · replace h := h.t hb16
        have c17 := h.1
        refine ⟨c17, ?_⟩
        replace h := h.2
        refine ⟨(_, _), h.1, GSt.ren [0, 3] rfl rfl rfl (fun i hi => absurd hi (Nat.not_lt_zero i)) (Nat.zero_le _) ?_ ?_, h.2⟩
        all_goals (repeat' (first | exact trivial | exact Or.inl rfl | exact Or.inr rfl | refine And.intro ?_ ?_))
      · replace h := h.f hb16
        have c18 := h.1
        refine ⟨c18, ?_⟩
        replace h := h.2 _ rfl
        have c19 := h.1
        refine ⟨c19, ?_⟩
        replace h := h.2 _ rfl
        have c20 := h.1
        refine ⟨c20, ?_⟩
        replace h := h.2 _ rfl
        have h : _ = row := h
        subst h
        repeat' (first | exact trivial | exact rfl | refine And.intro ?_ ?_)
def vc20 (E : Env) (x1 : Int) (x2 : Int) (x3 : Int) (x4 : Int) (x5 : List (List C)) (x6 : List (List C)) (x7 : List (List C)) (Q : List C → Prop) : Prop :=
  (E.pok 33 [(false, [.int .i64])] [.agg [.c (.int .i64 x1), .c (.int .i64 x2), .c (.int .i64 x3), .c (.int .i64 x4), .c (.sl [.int .i64] x5)], .c (.sl [.sl [.int .i64]] x6)]) ∧ (∀ r8 : Nat → C, r8 = E.res 33 [.agg [.c (.int .i64 x1), .c (.int .i64 x2), .c (.int .i64 x3), .c (.int .i64 x4), .c (.sl [.int .i64] x5)], .c (.sl [.sl [.int .i64]] x6)] → 
  (Br (E.not (E.eq (E.gi (r8 0)) 0))
  (Q [.int .i64 0, .int .i64 (E.gi (r8 0))])
  (Br (E.not (E.eq (E.len x7) (E.len x6)))
    (Q [.int .i64 0, .int .i64 3])
    (LoopP2 (fun (l9 : List (List C)) (i10 : Int) (K11 : (List (List C)) → (Int) → Prop) =>
      Br (E.lt i10 (E.len x7))
        (((E.le 0 i10) = true) ∧ 
          (Br (E.bite (E.lt (E.gi (E.cell x7 i10 0)) 0) true (E.le (E.len x6) (E.gi (E.cell x7 i10 0))))
          (Q [.int .i64 0, .int .i64 3])
          ((E.pok 27 [(false, [.sl [.int .i64]])] [.c (.sl [.int .i64] l9), .c (.int .i64 (E.gi (E.cell x7 i10 0)))]) ∧ (∀ r12 : Nat → C, r12 = E.res 27 [.c (.sl [.int .i64] l9), .c (.int .i64 (E.gi (E.cell x7 i10 0)))] → 
            (K11 ((E.gl (r12 0))) ((E.add .i64 i10 1)))))))
        (Br (E.not (E.eq (E.len l9) (E.len x6)))
          (Q [.int .i64 0, .int .i64 3])
          ((E.pok 34 [(false, [.sl [.sl [.int .i64]]])] [.agg [.c (.int .i64 x1), .c (.int .i64 x2), .c (.int .i64 x3), .c (.int .i64 x4), .c (.sl [.int .i64] x5)], .c (.sl [.sl [.int .i64]] x6)]) ∧ (∀ r13 : Nat → C, r13 = E.res 34 [.agg [.c (.int .i64 x1), .c (.int .i64 x2), .c (.int .i64 x3), .c (.int .i64 x4), .c (.sl [.int .i64] x5)], .c (.sl [.sl [.int .i64]] x6)] → 
            ((E.pok 36 [(false, [.int .i64])] [.c (.sl [.sl [.int .i64]] (E.gl (r13 0))), .c (.sl [.int .i64] x7)]) ∧ (∀ r14 : Nat → C, r14 = E.res 36 [.c (.sl [.sl [.int .i64]] (E.gl (r13 0))), .c (.sl [.int .i64] x7)] → 
            (Q [.int .i64 (E.gi (r14 0)), .int .i64 0])))))))
      ([]) (0)))))
theorem w20 {P : Program} {tbl : FuncId → List A → List C}  {x1 : Int} {x2 : Int} {x3 : Int} {x4 : Int} {x5 : List (List C)} {x6 : List (List C)} {x7 : List (List C)} {row : List C} (h : vc20 (stdE P tbl) x1 x2 x3 x4 x5 x6 x7 fun c => c = row) : WPg P tbl rf20 [(false, [.int .i64]), (false, [.int .i64])] row [.agg [.c (.int .i64 x1), .c (.int .i64 x2), .c (.int .i64 x3), .c (.int .i64 x4), .c (.sl [.int .i64] x5)], .c (.sl [.sl [.int .i64]] x6), .c (.sl [.int .i64] x7)] := by
  refine ⟨?_⟩
  revert h
  generalize hE : stdE P tbl = E
  intro h
  unfold vc20 at h
  cbv
  have c15 := h.1
  refine ⟨c15, ?_⟩
  replace h := h.2 _ rfl
  refine ⟨fun hb16 => ?_, fun hb16 => ?_⟩
  · replace h := h.t hb16
    have h : _ = row := h
    subst h
    repeat' (first | exact trivial | exact rfl | refine And.intro ?_ ?_)
  · replace h := h.f hb16
    refine ⟨fun hb17 => ?_, fun hb17 => ?_⟩
    · replace h := h.t hb17
      have h : _ = row := h
      subst h
      repeat' (first | exact trivial | exact rfl | refine And.intro ?_ ?_)
    · replace h := h.f hb17
      obtain ⟨I, μ, h0, hI⟩ := h
      refine LoopW.inv (fun R R' s h k => RCode.wp_mono _ R R' s h k) (fun p : List (List C) × Int => (fun (l9 : List (List C)) (i10 : Int) => (⟨[.u, .c (.sl [.sl [.int .i64]] x6), .c (.sl [.int .i64] x7), .ptr 0 0, .u, .u, .u, .u, .u, .c (.sl [.int .i64] l9), .c (.int .i64 i10), .u, .u, .u, .u, .u, .u, .u, .u, .u, .u, .u, .u, .u, .u, .u, .u, .u, .u, .u, .u, .u, .u, .u, .u, .u, .u, .u, .u, .u, .u, .u, .u, .u, .u, .u, .u, .u, .u, .u, .u, .u, .u, .u, .u, .u, .u, .u], [.box 24 [.c (.int .i64 x1), .c (.int .i64 x2), .c (.int .i64 x3), .c (.int .i64 x4), .c (.sl [.int .i64] x5)]]⟩ : St)) p.1 p.2) (fun p => I p.1 p.2) (fun p => μ p.1 p.2) (_, _) h0 ?_ ?_
      · refine GSt.trans (GSt.nilSl 9 [.int .i64] rfl) (GSt.ren [0] rfl rfl rfl (fun i hi => absurd hi (Nat.not_lt_zero i)) (Nat.zero_le _) ?_ ?_)
        all_goals (repeat' (first | exact trivial | exact Or.inl rfl | exact Or.inr rfl | refine And.intro ?_ ?_))
      · rintro ⟨l9, i10⟩ h
        replace h := hI l9 i10 h
        cbv
        refine ⟨fun hb18 => ?_, fun hb18 => ?_⟩
        · replace h := h.t hb18
          have c19 := h.1
          refine ⟨c19, ?_⟩
          replace h := h.2
          refine ⟨hb18, ?_⟩
          refine ⟨⟨fun hh => (by first | exact hh | trivial)⟩, ?_⟩
          refine ⟨⟨fun hh => (by first | exact hh | trivial)⟩, ?_⟩
          refine ⟨⟨fun _ => c19⟩, ?_⟩
          refine ⟨⟨fun _ => hb18⟩, ?_⟩
          refine ⟨⟨fun hh => (by first | exact hh | trivial)⟩, ?_⟩
          refine ⟨⟨fun hh => (by first | exact hh | trivial)⟩, ?_⟩
          refine ⟨⟨fun hh => (by first | exact hh | trivial)⟩, ?_⟩
          refine ⟨⟨fun hh => (by first | exact hh | trivial)⟩, ?_⟩
          refine ⟨⟨fun hh => (by first | exact hh | trivial)⟩, ?_⟩
          refine ⟨fun hb20 => ?_, fun hb20 => ?_⟩
          · replace h := h.t hb20
            have h : _ = row := h
            subst h
            repeat' (first | exact trivial | exact rfl | refine And.intro ?_ ?_)
          · replace h := h.f hb20
            refine ⟨c19, ?_⟩
            refine ⟨hb18, ?_⟩
            have c21 := h.1
            refine ⟨c21, ?_⟩
            replace h := h.2 _ rfl
            refine ⟨(_, _), h.1, GSt.ren [0] rfl rfl rfl (fun i hi => absurd hi (Nat.not_lt_zero i)) (Nat.zero_le _) ?_ ?_, h.2⟩
            all_goals (repeat' (first | exact trivial | exact Or.inl rfl | exact Or.inr rfl | refine And.intro ?_ ?_))
        · replace h := h.f hb18
          refine ⟨fun hb22 => ?_, fun hb22 => ?_⟩
          · replace h := h.t hb22
            have h : _ = row := h
            subst h
            repeat' (first | exact trivial | exact rfl | refine And.intro ?_ ?_)
          · replace h := h.f hb22
            have c23 := h.1
            refine ⟨c23, ?_⟩
            replace h := h.2 _ rfl
            have c24 := h.1
            refine ⟨c24, ?_⟩
            replace h := h.2 _ rfl
            have h : _ = row := h
            subst h
            repeat' (first | exact trivial | exact rfl | refine And.intro ?_ ?_)
end Go.Proofs.Ytjmgphobpgajbaa.V
