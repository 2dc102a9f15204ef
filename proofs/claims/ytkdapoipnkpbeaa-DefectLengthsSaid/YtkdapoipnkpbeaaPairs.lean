/- Rectangles: what the functions without loops hand back. No conditions. -/
import Derived.Test.YtkdapoipnkpbeaaAwake
set_option linter.unusedVariables false
set_option linter.unusedSimpArgs false
namespace Go.Proofs.Ytkdapoipnkpbeaa
open Go Go.Eng
set_option maxRecDepth 1000000
set_option maxHeartbeats 1000000

/-- papermill papermillref15.Common -/
def rf46 : RFn := ⟨(.seq (.ops 3 [⟨(some 2), (.v (.box 0 36 (.t 0))), none, []⟩, ⟨(some 3), (.v (.box 1 36 (.t 1))), none, []⟩, ⟨(some 4), (.v (.alloc 2 36 [(.c (.int .i64 0)), (.c (.int .i64 0)), (.c (.int .i64 0)), (.c (.int .i64 0))])), none, []⟩, ⟨(some 5), (.v (.mv (.k (.c (.bool false))))), none, []⟩]) (.seq (.ops 1 [⟨(some 7), (.v (.fa 0 (.t 2))), none, []⟩, ⟨(some 8), (.v (.ld (.t 7))), none, []⟩, ⟨(some 9), (.v (.fa 0 (.t 3))), none, []⟩, ⟨(some 10), (.v (.ld (.t 9))), none, []⟩, ⟨(some 11), (.v (.max (.t 8) [(.t 10)])), none, []⟩, ⟨(some 12), (.v (.fa 1 (.t 2))), none, []⟩, ⟨(some 13), (.v (.ld (.t 12))), none, []⟩, ⟨(some 14), (.v (.fa 1 (.t 3))), none, []⟩, ⟨(some 15), (.v (.ld (.t 14))), none, []⟩, ⟨(some 16), (.v (.min (.t 13) [(.t 15)])), none, []⟩, ⟨(some 17), (.v (.fa 2 (.t 2))), none, []⟩, ⟨(some 18), (.v (.ld (.t 17))), none, []⟩, ⟨(some 19), (.v (.fa 2 (.t 3))), none, []⟩, ⟨(some 20), (.v (.ld (.t 19))), none, []⟩, ⟨(some 21), (.v (.max (.t 18) [(.t 20)])), none, []⟩, ⟨(some 22), (.v (.fa 3 (.t 2))), none, []⟩, ⟨(some 23), (.v (.ld (.t 22))), none, []⟩, ⟨(some 24), (.v (.fa 3 (.t 3))), none, []⟩, ⟨(some 25), (.v (.ld (.t 24))), none, []⟩, ⟨(some 26), (.v (.min (.t 23) [(.t 25)])), none, []⟩, ⟨(some 27), (.v (.build [(.c (.int .i64 0)), (.c (.int .i64 0)), (.c (.int .i64 0)), (.c (.int .i64 0))] [⟨0, ⟨1, (.t 11)⟩⟩, ⟨1, ⟨1, (.t 16)⟩⟩, ⟨2, ⟨1, (.t 21)⟩⟩, ⟨3, ⟨1, (.t 26)⟩⟩])), none, []⟩, ⟨(some 6), (.v (.alloc 0 36 [(.c (.int .i64 0)), (.c (.int .i64 0)), (.c (.int .i64 0)), (.c (.int .i64 0))])), none, []⟩, ⟨none, (.v (.st 4 (.t 6) (.t 27))), none, []⟩]) (.seq (.seq (.ops 0 [⟨(some 28), (.v (.lda 4 (.t 2))), none, []⟩, ⟨(some 29), (.v (.det 57 [⟨false, [.bool]⟩] [(.t 28)])), none, []⟩, ⟨(some 30), (.v (.un .not (.t 29))), none, []⟩, ⟨(some 31), (.v (.mv (.t 30))), none, []⟩, ⟨(some 32), (.v (.lda 4 (.t 3))), (some ⟨31, false⟩), [(.t 3)]⟩, ⟨(some 33), (.v (.det 57 [⟨false, [.bool]⟩] [(.t 32)])), (some ⟨31, false⟩), [(.k (.fn 57 [])), (.t 32)]⟩, ⟨(some 34), (.v (.un .not (.t 33))), (some ⟨31, false⟩), [(.t 33)]⟩, ⟨(some 35), (.v (.pick (.t 31) (.k (.c (.bool true))) (.t 34))), none, []⟩, ⟨(some 36), (.v (.mv (.t 35))), none, []⟩, ⟨(some 37), (.v (.lda 4 (.t 6))), (some ⟨36, false⟩), [(.t 6)]⟩, ⟨(some 38), (.v (.det 57 [⟨false, [.bool]⟩] [(.t 37)])), (some ⟨36, false⟩), [(.k (.fn 57 [])), (.t 37)]⟩, ⟨(some 39), (.v (.un .not (.t 38))), (some ⟨36, false⟩), [(.t 38)]⟩, ⟨(some 40), (.v (.pick (.t 36) (.k (.c (.bool true))) (.t 39))), none, []⟩]) (.cond (.t 40) (.seq (.ops 0 [⟨(some 41), (.v (.build [(.c (.int .i64 0)), (.c (.int .i64 0)), (.c (.int .i64 0)), (.c (.int .i64 0))] [])), none, []⟩, ⟨none, (.v (.st 4 (.t 4) (.t 41))), none, []⟩, ⟨(some 5), (.v (.mv (.k (.c (.bool false))))), none, []⟩]) .ret) .skip)) (.seq (.ops 0 [⟨(some 42), (.v (.lda 4 (.t 6))), none, []⟩, ⟨none, (.v (.st 4 (.t 4) (.t 42))), none, []⟩, ⟨(some 5), (.v (.mv (.k (.c (.bool true))))), none, []⟩]) .ret)))), 43, [(.la 4 4), (.t 5)]⟩
theorem h46 : fnR Try.prog DD 46 = some rf46 := by kernel_rfl
/-- papermill papermillref15.Check -/
def rf38 : RFn := ⟨(.seq (.ops 1 [⟨(some 1), (.v (.box 0 36 (.t 0))), none, []⟩, ⟨(some 2), (.v (.mv (.k (.c (.int .i64 0))))), none, []⟩]) (.seq (.seq (.ops 0 [⟨(some 3), (.v (.fa 0 (.t 1))), none, []⟩, ⟨(some 4), (.v (.ld (.t 3))), none, []⟩, ⟨(some 5), (.v (.bin .lss (.t 4) (.k (.c (.int .i64 0))))), none, []⟩, ⟨(some 6), (.v (.mv (.t 5))), none, []⟩, ⟨(some 7), (.v (.fa 0 (.t 1))), (some ⟨6, false⟩), [(.t 1)]⟩, ⟨(some 8), (.v (.ld (.t 7))), (some ⟨6, false⟩), [(.t 7)]⟩, ⟨(some 9), (.v (.fa 1 (.t 1))), (some ⟨6, false⟩), [(.t 1)]⟩, ⟨(some 10), (.v (.ld (.t 9))), (some ⟨6, false⟩), [(.t 9)]⟩, ⟨(some 11), (.v (.bin .gtr (.t 8) (.t 10))), (some ⟨6, false⟩), [(.t 8), (.t 10)]⟩, ⟨(some 12), (.v (.pick (.t 6) (.k (.c (.bool true))) (.t 11))), none, []⟩, ⟨(some 13), (.v (.mv (.t 12))), none, []⟩, ⟨(some 14), (.v (.fa 1 (.t 1))), (some ⟨13, false⟩), [(.t 1)]⟩, ⟨(some 15), (.v (.ld (.t 14))), (some ⟨13, false⟩), [(.t 14)]⟩, ⟨(some 16), (.v (.bin .gtr (.t 15) (.k (.c (.int .i64 12000))))), (some ⟨13, false⟩), [(.t 15), (.k (.c (.int .i64 12000)))]⟩, ⟨(some 17), (.v (.pick (.t 13) (.k (.c (.bool true))) (.t 16))), none, []⟩, ⟨(some 18), (.v (.mv (.t 17))), none, []⟩, ⟨(some 19), (.v (.fa 2 (.t 1))), (some ⟨18, false⟩), [(.t 1)]⟩, ⟨(some 20), (.v (.ld (.t 19))), (some ⟨18, false⟩), [(.t 19)]⟩, ⟨(some 21), (.v (.bin .lss (.t 20) (.k (.c (.int .i64 0))))), (some ⟨18, false⟩), [(.t 20), (.k (.c (.int .i64 0)))]⟩, ⟨(some 22), (.v (.pick (.t 18) (.k (.c (.bool true))) (.t 21))), none, []⟩, ⟨(some 23), (.v (.mv (.t 22))), none, []⟩, ⟨(some 24), (.v (.fa 2 (.t 1))), (some ⟨23, false⟩), [(.t 1)]⟩, ⟨(some 25), (.v (.ld (.t 24))), (some ⟨23, false⟩), [(.t 24)]⟩, ⟨(some 26), (.v (.fa 3 (.t 1))), (some ⟨23, false⟩), [(.t 1)]⟩, ⟨(some 27), (.v (.ld (.t 26))), (some ⟨23, false⟩), [(.t 26)]⟩, ⟨(some 28), (.v (.bin .gtr (.t 25) (.t 27))), (some ⟨23, false⟩), [(.t 25), (.t 27)]⟩, ⟨(some 29), (.v (.pick (.t 23) (.k (.c (.bool true))) (.t 28))), none, []⟩, ⟨(some 30), (.v (.mv (.t 29))), none, []⟩, ⟨(some 31), (.v (.fa 3 (.t 1))), (some ⟨30, false⟩), [(.t 1)]⟩, ⟨(some 32), (.v (.ld (.t 31))), (some ⟨30, false⟩), [(.t 31)]⟩, ⟨(some 33), (.v (.bin .gtr (.t 32) (.k (.c (.int .i64 17179869184))))), (some ⟨30, false⟩), [(.t 32), (.k (.c (.int .i64 17179869184)))]⟩, ⟨(some 34), (.v (.pick (.t 30) (.k (.c (.bool true))) (.t 33))), none, []⟩]) (.cond (.t 34) (.seq (.ops 0 [⟨(some 2), (.v (.mv (.k (.c (.int .i64 1))))), none, []⟩]) .ret) .skip)) (.seq (.ops 0 [⟨(some 2), (.v (.mv (.k (.c (.int .i64 0))))), none, []⟩]) .ret))), 35, [(.t 2)]⟩
theorem h38 : fnR Try.prog DD 38 = some rf38 := by kernel_rfl
/-- papermill papermillref15.points -/
def rf57 : RFn := ⟨(.seq (.ops 1 [⟨(some 1), (.v (.box 0 36 (.t 0))), none, []⟩, ⟨(some 2), (.v (.mv (.k (.c (.bool false))))), none, []⟩]) (.seq (.ops 0 [⟨(some 3), (.v (.fa 0 (.t 1))), none, []⟩, ⟨(some 4), (.v (.ld (.t 3))), none, []⟩, ⟨(some 5), (.v (.fa 1 (.t 1))), none, []⟩, ⟨(some 6), (.v (.ld (.t 5))), none, []⟩, ⟨(some 7), (.v (.bin .lss (.t 4) (.t 6))), none, []⟩, ⟨(some 8), (.v (.mv (.t 7))), none, []⟩, ⟨(some 9), (.v (.fa 2 (.t 1))), (some ⟨8, true⟩), [(.t 1)]⟩, ⟨(some 10), (.v (.ld (.t 9))), (some ⟨8, true⟩), [(.t 9)]⟩, ⟨(some 11), (.v (.fa 3 (.t 1))), (some ⟨8, true⟩), [(.t 1)]⟩, ⟨(some 12), (.v (.ld (.t 11))), (some ⟨8, true⟩), [(.t 11)]⟩, ⟨(some 13), (.v (.bin .lss (.t 10) (.t 12))), (some ⟨8, true⟩), [(.t 10), (.t 12)]⟩, ⟨(some 14), (.v (.pick (.t 8) (.t 13) (.k (.c (.bool false))))), none, []⟩, ⟨(some 2), (.v (.mv (.t 14))), none, []⟩]) .ret)), 15, [(.t 2)]⟩
theorem h57 : fnR Try.prog DD 57 = some rf57 := by kernel_rfl
/-- papermill rect.Within -/
def rf26 : RFn := ⟨(.seq (.ops 2 [⟨(some 2), (.v (.box 0 36 (.t 0))), none, []⟩, ⟨(some 3), (.v (.box 1 36 (.t 1))), none, []⟩, ⟨(some 4), (.v (.mv (.k (.c (.bool false))))), none, []⟩]) (.seq (.seq (.ops 0 [⟨(some 7), (.v (.lda 4 (.t 2))), none, []⟩, ⟨(some 8), (.v (.det 45 [⟨true, [(.int .i64), (.int .i64), (.int .i64), (.int .i64)]⟩] [(.t 7)])), none, []⟩, ⟨(some 9), (.v (.build [(.c (.int .i64 0)), (.c (.int .i64 0)), (.c (.int .i64 0)), (.c (.int .i64 0))] [])), none, []⟩, ⟨(some 10), (.v (.eqs [(.int .i64), (.int .i64), (.int .i64), (.int .i64)] false (.t 8) (.t 9))), none, []⟩]) (.cond (.t 10) (.seq (.ops 0 [⟨(some 4), (.v (.mv (.k (.c (.bool true))))), none, []⟩]) .ret) .skip)) (.seq (.ops 1 [⟨(some 12), (.v (.lda 4 (.t 2))), none, []⟩, ⟨(some 13), (.v (.lda 4 (.t 3))), none, []⟩, ⟨(some 14), (.v (.det 29 [⟨true, [(.int .i64), (.int .i64), (.int .i64), (.int .i64)]⟩, ⟨false, [.bool]⟩] [(.t 12), (.t 13)])), none, []⟩, ⟨(some 11), (.v (.mv (.t 14))), none, []⟩, ⟨(some 15), (.v (.ext (.t 11) 0)), none, []⟩, ⟨(some 16), (.v (.ext (.t 11) 1)), none, []⟩, ⟨(some 5), (.v (.alloc 0 36 [(.c (.int .i64 0)), (.c (.int .i64 0)), (.c (.int .i64 0)), (.c (.int .i64 0))])), none, []⟩, ⟨none, (.v (.st 4 (.t 5) (.t 15))), none, []⟩, ⟨(some 6), (.v (.mv (.t 16))), none, []⟩]) (.seq (.ops 0 [⟨(some 17), (.v (.mv (.t 6))), none, []⟩, ⟨(some 18), (.v (.mv (.t 17))), none, []⟩, ⟨(some 19), (.v (.lda 4 (.t 5))), (some ⟨18, true⟩), [(.t 5)]⟩, ⟨(some 20), (.v (.lda 4 (.t 2))), (some ⟨18, true⟩), [(.t 2)]⟩, ⟨(some 21), (.v (.eqs [(.int .i64), (.int .i64), (.int .i64), (.int .i64)] false (.t 19) (.t 20))), (some ⟨18, true⟩), [(.t 19), (.t 20)]⟩, ⟨(some 22), (.v (.pick (.t 18) (.t 21) (.k (.c (.bool false))))), none, []⟩, ⟨(some 4), (.v (.mv (.t 22))), none, []⟩]) .ret)))), 23, [(.t 4)]⟩
theorem h26 : fnR Try.prog DD 26 = some rf26 := by kernel_rfl
/-- papermill rect.Common -/
def rf29 : RFn := ⟨(.seq (.ops 3 [⟨(some 2), (.v (.box 0 36 (.t 0))), none, []⟩, ⟨(some 3), (.v (.box 1 36 (.t 1))), none, []⟩, ⟨(some 4), (.v (.alloc 2 36 [(.c (.int .i64 0)), (.c (.int .i64 0)), (.c (.int .i64 0)), (.c (.int .i64 0))])), none, []⟩, ⟨(some 5), (.v (.mv (.k (.c (.bool false))))), none, []⟩]) (.seq (.ops 1 [⟨(some 7), (.v (.fa 0 (.t 2))), none, []⟩, ⟨(some 8), (.v (.ld (.t 7))), none, []⟩, ⟨(some 9), (.v (.fa 0 (.t 3))), none, []⟩, ⟨(some 10), (.v (.ld (.t 9))), none, []⟩, ⟨(some 11), (.v (.max (.t 8) [(.t 10)])), none, []⟩, ⟨(some 12), (.v (.fa 1 (.t 2))), none, []⟩, ⟨(some 13), (.v (.ld (.t 12))), none, []⟩, ⟨(some 14), (.v (.fa 1 (.t 3))), none, []⟩, ⟨(some 15), (.v (.ld (.t 14))), none, []⟩, ⟨(some 16), (.v (.min (.t 13) [(.t 15)])), none, []⟩, ⟨(some 17), (.v (.fa 2 (.t 2))), none, []⟩, ⟨(some 18), (.v (.ld (.t 17))), none, []⟩, ⟨(some 19), (.v (.fa 2 (.t 3))), none, []⟩, ⟨(some 20), (.v (.ld (.t 19))), none, []⟩, ⟨(some 21), (.v (.max (.t 18) [(.t 20)])), none, []⟩, ⟨(some 22), (.v (.fa 3 (.t 2))), none, []⟩, ⟨(some 23), (.v (.ld (.t 22))), none, []⟩, ⟨(some 24), (.v (.fa 3 (.t 3))), none, []⟩, ⟨(some 25), (.v (.ld (.t 24))), none, []⟩, ⟨(some 26), (.v (.min (.t 23) [(.t 25)])), none, []⟩, ⟨(some 27), (.v (.build [(.c (.int .i64 0)), (.c (.int .i64 0)), (.c (.int .i64 0)), (.c (.int .i64 0))] [⟨0, ⟨1, (.t 11)⟩⟩, ⟨1, ⟨1, (.t 16)⟩⟩, ⟨2, ⟨1, (.t 21)⟩⟩, ⟨3, ⟨1, (.t 26)⟩⟩])), none, []⟩, ⟨(some 28), (.v (.det 45 [⟨true, [(.int .i64), (.int .i64), (.int .i64), (.int .i64)]⟩] [(.t 27)])), none, []⟩, ⟨(some 6), (.v (.alloc 0 36 [(.c (.int .i64 0)), (.c (.int .i64 0)), (.c (.int .i64 0)), (.c (.int .i64 0))])), none, []⟩, ⟨none, (.v (.st 4 (.t 6) (.t 28))), none, []⟩]) (.seq (.any 0 [⟨0, ⟨[], ⟨(some 29), (.v (.lda 4 (.t 6))), none, []⟩⟩⟩, ⟨1, ⟨[], ⟨(some 30), (.v (.lda 4 (.t 6))), none, []⟩⟩⟩, ⟨2, ⟨[], ⟨(some 31), (.v (.build [(.c (.int .i64 0)), (.c (.int .i64 0)), (.c (.int .i64 0)), (.c (.int .i64 0))] [])), none, []⟩⟩⟩, ⟨3, ⟨[1, 2], ⟨(some 32), (.v (.eqs [(.int .i64), (.int .i64), (.int .i64), (.int .i64)] true (.t 30) (.t 31))), none, []⟩⟩⟩, ⟨4, ⟨[0], ⟨none, (.v (.st 4 (.t 4) (.t 29))), none, []⟩⟩⟩, ⟨5, ⟨[3, 1, 2, 4, 0], ⟨(some 5), (.v (.mv (.t 32))), none, []⟩⟩⟩]) .ret))), 33, [(.la 4 4), (.t 5)]⟩
theorem h29 : fnR Try.prog DD 29 = some rf29 := by kernel_rfl
def chk (l r a b : Int) : Int := if l < 0 ∨ r < l ∨ 12000 < r ∨ a < 0 ∨ b < a ∨ 17179869184 < b then 1 else 0
def arw (l r a b : Int) : Int := IntKind.i64.wrap (IntKind.i64.wrap (r - l) * IntKind.i64.wrap (b - a))
/-- No points. -/
def emp (l r a b : Int) : Bool := decide (r ≤ l) || decide (b ≤ a)
def sel (t : Bool) (x y : Int) : Int := if t then x else y
def mx (a b : Int) : Int := if b > a then b else a
def mn (a b : Int) : Int := if b < a then b else a
/-- some, Common: cell j. -/
def zs (t : Bool) (x : Int) : C := .int .i64 (if t then 0 else x)
def comE (l r a b l' r' a' b' : Int) : Bool := emp (mx l l') (mn r r') (mx a a') (mn b b')
/-- Common's second result: the rectangle is not the zero one. -/
def comI (l r a b l' r' a' b' : Int) : Bool := !(comE l r a b l' r' a' b') && !(decide (mx l l' = 0) && (decide (mn r r' = 0) && (decide (mx a a' = 0) && decide (mn b b' = 0))))
def wit (l r a b l' r' a' b' : Int) : Bool := emp l r a b || (decide (l' ≤ l) && decide (r ≤ r') && decide (a' ≤ a) && decide (b ≤ b'))

def tbl (f : FuncId) (ds : List A) : List C :=
  match ds with
  | [.agg [.c (.int _ l), .c (.int _ r), .c (.int _ a), .c (.int _ b)]] => match f with
    | 37 => [.int .i64 (chk l r a b)]
    | 38 => [.int .i64 (chk l r a b)]
    | 45 => [zs (emp l r a b) l, zs (emp l r a b) r, zs (emp l r a b) a, zs (emp l r a b) b]
    | 57 => [.bool (!emp l r a b)]
    | _ => []
  | [.agg [.c (.int _ l), .c (.int _ r), .c (.int _ a), .c (.int _ b)], .agg [.c (.int _ l'), .c (.int _ r'), .c (.int _ a'), .c (.int _ b')]] => match f with
    | 29 => [zs (comE l r a b l' r' a' b') (mx l l'), zs (comE l r a b l' r' a' b') (mn r r'), zs (comE l r a b l' r' a' b') (mx a a'), zs (comE l r a b l' r' a' b') (mn b b'), .bool (comI l r a b l' r' a' b')]
    | 46 => [zs (comE l r a b l' r' a' b') (mx l l'), zs (comE l r a b l' r' a' b') (mn r r'), zs (comE l r a b l' r' a' b') (mx a a'), zs (comE l r a b l' r' a' b') (mn b b'), .bool (comI l r a b l' r' a' b')]
    | 26 => [.bool (wit l r a b l' r' a' b')]
    | _ => []
  | [] => match f with
    | _ => []
  | _ => []

abbrev iC (n : Int) : A := .c (.int .i64 n)
abbrev rc (l r a b : Int) : A := .agg [.c (.int .i64 l), .c (.int .i64 r), .c (.int .i64 a), .c (.int .i64 b)]
abbrev kI : Bool × List LK := (false, [.int .i64])
abbrev kB : Bool × List LK := (false, [.bool])
abbrev kR : Bool × List LK := (true, [.int .i64, .int .i64, .int .i64, .int .i64])
abbrev PC (f : FuncId) (rty : List (Bool × List LK)) (ds : List A) : Prop := PureC Try.prog f rty ds fun i => (tbl f ds).getD i .nil
/-- The walk of f's code: handed ds, it hands back the cells l. -/
structure WP (f : RFn) (rty : List (Bool × List LK)) (l : List C) (ds : List A) : Prop where
  h : f.body.wp Try.prog (stdE Try.prog tbl) 0 (finP (stdE Try.prog tbl) (getL l) rty f.results) ⟨ds ++ List.replicate (f.ntmps - ds.length) .u, []⟩

theorem pc_of {f : FuncId} {rf : RFn} {rty : List (Bool × List LK)} {ds : List A} (h : fnR Try.prog DD f = some rf) (hn : ((Try.prog.funcs[f]?).map (·.name == "runtime.NumGoroutine")).getD true = false)
    {l : List C} (hl : tbl f ds = l) (hw : WP rf rty l ds) : PC f rty ds := by
  have e : (fun i => (tbl f ds).getD i .nil) = getL l := by rw [hl]; rfl
  show PureC _ _ _ _ (fun i => (tbl f ds).getD i .nil)
  rw [e]
  exact PureC_fn tbl mo h hn hw.h

theorem t30 (l r a b : Int) : tbl 37 [rc l r a b] = [.int .i64 (chk l r a b)] := rfl
theorem t31 (l r a b : Int) : tbl 38 [rc l r a b] = [.int .i64 (chk l r a b)] := rfl
theorem t46 (l r a b : Int) : tbl 45 [rc l r a b] = [zs (emp l r a b) l, zs (emp l r a b) r, zs (emp l r a b) a, zs (emp l r a b) b] := rfl
theorem t43 (l r a b : Int) : tbl 57 [rc l r a b] = [.bool (!emp l r a b)] := rfl
theorem t28 (l r a b l' r' a' b' : Int) : tbl 29 [rc l r a b, rc l' r' a' b'] = [zs (comE l r a b l' r' a' b') (mx l l'), zs (comE l r a b l' r' a' b') (mn r r'), zs (comE l r a b l' r' a' b') (mx a a'), zs (comE l r a b l' r' a' b') (mn b b'), .bool (comI l r a b l' r' a' b')] := rfl
theorem t29 (l r a b l' r' a' b' : Int) : tbl 46 [rc l r a b, rc l' r' a' b'] = [zs (comE l r a b l' r' a' b') (mx l l'), zs (comE l r a b l' r' a' b') (mn r r'), zs (comE l r a b l' r' a' b') (mx a a'), zs (comE l r a b l' r' a' b') (mn b b'), .bool (comI l r a b l' r' a' b')] := rfl
theorem t32 (l r a b l' r' a' b' : Int) : tbl 26 [rc l r a b, rc l' r' a' b'] = [.bool (wit l r a b l' r' a' b')] := rfl
theorem x30 {l r a b v : Int} (hv : chk l r a b = v) : WP rf37 [kI] [.int .i64 v] [rc l r a b] := by
  refine ⟨?_⟩
  generalize hE : stdE Try.prog tbl = E
  cbv
  subst hE
  simp only [Imp_self, true_and, stdE, baseE, Imp_iff, Br_iff]
  simp [← hv, chk]
  omega
theorem c30 (l r a b : Int) : PC 37 [kI] [rc l r a b] := pc_of h37 (by kernel_rfl) (t30 l r a b) (x30 rfl)
theorem x31 {l r a b v : Int} (hv : chk l r a b = v) : WP rf38 [kI] [.int .i64 v] [rc l r a b] := by
  refine ⟨?_⟩
  generalize hE : stdE Try.prog tbl = E
  cbv
  subst hE
  simp only [Imp_self, true_and, stdE, baseE, Imp_iff, Br_iff]
  simp [← hv, chk]
  omega
theorem c31 (l r a b : Int) : PC 38 [kI] [rc l r a b] := pc_of h38 (by kernel_rfl) (t31 l r a b) (x31 rfl)
theorem x46 {l r a b v0 v1 v2 v3 : Int} (hv : (if emp l r a b then 0 else l) = v0 ∧ (if emp l r a b then 0 else r) = v1 ∧ (if emp l r a b then 0 else a) = v2 ∧ (if emp l r a b then 0 else b) = v3) :
    WP rf45 [kR] [.int .i64 v0, .int .i64 v1, .int .i64 v2, .int .i64 v3] [rc l r a b] := by
  refine ⟨?_⟩
  generalize hE : stdE Try.prog tbl = E
  cbv
  subst hE
  simp only [Imp_self, true_and, stdE, baseE, Imp_iff, Br_iff]
  obtain ⟨rfl, rfl, rfl, rfl⟩ := hv
  simp only [emp]
  grind
theorem c46 (l r a b : Int) : PC 45 [kR] [rc l r a b] := pc_of h45 (by kernel_rfl) (t46 l r a b) (x46 ⟨rfl, rfl, rfl, rfl⟩)
theorem x43 {l r a b : Int} {v : Bool} (hv : (!emp l r a b) = v) : WP rf57 [kB] [.bool v] [rc l r a b] := by
  refine ⟨?_⟩
  generalize hE : stdE Try.prog tbl = E
  cbv
  subst hE
  simp only [Imp_self, true_and, stdE, baseE, Imp_iff, Br_iff]
  subst hv
  simp only [emp]
  by_cases h1 : r ≤ l <;> by_cases h2 : b ≤ a <;> simp [h1, h2] <;> omega
theorem c43 (l r a b : Int) : PC 57 [kB] [rc l r a b] := pc_of h57 (by kernel_rfl) (t43 l r a b) (x43 rfl)
theorem x28 {l r a b l' r' a' b' v0 v1 v2 v3 : Int} {v : Bool} (hv : zs (comE l r a b l' r' a' b') (mx l l') = .int .i64 v0 ∧ zs (comE l r a b l' r' a' b') (mn r r') = .int .i64 v1 ∧ zs (comE l r a b l' r' a' b') (mx a a') = .int .i64 v2 ∧
    zs (comE l r a b l' r' a' b') (mn b b') = .int .i64 v3 ∧ comI l r a b l' r' a' b' = v) : WP rf29 [kR, kB] [.int .i64 v0, .int .i64 v1, .int .i64 v2, .int .i64 v3, .bool v] [rc l r a b, rc l' r' a' b'] := by
  refine ⟨?_⟩
  generalize hE : stdE Try.prog tbl = E
  cbv
  subst hE
  simp only [Imp_self, true_and, stdE, baseE, Imp_iff, Br_iff]
  simp only [c46, true_and]
  simp only [t46, List.getD_cons_zero, List.getD_cons_succ, zs, C.gi]
  simp only [zs, comE, comI, mx, mn, C.int.injEq, true_and] at hv
  obtain ⟨rfl, rfl, rfl, rfl, rfl⟩ := hv
  obtain ⟨t, ht⟩ : ∃ t, emp (if l' > l then l' else l) (if r' < r then r' else r) (if a' > a then a' else a) (if b' < b then b' else b) = t := ⟨_, rfl⟩
  simp only [ht]
  cases t <;> simp <;> rfl
theorem c28 (l r a b l' r' a' b' : Int) : PC 29 [kR, kB] [rc l r a b, rc l' r' a' b'] := pc_of h29 (by kernel_rfl) (t28 l r a b l' r' a' b') (x28 ⟨rfl, rfl, rfl, rfl, rfl⟩)
theorem com_emp {l r a b l' r' a' b' : Int} : comE l r a b l' r' a' b' = (emp l r a b || emp l' r' a' b' || comE l r a b l' r' a' b') := by
  have key : (r ≤ l ∨ b ≤ a) ∨ (r' ≤ l' ∨ b' ≤ a') → (mn r r' ≤ mx l l' ∨ mn b b' ≤ mx a a') := by
    simp only [mn, mx]; intro h; split <;> split <;> split <;> split <;> omega
  cases h : comE l r a b l' r' a' b' with
  | true => simp
  | false =>
    simp only [comE, emp, Bool.or_eq_false_iff, decide_eq_false_iff_not] at h
    simp only [emp, Bool.or_false, Bool.or_eq_false_iff, decide_eq_false_iff_not, Eq.comm (a := false)]
    omega
theorem com_is {l r a b l' r' a' b' : Int} : comI l r a b l' r' a' b' = !comE l r a b l' r' a' b' := by
  cases h : comE l r a b l' r' a' b' with
  | true => simp [comI, h]
  | false =>
    simp only [comI, h]
    simp only [comE, emp, Bool.or_eq_false_iff, decide_eq_false_iff_not] at h
    simp
    omega
theorem x29 {l r a b l' r' a' b' v0 v1 v2 v3 : Int} {v : Bool} (hv : zs (comE l r a b l' r' a' b') (mx l l') = .int .i64 v0 ∧ zs (comE l r a b l' r' a' b') (mn r r') = .int .i64 v1 ∧ zs (comE l r a b l' r' a' b') (mx a a') = .int .i64 v2 ∧
    zs (comE l r a b l' r' a' b') (mn b b') = .int .i64 v3 ∧ comI l r a b l' r' a' b' = v) : WP rf46 [kR, kB] [.int .i64 v0, .int .i64 v1, .int .i64 v2, .int .i64 v3, .bool v] [rc l r a b, rc l' r' a' b'] := by
  refine ⟨?_⟩
  generalize hE : stdE Try.prog tbl = E
  cbv
  subst hE
  simp only [Imp_self, true_and, stdE, baseE, Imp_iff, Br_iff]
  simp only [c43, true_and, imp_self, implies_true]
  simp only [t43, List.getD_cons_zero, List.getD_cons_succ, C.gb]
  rw [com_is, com_emp] at hv
  simp only [zs, comE, mx, mn, C.int.injEq, true_and] at hv
  obtain ⟨rfl, rfl, rfl, rfl, rfl⟩ := hv
  obtain ⟨t, ht⟩ : ∃ t, emp (if l' > l then l' else l) (if r' < r then r' else r) (if a' > a then a' else a) (if b' < b then b' else b) = t := ⟨_, rfl⟩
  obtain ⟨t1, ht1⟩ : ∃ t, emp l r a b = t := ⟨_, rfl⟩
  obtain ⟨t2, ht2⟩ : ∃ t, emp l' r' a' b' = t := ⟨_, rfl⟩
  simp only [ht, ht1, ht2]
  cases t <;> cases t1 <;> cases t2 <;> simp
theorem c29 (l r a b l' r' a' b' : Int) : PC 46 [kR, kB] [rc l r a b, rc l' r' a' b'] := pc_of h46 (by kernel_rfl) (t29 l r a b l' r' a' b') (x29 ⟨rfl, rfl, rfl, rfl, rfl⟩)
theorem x32 {l r a b l' r' a' b' : Int} {v : Bool} (hv : wit l r a b l' r' a' b' = v) : WP rf26 [kB] [.bool v] [rc l r a b, rc l' r' a' b'] := by
  refine ⟨?_⟩
  generalize hE : stdE Try.prog tbl = E
  cbv
  subst hE
  simp only [Imp_self, true_and, stdE, baseE, Imp_iff, Br_iff]
  simp only [c46, c28, true_and, imp_self, implies_true]
  simp only [t46, t28, List.getD_cons_zero, List.getD_cons_succ, zs, C.gb, C.gi]
  subst hv
  rw [com_is, com_emp]
  obtain ⟨t, ht⟩ : ∃ t, emp l r a b = t := ⟨_, rfl⟩
  have hw : wit l r a b l' r' a' b' = (t || (decide (l' ≤ l) && decide (r ≤ r') && decide (a' ≤ a) && decide (b ≤ b'))) := by rw [← ht]; rfl
  rw [hw]
  simp only [ht]
  cases t with
  | true => simp
  | false =>
    have h0 : ¬ (r ≤ l) ∧ ¬ (b ≤ a) := by simpa [emp] using ht
    obtain ⟨t2, ht2⟩ : ∃ t, emp l' r' a' b' = t := ⟨_, rfl⟩
    obtain ⟨u, hu⟩ : ∃ t, comE l r a b l' r' a' b' = t := ⟨_, rfl⟩
    have hu' := hu
    rw [com_emp, ht, ht2] at hu'
    simp only [ht2, hu] at hu' ⊢
    cases u with
    | true =>
      simp [comE, emp, mn, mx] at hu
      simp
      refine ⟨fun h1 h2 h3 => by omega, fun _ h1 h2 h3 => ?_⟩
      split at hu <;> split at hu <;> split at hu <;> split at hu <;> omega
    | false =>
      cases t2 with
      | true => simp at hu'
      | false =>
        simp
        refine ⟨fun h1 h2 h3 => by omega, fun _ => ?_⟩
        have e1 : (mx l l' == l) = decide (l' ≤ l) := by rw [Bool.eq_iff_iff]; simp only [mx, beq_iff_eq, decide_eq_true_eq]; split <;> omega
        have e2 : (mn r r' == r) = decide (r ≤ r') := by rw [Bool.eq_iff_iff]; simp only [mn, beq_iff_eq, decide_eq_true_eq]; split <;> omega
        have e3 : (mx a a' == a) = decide (a' ≤ a) := by rw [Bool.eq_iff_iff]; simp only [mx, beq_iff_eq, decide_eq_true_eq]; split <;> omega
        have e4 : (mn b b' == b) = decide (b ≤ b') := by rw [Bool.eq_iff_iff]; simp only [mn, beq_iff_eq, decide_eq_true_eq]; split <;> omega
        rw [e1, e2, e3, e4]
        simp [Bool.and_assoc]
theorem c32 (l r a b l' r' a' b' : Int) : PC 26 [kB] [rc l r a b, rc l' r' a' b'] := pc_of h26 (by kernel_rfl) (t32 l r a b l' r' a' b') (x32 rfl)
end Go.Proofs.Ytkdapoipnkpbeaa
