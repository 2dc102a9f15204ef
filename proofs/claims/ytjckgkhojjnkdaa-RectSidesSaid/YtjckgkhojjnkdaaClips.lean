/- Rectangles: lists of them: the first error, clipping, comparing. No conditions. -/
import Derived.Test.YtjckgkhojjnkdaaPairs
set_option linter.unusedVariables false
set_option linter.unusedSimpArgs false
namespace Go.Proofs.Ytjckgkhojjnkdaa
open Go Go.Eng
set_option maxRecDepth 1000000
set_option maxHeartbeats 1000000
def rf17 : RFn := ⟨(.seq (.ops 1 [⟨(some 3), (.v (.box 0 24 (.t 1))), none, []⟩, ⟨(some 4), (.v (.mv (.k (.c .nil)))), none, []⟩, ⟨(some 5), (.v (.mv (.k (.c (.int .i64 0))))), none, []⟩]) (.seq (.seq (.ops 0 [⟨(some 12), (.v (.lda 4 (.t 3))), none, []⟩, ⟨(some 13), (.v (.det 31 [⟨false, [(.int .i64)]⟩] [(.t 12)])), none, []⟩, ⟨(some 6), (.v (.mv (.t 13))), none, []⟩]) (.seq (.ops 0 [⟨(some 14), (.v (.mv (.t 6))), none, []⟩, ⟨(some 15), (.v (.bin .neq (.t 14) (.k (.c (.int .i64 0))))), none, []⟩]) (.cond (.t 15) (.seq (.ops 0 [⟨(some 16), (.v (.mv (.t 6))), none, []⟩, ⟨(some 4), (.v (.mv (.k (.c .nil)))), none, []⟩, ⟨(some 5), (.v (.mv (.t 16))), none, []⟩]) .ret) .skip))) (.seq (.seq (.ops 0 [⟨(some 17), (.v (.mv (.t 0))), none, []⟩, ⟨(some 18), (.v (.det 38 [⟨false, [(.int .i64)]⟩] [(.t 17)])), none, []⟩, ⟨(some 7), (.v (.mv (.t 18))), none, []⟩]) (.seq (.ops 0 [⟨(some 19), (.v (.mv (.t 7))), none, []⟩, ⟨(some 20), (.v (.bin .neq (.t 19) (.k (.c (.int .i64 0))))), none, []⟩]) (.cond (.t 20) (.seq (.ops 0 [⟨(some 21), (.v (.mv (.t 7))), none, []⟩, ⟨(some 4), (.v (.mv (.k (.c .nil)))), none, []⟩, ⟨(some 5), (.v (.mv (.t 21))), none, []⟩]) .ret) .skip))) (.seq (.ops 0 [⟨(some 8), (.v (.mv (.k (.c .nil)))), none, []⟩]) (.seq (.seq (.ops 0 [⟨(some 9), (.v (.mv (.k (.c (.int .i64 0))))), none, []⟩]) (.block 0 (.loop (.seq (.seq (.ops 0 [⟨(some 22), (.v (.mv (.t 9))), none, []⟩, ⟨(some 23), (.v (.mv (.t 0))), none, []⟩, ⟨(some 24), (.v (.lenS (.t 23))), none, []⟩, ⟨(some 25), (.v (.bin .lss (.t 22) (.t 24))), none, []⟩]) (.cond (.t 25) .skip (.exit 0))) (.seq (.block 1 (.seq (.any 1 [⟨0, ⟨[], ⟨(some 29), (.v (.mv (.t 0))), none, []⟩⟩⟩, ⟨1, ⟨[], ⟨(some 30), (.v (.mv (.t 9))), none, []⟩⟩⟩, ⟨2, ⟨[0, 1], ⟨(some 31), (.v (.ia 4 (.t 29) (.t 30))), none, []⟩⟩⟩, ⟨3, ⟨[2, 0, 1], ⟨(some 32), (.v (.lda 4 (.t 31))), none, []⟩⟩⟩, ⟨4, ⟨[], ⟨(some 33), (.v (.lda 4 (.t 3))), none, []⟩⟩⟩, ⟨5, ⟨[3, 2, 0, 1, 4], ⟨(some 34), (.v (.det 29 [⟨true, [(.int .i64), (.int .i64), (.int .i64), (.int .i64)]⟩, ⟨false, [.bool]⟩] [(.t 32), (.t 33)])), none, []⟩⟩⟩, ⟨6, ⟨[5, 3, 2, 0, 1, 4], ⟨(some 28), (.v (.mv (.t 34))), none, []⟩⟩⟩, ⟨7, ⟨[6, 5, 3, 2, 0, 1, 4], ⟨(some 35), (.v (.ext (.t 28) 0)), none, []⟩⟩⟩, ⟨8, ⟨[6, 5, 3, 2, 0, 1, 4], ⟨(some 36), (.v (.ext (.t 28) 1)), none, []⟩⟩⟩, ⟨9, ⟨[], ⟨(some 10), (.v (.alloc 0 24 [(.c (.int .i64 0)), (.c (.int .i64 0)), (.c (.int .i64 0)), (.c (.int .i64 0))])), none, []⟩⟩⟩, ⟨10, ⟨[7, 6, 5, 3, 2, 0, 1, 4, 9], ⟨none, (.v (.st 4 (.t 10) (.t 35))), none, []⟩⟩⟩, ⟨11, ⟨[8, 10, 7, 6, 5, 3, 2, 0, 1, 4, 9], ⟨(some 11), (.v (.mv (.t 36))), none, []⟩⟩⟩]) (.seq (.ops 0 [⟨(some 37), (.v (.mv (.t 11))), none, []⟩]) (.cond (.t 37) (.ops 2 [⟨(some 38), (.v (.mv (.t 8))), none, []⟩, ⟨(some 39), (.v (.lda 4 (.t 10))), none, []⟩, ⟨(some 40), (.v (.bsl 0 24 [(.int .i64), (.int .i64), (.int .i64), (.int .i64)] [(.t 39)])), none, []⟩, ⟨(some 41), (.v (.app 1 24 [(.int .i64), (.int .i64), (.int .i64), (.int .i64)] 4398046511104 (.t 38) (.t 40))), none, []⟩, ⟨(some 8), (.v (.mv (.t 41))), none, []⟩]) .skip)))) (.ops 0 [⟨(some 26), (.v (.mv (.t 9))), none, []⟩, ⟨(some 27), (.v (.bin .add (.t 26) (.k (.c (.int .i64 1))))), none, []⟩, ⟨(some 9), (.v (.mv (.t 27))), none, []⟩])))))) (.seq (.ops 0 [⟨(some 42), (.v (.mv (.t 8))), none, []⟩, ⟨(some 4), (.v (.mv (.t 42))), none, []⟩, ⟨(some 5), (.v (.mv (.k (.c (.int .i64 0))))), none, []⟩]) .ret)))))), 43, [(.t 4), (.t 5)]⟩
def rf18 : RFn := ⟨(.seq (.ops 0 [⟨(some 4), (.v (.mv (.k (.c (.bool false))))), none, []⟩]) (.seq (.seq (.ops 0 [⟨(some 6), (.v (.mv (.t 0))), none, []⟩, ⟨(some 7), (.v (.lenS (.t 6))), none, []⟩, ⟨(some 8), (.v (.mv (.t 1))), none, []⟩, ⟨(some 9), (.v (.lenS (.t 8))), none, []⟩, ⟨(some 10), (.v (.bin .neq (.t 7) (.t 9))), none, []⟩]) (.cond (.t 10) (.seq (.ops 0 [⟨(some 4), (.v (.mv (.k (.c (.bool false))))), none, []⟩]) .ret) .skip)) (.seq (.seq (.ops 0 [⟨(some 5), (.v (.mv (.k (.c (.int .i64 0))))), none, []⟩]) (.block 0 (.loop (.seq (.seq (.ops 0 [⟨(some 11), (.v (.mv (.t 5))), none, []⟩, ⟨(some 12), (.v (.mv (.t 0))), none, []⟩, ⟨(some 13), (.v (.lenS (.t 12))), none, []⟩, ⟨(some 14), (.v (.bin .lss (.t 11) (.t 13))), none, []⟩]) (.cond (.t 14) .skip (.exit 0))) (.seq (.block 1 (.seq (.any 0 [⟨0, ⟨[], ⟨(some 17), (.v (.mv (.t 0))), none, []⟩⟩⟩, ⟨1, ⟨[], ⟨(some 18), (.v (.mv (.t 5))), none, []⟩⟩⟩, ⟨2, ⟨[0, 1], ⟨(some 19), (.v (.ia 4 (.t 17) (.t 18))), none, []⟩⟩⟩, ⟨3, ⟨[2, 0, 1], ⟨(some 20), (.v (.lda 4 (.t 19))), none, []⟩⟩⟩, ⟨4, ⟨[], ⟨(some 21), (.v (.mv (.t 1))), none, []⟩⟩⟩, ⟨5, ⟨[], ⟨(some 22), (.v (.mv (.t 5))), none, []⟩⟩⟩, ⟨6, ⟨[4, 5], ⟨(some 23), (.v (.ia 4 (.t 21) (.t 22))), none, []⟩⟩⟩, ⟨7, ⟨[6, 4, 5], ⟨(some 24), (.v (.lda 4 (.t 23))), none, []⟩⟩⟩, ⟨8, ⟨[3, 2, 0, 1, 7, 6, 4, 5], ⟨(some 25), (.v (.eqs [(.int .i64), (.int .i64), (.int .i64), (.int .i64)] true (.t 20) (.t 24))), none, []⟩⟩⟩]) (.cond (.t 25) (.seq (.ops 0 [⟨(some 4), (.v (.mv (.k (.c (.bool false))))), none, []⟩]) .ret) .skip))) (.ops 0 [⟨(some 15), (.v (.mv (.t 5))), none, []⟩, ⟨(some 16), (.v (.bin .add (.t 15) (.k (.c (.int .i64 1))))), none, []⟩, ⟨(some 5), (.v (.mv (.t 16))), none, []⟩])))))) (.seq (.ops 0 [⟨(some 4), (.v (.mv (.k (.c (.bool true))))), none, []⟩]) .ret)))), 26, [(.t 4)]⟩
def rf38 : RFn := ⟨(.seq (.ops 0 [⟨(some 2), (.v (.mv (.k (.c (.int .i64 0))))), none, []⟩]) (.seq (.seq (.ops 0 [⟨(some 5), (.v (.mv (.t 0))), none, []⟩, ⟨(some 6), (.v (.lenS (.t 5))), none, []⟩, ⟨(some 7), (.v (.bin .gtr (.t 6) (.k (.c (.int .i64 64))))), none, []⟩]) (.cond (.t 7) (.seq (.ops 0 [⟨(some 2), (.v (.mv (.k (.c (.int .i64 8))))), none, []⟩]) .ret) .skip)) (.seq (.seq (.ops 0 [⟨(some 3), (.v (.mv (.k (.c (.int .i64 0))))), none, []⟩]) (.block 0 (.loop (.seq (.seq (.ops 0 [⟨(some 8), (.v (.mv (.t 3))), none, []⟩, ⟨(some 9), (.v (.mv (.t 0))), none, []⟩, ⟨(some 10), (.v (.lenS (.t 9))), none, []⟩, ⟨(some 11), (.v (.bin .lss (.t 8) (.t 10))), none, []⟩]) (.cond (.t 11) .skip (.exit 0))) (.seq (.block 1 (.seq (.ops 0 [⟨(some 14), (.v (.mv (.t 0))), none, []⟩, ⟨(some 15), (.v (.mv (.t 3))), none, []⟩, ⟨(some 16), (.v (.ia 4 (.t 14) (.t 15))), none, []⟩, ⟨(some 17), (.v (.lda 4 (.t 16))), none, []⟩, ⟨(some 18), (.v (.det 31 [⟨false, [(.int .i64)]⟩] [(.t 17)])), none, []⟩, ⟨(some 4), (.v (.mv (.t 18))), none, []⟩]) (.seq (.ops 0 [⟨(some 19), (.v (.mv (.t 4))), none, []⟩, ⟨(some 20), (.v (.bin .neq (.t 19) (.k (.c (.int .i64 0))))), none, []⟩]) (.cond (.t 20) (.seq (.ops 0 [⟨(some 21), (.v (.mv (.t 4))), none, []⟩, ⟨(some 2), (.v (.mv (.t 21))), none, []⟩]) .ret) .skip)))) (.ops 0 [⟨(some 12), (.v (.mv (.t 3))), none, []⟩, ⟨(some 13), (.v (.bin .add (.t 12) (.k (.c (.int .i64 1))))), none, []⟩, ⟨(some 3), (.v (.mv (.t 13))), none, []⟩])))))) (.seq (.ops 0 [⟨(some 2), (.v (.mv (.k (.c (.int .i64 0))))), none, []⟩]) .ret)))), 22, [(.t 2)]⟩
def rf4 : RFn := ⟨(.seq (.ops 1 [⟨(some 3), (.v (.box 0 24 (.t 1))), none, []⟩, ⟨(some 4), (.v (.mv (.k (.c (.bool false))))), none, []⟩]) (.seq (.seq (.ops 0 [⟨(some 9), (.v (.mv (.t 0))), none, []⟩, ⟨(some 10), (.v (.lenS (.t 9))), none, []⟩, ⟨(some 11), (.v (.bin .gtr (.t 10) (.k (.c (.int .i64 70))))), none, []⟩]) (.cond (.t 11) (.seq (.ops 0 [⟨(some 12), (.v (.det 11 [⟨false, [.bool]⟩] [])), none, []⟩, ⟨(some 4), (.v (.mv (.t 12))), none, []⟩]) .ret) .skip)) (.seq (.ops 0 [⟨(some 14), (.v (.mv (.t 0))), none, []⟩, ⟨(some 15), (.v (.lda 4 (.t 3))), none, []⟩, ⟨(some 16), (.v (.det 16 [⟨false, [(.sl [(.int .i64), (.int .i64), (.int .i64), (.int .i64)])]⟩, ⟨false, [(.int .i64)]⟩] [(.t 14), (.t 15)])), none, []⟩, ⟨(some 13), (.v (.mv (.t 16))), none, []⟩, ⟨(some 17), (.v (.ext (.t 13) 0)), none, []⟩, ⟨(some 18), (.v (.ext (.t 13) 1)), none, []⟩, ⟨(some 5), (.v (.mv (.t 17))), none, []⟩, ⟨(some 6), (.v (.mv (.t 18))), none, []⟩]) (.seq (.ops 0 [⟨(some 20), (.v (.mv (.t 0))), none, []⟩, ⟨(some 21), (.v (.lda 4 (.t 3))), none, []⟩, ⟨(some 22), (.v (.det 17 [⟨false, [(.sl [(.int .i64), (.int .i64), (.int .i64), (.int .i64)])]⟩, ⟨false, [(.int .i64)]⟩] [(.t 20), (.t 21)])), none, []⟩, ⟨(some 19), (.v (.mv (.t 22))), none, []⟩, ⟨(some 23), (.v (.ext (.t 19) 0)), none, []⟩, ⟨(some 24), (.v (.ext (.t 19) 1)), none, []⟩, ⟨(some 7), (.v (.mv (.t 23))), none, []⟩, ⟨(some 8), (.v (.mv (.t 24))), none, []⟩]) (.seq (.ops 0 [⟨(some 25), (.v (.mv (.t 5))), none, []⟩, ⟨(some 26), (.v (.mv (.t 7))), none, []⟩, ⟨(some 27), (.v (.det 18 [⟨false, [.bool]⟩] [(.t 25), (.t 26)])), none, []⟩, ⟨(some 28), (.v (.mv (.t 27))), none, []⟩, ⟨(some 29), (.v (.mv (.t 6))), (some ⟨28, true⟩), [(.t 6)]⟩, ⟨(some 30), (.v (.mv (.t 8))), (some ⟨28, true⟩), [(.t 8)]⟩, ⟨(some 31), (.v (.bin .eql (.t 29) (.t 30))), (some ⟨28, true⟩), [(.t 29), (.t 30)]⟩, ⟨(some 32), (.v (.pick (.t 28) (.t 31) (.k (.c (.bool false))))), none, []⟩, ⟨(some 33), (.v (.mv (.t 32))), none, []⟩, ⟨(some 34), (.v (.det 11 [⟨false, [.bool]⟩] [])), (some ⟨33, true⟩), [(.k (.fn 11 []))]⟩, ⟨(some 35), (.v (.pick (.t 33) (.t 34) (.k (.c (.bool false))))), none, []⟩, ⟨(some 4), (.v (.mv (.t 35))), none, []⟩]) .ret))))), 36, [(.t 4)]⟩
abbrev i4 : List LK := [.int .i64, .int .i64, .int .i64, .int .i64]
/-- Number j of row i. -/
def ce (xs : List (List C)) (i j : Nat) : Int := (cellAt xs i j).gi
def chkAt (xs : List (List C)) (i : Nat) : Int := chk (ce xs i 0) (ce xs i 1) (ce xs i 2) (ce xs i 3)
/-- The first error from row i on. -/
def firstE (xs : List (List C)) (i : Nat) : Int := if i < xs.length then (if chkAt xs i = 0 then firstE xs (i + 1) else chkAt xs i) else 0
termination_by xs.length - i
theorem firstE_lt {xs : List (List C)} {i : Nat} (h : i < xs.length) : firstE xs i = if chkAt xs i = 0 then firstE xs (i + 1) else chkAt xs i := by rw [firstE, if_pos h]
theorem firstE_ge {xs : List (List C)} {i : Nat} (h : ¬ i < xs.length) : firstE xs i = 0 := by rw [firstE, if_neg h]
def allE (xs : List (List C)) : Int := if 64 < xs.length then 8 else firstE xs 0
abbrev lC (xs : List (List C)) : A := .c (.sl i4 xs)
def comAt (xs : List (List C)) (l r a b : Int) (i : Nat) : List C :=
  [zs (comE (ce xs i 0) (ce xs i 1) (ce xs i 2) (ce xs i 3) l r a b) (mx (ce xs i 0) l), zs (comE (ce xs i 0) (ce xs i 1) (ce xs i 2) (ce xs i 3) l r a b) (mn (ce xs i 1) r),
   zs (comE (ce xs i 0) (ce xs i 1) (ce xs i 2) (ce xs i 3) l r a b) (mx (ce xs i 2) a), zs (comE (ce xs i 0) (ce xs i 1) (ce xs i 2) (ce xs i 3) l r a b) (mn (ce xs i 3) b)]
def isAt (xs : List (List C)) (l r a b : Int) (i : Nat) : Bool := comI (ce xs i 0) (ce xs i 1) (ce xs i 2) (ce xs i 3) l r a b
/-- The common parts of the first i rows with a rectangle, those that have points. -/
def clipTo (xs : List (List C)) (l r a b : Int) : Nat → List (List C)
  | 0 => []
  | i + 1 => clipTo xs l r a b i ++ (if isAt xs l r a b i then [comAt xs l r a b i] else [])
theorem clipTo_len (xs : List (List C)) (l r a b : Int) : ∀ i, (clipTo xs l r a b i).length ≤ i
  | 0 => Nat.le_refl _
  | i + 1 => by
    have := clipTo_len xs l r a b i
    simp only [clipTo, List.length_append]
    split <;> simp <;> omega
def clipE (xs : List (List C)) (l r a b : Int) : Int := if chk l r a b = 0 then allE xs else chk l r a b
def clipL (xs : List (List C)) (l r a b : Int) : List (List C) := if clipE xs l r a b = 0 then clipTo xs l r a b xs.length else []
/-- The rows agree from i on. -/
def rowEq (xs ys : List (List C)) (i : Nat) : Bool := (ce xs i 0 == ce ys i 0) && ((ce xs i 1 == ce ys i 1) && ((ce xs i 2 == ce ys i 2) && (ce xs i 3 == ce ys i 3)))
def sameFrom (xs ys : List (List C)) (i : Nat) : Bool := if i < xs.length then (if rowEq xs ys i then sameFrom xs ys (i + 1) else false) else true
termination_by xs.length - i
theorem sameFrom_lt {xs ys : List (List C)} {i : Nat} (h : i < xs.length) : sameFrom xs ys i = if rowEq xs ys i then sameFrom xs ys (i + 1) else false := by rw [sameFrom, if_pos h]
theorem sameFrom_ge {xs ys : List (List C)} {i : Nat} (h : ¬ i < xs.length) : sameFrom xs ys i = true := by rw [sameFrom, if_neg h]
def sameL (xs ys : List (List C)) : Bool := if xs.length = ys.length then sameFrom xs ys 0 else false
def tb2 (f : FuncId) (ds : List A) : List C :=
  match ds with
  | [.c (.sl _ xs)] => match f with
    | 36 => [.int .i64 (allE xs)]
    | 38 => [.int .i64 (allE xs)]
    | _ => []
  | [.c (.sl _ xs), .agg [.c (.int _ l), .c (.int _ r), .c (.int _ a), .c (.int _ b)]] => match f with
    | 16 => [.sl i4 (clipL xs l r a b), .int .i64 (clipE xs l r a b)]
    | 17 => [.sl i4 (clipL xs l r a b), .int .i64 (clipE xs l r a b)]
    | _ => []
  | [.c (.sl _ xs), .c (.sl _ ys)] => match f with
    | 18 => [.bool (sameL xs ys)]
    | _ => []
  | _ => tbl f ds
abbrev kL : Bool × List LK := (false, [.sl i4])
abbrev PC2 (f : FuncId) (rty : List (Bool × List LK)) (ds : List A) : Prop := PureC Try.prog f rty ds fun i => (tb2 f ds).getD i .nil
structure WP2 (f : RFn) (rty : List (Bool × List LK)) (l : List C) (ds : List A) : Prop where
  h : f.body.wp Try.prog (stdE Try.prog tb2) 0 (finP (stdE Try.prog tb2) (getL l) rty f.results) ⟨ds ++ List.replicate (f.ntmps - ds.length) .u, []⟩
theorem pc2_of {D : Opts} {f : FuncId} {rf : RFn} {rty : List (Bool × List LK)} {ds : List A} (h : fnR Try.prog D f = some rf) (hn : ((Try.prog.funcs[f]?).map (·.name == "runtime.NumGoroutine")).getD true = false)
    {l : List C} (hl : tb2 f ds = l) (hw : WP2 rf rty l ds) : PC2 f rty ds := by
  have e : (fun i => (tb2 f ds).getD i .nil) = getL l := by rw [hl]; rfl
  show PureC _ _ _ _ (fun i => (tb2 f ds).getD i .nil)
  rw [e]
  exact PureC_fn tb2 mo h hn hw.h
theorem u30 (l r a b : Int) : tb2 30 [rc l r a b] = [.int .i64 (chk l r a b)] := rfl
theorem u31 (l r a b : Int) : tb2 31 [rc l r a b] = [.int .i64 (chk l r a b)] := rfl
theorem u28 (l r a b l' r' a' b' : Int) : tb2 28 [rc l r a b, rc l' r' a' b'] = [zs (comE l r a b l' r' a' b') (mx l l'), zs (comE l r a b l' r' a' b') (mn r r'), zs (comE l r a b l' r' a' b') (mx a a'), zs (comE l r a b l' r' a' b') (mn b b'), .bool (comI l r a b l' r' a' b')] := rfl
theorem u29 (l r a b l' r' a' b' : Int) : tb2 29 [rc l r a b, rc l' r' a' b'] = [zs (comE l r a b l' r' a' b') (mx l l'), zs (comE l r a b l' r' a' b') (mn r r'), zs (comE l r a b l' r' a' b') (mx a a'), zs (comE l r a b l' r' a' b') (mn b b'), .bool (comI l r a b l' r' a' b')] := rfl
theorem u11 : tb2 11 [] = [.bool true] := rfl
theorem d30 (l r a b : Int) : PC2 30 [kI] [rc l r a b] := c30 l r a b
theorem d31 (l r a b : Int) : PC2 31 [kI] [rc l r a b] := c31 l r a b
theorem d28 (l r a b l' r' a' b' : Int) : PC2 28 [kR, kB] [rc l r a b, rc l' r' a' b'] := c28 l r a b l' r' a' b'
theorem d29 (l r a b l' r' a' b' : Int) : PC2 29 [kR, kB] [rc l r a b, rc l' r' a' b'] := c29 l r a b l' r' a' b'
theorem u36 (xs : List (List C)) : tb2 36 [lC xs] = [.int .i64 (allE xs)] := rfl
theorem u38 (xs : List (List C)) : tb2 38 [lC xs] = [.int .i64 (allE xs)] := rfl
theorem u16 (xs : List (List C)) (l r a b : Int) : tb2 16 [lC xs, rc l r a b] = [.sl i4 (clipL xs l r a b), .int .i64 (clipE xs l r a b)] := rfl
theorem u17 (xs : List (List C)) (l r a b : Int) : tb2 17 [lC xs, rc l r a b] = [.sl i4 (clipL xs l r a b), .int .i64 (clipE xs l r a b)] := rfl
theorem u18 (xs ys : List (List C)) : tb2 18 [lC xs, lC ys] = [.bool (sameL xs ys)] := rfl

theorem x36 {xs : List (List C)} {v : Int} (hl : xs.length ≤ 9223372036854775807) (hv : allE xs = v) : WP2 rf36 [kI] [.int .i64 v] [lC xs] := by
  refine ⟨?_⟩
  generalize hE : stdE Try.prog tb2 = E
  generalize hP : Try.prog = P
  cbv
  refine Br_iff.2 ⟨fun h1 => ?_, fun h1 => ?_⟩
  · subst hP; subst hE
    simp only [stdE, baseE, decide_eq_true_eq] at h1
    simp only [and_true]
    rw [← hv, allE, if_pos (by omega)]
  refine LoopW.inv (fun R R' s h k => RCode.wp_mono _ R R' s h k) (fun i : Nat => ⟨[.u, .u, iC 0, .u, .u, .u, .u, .u, .u, lC xs, iC (E.len xs), iC i, .u, .u, .u, .u, .u, .u, .u, .u, .u], []⟩)
    (fun i => i ≤ xs.length ∧ firstE xs i = v) (fun i => xs.length - i) 0 ?_ ?_ ?_
  · subst hP; subst hE
    simp only [stdE, baseE, decide_eq_false_iff_not] at h1
    exact ⟨Nat.zero_le _, by rw [← hv, allE, if_neg (by omega)]⟩
  · refine GSt.ren [] rfl rfl rfl (fun i hi => absurd hi (Nat.not_lt_zero i)) (Nat.zero_le _) ?_ trivial
    repeat' (first | exact trivial | exact Or.inl rfl | exact Or.inr rfl | refine And.intro ?_ ?_)
  rintro i ⟨hi, hf⟩
  cbv
  subst hP; subst hE
  simp only [Br_iff, stdE, baseE, decide_eq_true_eq, decide_eq_false_iff_not, and_true]
  refine ⟨fun h2 => ⟨Int.natCast_nonneg i, h2, d30 _ _ _ _, ?_⟩, fun h2 => ?_⟩
  · simp only [u30, ofNat_toNat, List.getD_cons_zero, gi_int]
    have hlt : i < xs.length := by simpa using h2
    have hu := firstE_lt hlt
    refine ⟨fun h3 => ?_, fun h3 => ⟨i + 1, ⟨hlt, ?_⟩, ?_, by omega⟩⟩
    · have h3' : ¬ chkAt xs i = 0 := by intro e; rw [chkAt, ce, ce, ce, ce] at e; rw [e] at h3; cases h3
      rw [if_neg h3'] at hu
      rw [← hf, hu]; rfl
    · have h3' : chkAt xs i = 0 := by simpa [chkAt, ce] using h3
      rw [if_pos h3'] at hu
      rw [← hf, hu]
    · refine GSt.ren [] rfl rfl rfl (fun i hi => absurd hi (Nat.not_lt_zero i)) (Nat.zero_le _) ?_ trivial
      repeat' (first | exact trivial | exact Or.inl rfl | exact Or.inr rfl | refine And.intro ?_ ?_)
      all_goals (
        right
        simp only [A.ren, A.c.injEq, C.int.injEq, true_and]
        rw [wrap_in (by simp; omega) (by simp; omega)]
        simp)
  · have hge : ¬ i < xs.length := by simpa using h2
    rw [firstE_ge hge] at hf
    rw [hf]
theorem d36 {xs : List (List C)} (hl : xs.length ≤ 9223372036854775807) : PC2 36 [kI] [lC xs] := pc2_of h36 (by kernel_rfl) (u36 xs) (x36 hl rfl)
theorem h38 : fnR Try.prog DD 38 = some rf38 := by kernel_rfl

theorem x38 {xs : List (List C)} {v : Int} (hl : xs.length ≤ 9223372036854775807) (hv : allE xs = v) : WP2 rf38 [kI] [.int .i64 v] [lC xs] := by
  refine ⟨?_⟩
  generalize hE : stdE Try.prog tb2 = E
  generalize hP : Try.prog = P
  cbv
  refine Br_iff.2 ⟨fun h1 => ?_, fun h1 => ?_⟩
  · subst hP; subst hE
    simp only [stdE, baseE, decide_eq_true_eq] at h1
    simp only [and_true]
    rw [← hv, allE, if_pos (by omega)]
  refine LoopW.inv (fun R R' s h k => RCode.wp_mono _ R R' s h k) (fun i : Nat => ⟨[lC xs, .u, iC 0, iC i, .u, .u, .u, .u, .u, .u, .u, .u, .u, .u, .u, .u, .u, .u, .u, .u, .u, .u], []⟩)
    (fun i => i ≤ xs.length ∧ firstE xs i = v) (fun i => xs.length - i) 0 ?_ ?_ ?_
  · subst hP; subst hE
    simp only [stdE, baseE, decide_eq_false_iff_not] at h1
    exact ⟨Nat.zero_le _, by rw [← hv, allE, if_neg (by omega)]⟩
  · refine GSt.ren [] rfl rfl rfl (fun i hi => absurd hi (Nat.not_lt_zero i)) (Nat.zero_le _) ?_ trivial
    repeat' (first | exact trivial | exact Or.inl rfl | exact Or.inr rfl | refine And.intro ?_ ?_)
  rintro i ⟨hi, hf⟩
  cbv
  subst hP; subst hE
  simp only [Br_iff, stdE, baseE, decide_eq_true_eq, decide_eq_false_iff_not, and_true]
  refine ⟨fun h2 => ⟨Int.natCast_nonneg i, h2, d31 _ _ _ _, ?_⟩, fun h2 => ?_⟩
  · simp only [u31, ofNat_toNat, List.getD_cons_zero, gi_int]
    have hlt : i < xs.length := by simpa using h2
    have hu := firstE_lt hlt
    refine ⟨fun h3 => ?_, fun h3 => ⟨i + 1, ⟨hlt, ?_⟩, ?_, by omega⟩⟩
    · have h3' : ¬ chkAt xs i = 0 := by intro e; rw [chkAt, ce, ce, ce, ce] at e; rw [e] at h3; cases h3
      rw [if_neg h3'] at hu
      rw [← hf, hu]; rfl
    · have h3' : chkAt xs i = 0 := by simpa [chkAt, ce] using h3
      rw [if_pos h3'] at hu
      rw [← hf, hu]
    · refine GSt.ren [] rfl rfl rfl (fun i hi => absurd hi (Nat.not_lt_zero i)) (Nat.zero_le _) ?_ trivial
      repeat' (first | exact trivial | exact Or.inl rfl | exact Or.inr rfl | refine And.intro ?_ ?_)
      all_goals (
        right
        simp only [A.ren, A.c.injEq, C.int.injEq, true_and]
        rw [wrap_in (by simp; omega) (by simp; omega)]
        simp)
  · have hge : ¬ i < xs.length := by simpa using h2
    rw [firstE_ge hge] at hf
    rw [hf]
theorem d38 {xs : List (List C)} (hl : xs.length ≤ 9223372036854775807) : PC2 38 [kI] [lC xs] := pc2_of h38 (by kernel_rfl) (u38 xs) (x38 hl rfl)
theorem h18 : fnR Try.prog DD 18 = some rf18 := by kernel_rfl

theorem x18 {xs ys : List (List C)} {v : Bool} (hl : xs.length ≤ 9223372036854775807) (hv : sameL xs ys = v) : WP2 rf18 [kB] [.bool v] [lC xs, lC ys] := by
  refine ⟨?_⟩
  generalize hE : stdE Try.prog tb2 = E
  generalize hP : Try.prog = P
  cbv
  refine Br_iff.2 ⟨fun h1 => ?_, fun h1 => ?_⟩
  · subst hP; subst hE
    simp [stdE, baseE] at h1
    simp only [and_true]
    rw [← hv, sameL, if_neg (by omega)]
  refine LoopW.inv (fun R R' s h k => RCode.wp_mono _ R R' s h k) (fun i : Nat => ⟨[lC xs, lC ys, .u, .u, .c (.bool false), iC i, .u, .u, .u, .u, .u, .u, .u, .u, .u, .u, .u, .u, .u, .u, .u, .u, .u, .u, .u, .u], []⟩)
    (fun i => i ≤ xs.length ∧ sameFrom xs ys i = v) (fun i => xs.length - i) 0 ?_ ?_ ?_
  · subst hP; subst hE
    simp [stdE, baseE] at h1
    exact ⟨Nat.zero_le _, by rw [← hv, sameL, if_pos (by omega)]⟩
  · refine GSt.ren [] rfl rfl rfl (fun i hi => absurd hi (Nat.not_lt_zero i)) (Nat.zero_le _) ?_ trivial
    repeat' (first | exact trivial | exact Or.inl rfl | exact Or.inr rfl | refine And.intro ?_ ?_)
  have hll : xs.length = ys.length := by
    subst hP; subst hE
    simp [stdE, baseE] at h1
    omega
  rintro i ⟨hi, hf⟩
  cbv
  subst hP; subst hE
  simp only [Br_iff, stdE, baseE, decide_eq_true_eq, decide_eq_false_iff_not, and_true, ofNat_toNat]
  refine ⟨fun h2 => ⟨Int.natCast_nonneg i, h2, Int.natCast_nonneg i, ?_, fun h3 => ?_, fun h3 => ⟨i + 1, ⟨?_, ?_⟩, ?_, ?_⟩⟩, fun h2 => ?_⟩
  · rw [← hll]; exact h2
  · have hlt : i < xs.length := by simpa using h2
    have hu := sameFrom_lt (ys := ys) hlt
    have h3' : rowEq xs ys i = false := by
      cases hr : rowEq xs ys i with
      | false => rfl
      | true =>
        simp only [rowEq, ce, Bool.and_eq_true] at hr
        simp [hr.1, hr.2.1, hr.2.2.1, hr.2.2.2] at h3
    rw [h3', if_neg (by simp)] at hu
    rw [← hf, hu]
  · exact (by simpa using h2 : i < xs.length)
  · have hlt : i < xs.length := by simpa using h2
    have hu := sameFrom_lt (ys := ys) hlt
    have h3' : rowEq xs ys i = true := by simpa [rowEq, ce] using h3
    rw [h3', if_pos rfl] at hu
    rw [← hf, hu]
  · have hlt : i < xs.length := by simpa using h2
    refine GSt.ren [] rfl rfl rfl (fun i hi => absurd hi (Nat.not_lt_zero i)) (Nat.zero_le _) ?_ trivial
    repeat' (first | exact trivial | exact Or.inl rfl | exact Or.inr rfl | refine And.intro ?_ ?_)
    all_goals (
      right
      simp only [A.ren, A.c.injEq, C.int.injEq, true_and]
      rw [wrap_in (by simp; omega) (by simp; omega)]
      simp)
  · have hlt : i < xs.length := by simpa using h2
    omega
  · have hge : ¬ i < xs.length := by simpa using h2
    rw [sameFrom_ge hge] at hf
    rw [hf]
theorem d18 {xs ys : List (List C)} (hl : xs.length ≤ 9223372036854775807) : PC2 18 [kB] [lC xs, lC ys] := pc2_of h18 (by kernel_rfl) (u18 xs ys) (x18 hl rfl)
theorem h17 : fnR Try.prog DD 17 = some rf17 := by kernel_rfl

theorem x16 {xs : List (List C)} {l r a b e : Int} {ys : List (List C)} (hl : xs.length ≤ 9223372036854775807) (he : clipE xs l r a b = e) (hy : clipL xs l r a b = ys) : WP2 rf16 [kL, kI] [.sl i4 ys, .int .i64 e] [lC xs, rc l r a b] := by
  refine ⟨?_⟩
  generalize hE : stdE Try.prog tb2 = E
  generalize hP : Try.prog = P
  cbv
  refine ⟨?_, Br_iff.2 ⟨fun h1 => ?_, fun h1 => ⟨?_, Br_iff.2 ⟨fun h2 => ?_, fun h2 => ?_⟩⟩⟩⟩
  · subst hP; subst hE; exact d30 l r a b
  · subst hP; subst hE
    simp only [stdE, baseE, u30, List.getD_cons_zero, gi_int, and_true] at h1 ⊢
    have h1' : ¬ chk l r a b = 0 := by simpa using h1
    rw [← he, ← hy, clipL, clipE, if_neg h1', if_neg h1']
    exact ⟨rfl, rfl⟩
  · subst hP; subst hE; exact d36 hl
  · subst hP; subst hE
    simp only [stdE, baseE, u30, u36, List.getD_cons_zero, gi_int, and_true] at h1 h2 ⊢
    have h1' : chk l r a b = 0 := by simpa using h1
    have h2' : ¬ allE xs = 0 := by simpa using h2
    rw [← he, ← hy, clipL, clipE, if_pos h1', if_neg h2']
    exact ⟨rfl, rfl⟩
  have h12 : chk l r a b = 0 ∧ allE xs = 0 := by
    subst hP; subst hE
    simp only [stdE, baseE, u30, u36, List.getD_cons_zero, gi_int] at h1 h2
    exact ⟨by simpa using h1, by simpa using h2⟩
  have hee : e = 0 := by rw [← he, clipE, if_pos h12.1, h12.2]
  have hyy : ys = clipTo xs l r a b xs.length := by rw [← hy, clipL, clipE, if_pos h12.1, h12.2, if_pos rfl]
  refine LoopW.inv (fun R R' s h k => RCode.wp_mono _ R R' s h k) (fun i : Nat => ⟨[.u, .u, .u, .ptr 0 0, .u, iC 0, .u, .u, .gr 1, .u, .u, .u, .u, .u, .u, .u, .u, .u, .u, .u, .u, .u, .u, lC xs, iC (E.len xs), iC i, .u, .u, .u, .u, .u, .u, .u, .u, .u, .u, .u, .u, .u, .u, .u, .u], [O.box 24 [iC l, iC r, iC a, iC b], .arr 24 i4 (clipTo xs l r a b i)]⟩)
    (fun i => i ≤ xs.length) (fun i => xs.length - i) 0 ?_ ?_ ?_
  · exact Nat.zero_le _
  · refine GSt.trans (GSt.nil 8 24 i4 rfl) (GSt.ren [0, 1] rfl rfl rfl (fun i hi => absurd hi (Nat.not_lt_zero i)) (Nat.zero_le _) ?_ ?_)
    · repeat' (first | exact trivial | exact Or.inl rfl | exact Or.inr rfl | refine And.intro ?_ ?_)
    · repeat' (first | exact trivial | exact Or.inr rfl | refine And.intro ?_ ?_)
  have h64 : xs.length ≤ 64 := by
    have := h12.2
    unfold allE at this
    split at this
    · cases this
    · omega
  intro i hi
  obtain ⟨w, hw⟩ : ∃ w, clipTo xs l r a b i = w := ⟨_, rfl⟩
  dsimp only
  rw [hw]
  cbv
  subst hP; subst hE
  simp only [Br_iff, stdE, baseE, decide_eq_true_eq, decide_eq_false_iff_not, and_true, ofNat_toNat]
  have hstep : clipTo xs l r a b (i + 1) = clipTo xs l r a b i ++ (if isAt xs l r a b i then [comAt xs l r a b i] else []) := rfl
  have hwl := clipTo_len xs l r a b i
  rw [hw] at hstep hwl
  refine ⟨fun h3 => ⟨Int.natCast_nonneg i, h3, d28 _ _ _ _ _ _ _ _, ?_⟩, fun h3 => ?_⟩
  · have hlt : i < xs.length := by simpa using h3
    simp only [u28, List.getD_cons_zero, List.getD_cons_succ, zs, gi_int, gb_bool]
    refine ⟨fun h4 => ⟨?_, i + 1, hlt, GSt.ren [0, 5] rfl rfl rfl (fun i hi => absurd hi (Nat.not_lt_zero i)) (Nat.zero_le _) ?_ ?_, by omega⟩, fun h4 => ⟨i + 1, hlt, GSt.ren [0, 1] rfl rfl rfl (fun i hi => absurd hi (Nat.not_lt_zero i)) (Nat.zero_le _) ?_ ?_, by omega⟩⟩
    · simp; omega
    · repeat' (first | exact trivial | exact Or.inl rfl | exact Or.inr rfl | refine And.intro ?_ ?_)
      all_goals (
        right
        simp only [A.ren, A.c.injEq, C.int.injEq, true_and]
        rw [wrap_in (by simp; omega) (by simp; omega)]
        simp)
    · refine ⟨Or.inr rfl, Or.inr ?_, trivial⟩
      have hs1 : clipTo xs l r a b (i + 1) = w ++ [comAt xs l r a b i] := by
        have h5 : isAt xs l r a b i = true := h4
        rw [hstep, h5]; rfl
      rw [hs1]
      rfl
    · repeat' (first | exact trivial | exact Or.inl rfl | exact Or.inr rfl | refine And.intro ?_ ?_)
      all_goals (
        right
        simp only [A.ren, A.c.injEq, C.int.injEq, true_and]
        rw [wrap_in (by simp; omega) (by simp; omega)]
        simp)
    · refine ⟨Or.inr rfl, Or.inr ?_, trivial⟩
      have hs1 : clipTo xs l r a b (i + 1) = w := by
        have h5 : isAt xs l r a b i = false := h4
        rw [hstep, h5]; simp
      rw [hs1]
      rfl
  · have hge : i = xs.length := by
      have : ¬ i < xs.length := by simpa using h3
      omega
    subst hge
    rw [hyy, hw, hee]
    exact ⟨rfl, rfl⟩
theorem d16 {xs : List (List C)} (hl : xs.length ≤ 9223372036854775807) (l r a b : Int) : PC2 16 [kL, kI] [lC xs, rc l r a b] := pc2_of h16 (by kernel_rfl) (u16 xs l r a b) (x16 hl rfl rfl)

theorem x17 {xs : List (List C)} {l r a b e : Int} {ys : List (List C)} (hl : xs.length ≤ 9223372036854775807) (he : clipE xs l r a b = e) (hy : clipL xs l r a b = ys) : WP2 rf17 [kL, kI] [.sl i4 ys, .int .i64 e] [lC xs, rc l r a b] := by
  refine ⟨?_⟩
  generalize hE : stdE Try.prog tb2 = E
  generalize hP : Try.prog = P
  cbv
  refine ⟨?_, Br_iff.2 ⟨fun h1 => ?_, fun h1 => ⟨?_, Br_iff.2 ⟨fun h2 => ?_, fun h2 => ?_⟩⟩⟩⟩
  · subst hP; subst hE; exact d31 l r a b
  · subst hP; subst hE
    simp only [stdE, baseE, u31, List.getD_cons_zero, gi_int, and_true] at h1 ⊢
    have h1' : ¬ chk l r a b = 0 := by simpa using h1
    rw [← he, ← hy, clipL, clipE, if_neg h1', if_neg h1']
    exact ⟨rfl, rfl⟩
  · subst hP; subst hE; exact d38 hl
  · subst hP; subst hE
    simp only [stdE, baseE, u31, u38, List.getD_cons_zero, gi_int, and_true] at h1 h2 ⊢
    have h1' : chk l r a b = 0 := by simpa using h1
    have h2' : ¬ allE xs = 0 := by simpa using h2
    rw [← he, ← hy, clipL, clipE, if_pos h1', if_neg h2']
    exact ⟨rfl, rfl⟩
  have h12 : chk l r a b = 0 ∧ allE xs = 0 := by
    subst hP; subst hE
    simp only [stdE, baseE, u31, u38, List.getD_cons_zero, gi_int] at h1 h2
    exact ⟨by simpa using h1, by simpa using h2⟩
  have hee : e = 0 := by rw [← he, clipE, if_pos h12.1, h12.2]
  have hyy : ys = clipTo xs l r a b xs.length := by rw [← hy, clipL, clipE, if_pos h12.1, h12.2, if_pos rfl]
  refine LoopW.inv (fun R R' s h k => RCode.wp_mono _ R R' s h k) (fun i : Nat => ⟨[lC xs, .u, .u, .ptr 0 0, .u, iC 0, .u, .u, .gr 1, iC i, .u, .u, .u, .u, .u, .u, .u, .u, .u, .u, .u, .u, .u, .u, .u, .u, .u, .u, .u, .u, .u, .u, .u, .u, .u, .u, .u, .u, .u, .u, .u, .u, .u], [O.box 24 [iC l, iC r, iC a, iC b], .arr 24 i4 (clipTo xs l r a b i)]⟩)
    (fun i => i ≤ xs.length) (fun i => xs.length - i) 0 ?_ ?_ ?_
  · exact Nat.zero_le _
  · refine GSt.trans (GSt.nil 8 24 i4 rfl) (GSt.ren [0, 1] rfl rfl rfl (fun i hi => absurd hi (Nat.not_lt_zero i)) (Nat.zero_le _) ?_ ?_)
    · repeat' (first | exact trivial | exact Or.inl rfl | exact Or.inr rfl | refine And.intro ?_ ?_)
    · repeat' (first | exact trivial | exact Or.inr rfl | refine And.intro ?_ ?_)
  have h64 : xs.length ≤ 64 := by
    have := h12.2
    unfold allE at this
    split at this
    · cases this
    · omega
  intro i hi
  obtain ⟨w, hw⟩ : ∃ w, clipTo xs l r a b i = w := ⟨_, rfl⟩
  dsimp only
  rw [hw]
  cbv
  subst hP; subst hE
  simp only [Br_iff, stdE, baseE, decide_eq_true_eq, decide_eq_false_iff_not, and_true, ofNat_toNat]
  have hstep : clipTo xs l r a b (i + 1) = clipTo xs l r a b i ++ (if isAt xs l r a b i then [comAt xs l r a b i] else []) := rfl
  have hwl := clipTo_len xs l r a b i
  rw [hw] at hstep hwl
  refine ⟨fun h3 => ⟨Int.natCast_nonneg i, h3, d29 _ _ _ _ _ _ _ _, ?_⟩, fun h3 => ?_⟩
  · have hlt : i < xs.length := by simpa using h3
    simp only [u29, List.getD_cons_zero, List.getD_cons_succ, zs, gi_int, gb_bool]
    refine ⟨fun h4 => ⟨?_, i + 1, hlt, GSt.ren [0, 4] rfl rfl rfl (fun i hi => absurd hi (Nat.not_lt_zero i)) (Nat.zero_le _) ?_ ?_, by omega⟩, fun h4 => ⟨i + 1, hlt, GSt.ren [0, 1] rfl rfl rfl (fun i hi => absurd hi (Nat.not_lt_zero i)) (Nat.zero_le _) ?_ ?_, by omega⟩⟩
    · simp; omega
    · repeat' (first | exact trivial | exact Or.inl rfl | exact Or.inr rfl | refine And.intro ?_ ?_)
      all_goals (
        right
        simp only [A.ren, A.c.injEq, C.int.injEq, true_and]
        rw [wrap_in (by simp; omega) (by simp; omega)]
        simp)
    · refine ⟨Or.inr rfl, Or.inr ?_, trivial⟩
      have hs1 : clipTo xs l r a b (i + 1) = w ++ [comAt xs l r a b i] := by
        have h5 : isAt xs l r a b i = true := h4
        rw [hstep, h5]; rfl
      rw [hs1]
      rfl
    · repeat' (first | exact trivial | exact Or.inl rfl | exact Or.inr rfl | refine And.intro ?_ ?_)
      all_goals (
        right
        simp only [A.ren, A.c.injEq, C.int.injEq, true_and]
        rw [wrap_in (by simp; omega) (by simp; omega)]
        simp)
    · refine ⟨Or.inr rfl, Or.inr ?_, trivial⟩
      have hs1 : clipTo xs l r a b (i + 1) = w := by
        have h5 : isAt xs l r a b i = false := h4
        rw [hstep, h5]; simp
      rw [hs1]
      rfl
  · have hge : i = xs.length := by
      have : ¬ i < xs.length := by simpa using h3
      omega
    subst hge
    rw [hyy, hw, hee]
    exact ⟨rfl, rfl⟩
theorem d17 {xs : List (List C)} (hl : xs.length ≤ 9223372036854775807) (l r a b : Int) : PC2 17 [kL, kI] [lC xs, rc l r a b] := pc2_of h17 (by kernel_rfl) (u17 xs l r a b) (x17 hl rfl rfl)
theorem h4 : fnR Try.prog DD 4 = some rf4 := by kernel_rfl
theorem sameFrom_self (xs : List (List C)) : ∀ k i, xs.length - i = k → sameFrom xs xs i = true := by
  intro k
  induction k with
  | zero => intro i h; exact sameFrom_ge (by omega)
  | succ k ih =>
    intro i h
    rw [sameFrom_lt (by omega), show rowEq xs xs i = true by simp [rowEq], if_pos rfl]
    exact ih (i + 1) (by omega)
theorem sameL_self (xs : List (List C)) : sameL xs xs = true := by rw [sameL, if_pos rfl]; exact sameFrom_self xs _ 0 rfl
theorem clipL_len (xs : List (List C)) (l r a b : Int) : (clipL xs l r a b).length ≤ xs.length := by
  unfold clipL
  split
  · exact clipTo_len xs l r a b _
  · simp
theorem x4 {xs : List (List C)} {l r a b : Int} (hl : xs.length ≤ 9223372036854775807) (c11 : PC2 11 [kB] []) : WP2 rf4 [kB] [.bool true] [lC xs, rc l r a b] := by
  refine ⟨?_⟩
  generalize hE : stdE Try.prog tb2 = E
  generalize hP : Try.prog = P
  cbv
  subst hP; subst hE
  simp only [Imp_self, true_and, stdE, baseE, Imp_iff, Br_iff]
  simp only [d16 hl, d17 hl, c11, true_and, imp_self, implies_true]
  simp only [u16, u17, u11, List.getD_cons_zero, List.getD_cons_succ, gl_sl, gi_int, gb_bool]
  have e18 : PC2 18 [kB] [lC (clipL xs l r a b), lC (clipL xs l r a b)] := d18 (Nat.le_trans (clipL_len xs l r a b) hl)
  simp only [e18, true_and, implies_true]
  simp only [u18, sameL_self, List.getD_cons_zero, gb_bool]
  simp
--MORE
end Go.Proofs.Ytjckgkhojjnkdaa
