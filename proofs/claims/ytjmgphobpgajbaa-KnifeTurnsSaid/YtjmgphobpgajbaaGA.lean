/- Knives: the walks of the patterns' functions. No conditions. -/
import Derived.Test.YtjmgphobpgajbaaProg
import Derived.Test.YtjmgphobpgajbaaMod
import Derived.KernelRfl
set_option linter.unusedVariables false
set_option linter.unusedSimpArgs false
namespace Go.Proofs.Ytjmgphobpgajbaa.V
open Go Go.Eng
set_option maxRecDepth 1000000
set_option maxHeartbeats 4000000
def ms : List FuncId := [25,31,32,40,46,47,48,49,50,51,53,54,62,64,65,66,69,72]
def DD : Opts := ⟨ms, false, false, false⟩
def DI : Opts := ⟨ms, false, true, false⟩
def DX : Opts := ⟨ms, false, false, true⟩
theorem mo : Try.prog.follows .mixedOrders = true := by kernel_rfl
/-- A copy of a part of an array of the call's own. -/
def spCloneK (xs : List (List C)) (off len : Int) (K : List (List C) → Prop) : Prop := 0 ≤ off ∧ 0 ≤ len ∧ off + len ≤ xs.length ∧ len ≤ 1000000 ∧ K ((xs.take (off + len).toNat).drop off.toNat)
def CloneK (T : TypeId) (lay : List LK) (P : Program) (f : FuncId) : Prop :=
  hasBody P f = true ∧ ∀ (T' : TypeId) (xs : List (List C)) (off len : Int) (K : List (List C) → Prop), spCloneK xs off len K → ACalls P f [.own 0 off len] [.arr T' lay xs] fun r H' => ∃ d, K d ∧ r = .gr 1 ∧ H' = [.arr T' lay xs, .arr T lay d]
theorem CloneO.k {T : TypeId} {lay : List LK} {P : Program} {f : FuncId} (h : CloneO T lay P f) : CloneK T lay P f :=
  ⟨h.1, fun T' xs off len K ⟨h0, h1, h2, h3, hk⟩ => (h.2 T' xs off len True ⟨h0, h1, h2, h3, trivial⟩).mono fun r H' ⟨_, e1, e2⟩ => ⟨_, hk, e1, e2⟩⟩
def CloneCO (T : TypeId) (lay : List LK) (P : Program) (f : FuncId) : Prop := CloneC T lay P f ∧ CloneK T lay P f
/-! ### The list of patterns -/
structure LsOk (m : Nat) (size kn left most : Int) (cs : List (List C)) (t k : Int) (ss pre : List Int) (out : List (List Int)) : Prop where
  hs : size = pre.length
  hl : pre.length ≤ ss.length
  hm : ss.length - pre.length < m
  hc : cs = rowsI (pre ++ List.replicate (ss.length - pre.length) 0)
  h8 : ss.length ≤ 8
  kn0 : 0 ≤ kn
  kn2 : kn ≤ 12
  l0 : 0 ≤ left
  l2 : left ≤ 12000
  sz : ∀ s ∈ ss, 1 ≤ s ∧ s ≤ 12000
  ol : out.length ≤ 1100
  m0 : 0 ≤ most
  m2 : most ≤ 1100
def lsHeap (xs : List (List C)) (most : Int) (cs : List (List C)) (w e t k : Int) (sz : List (List C)) : List O :=
  [.box 26 [.gr 1], .arr 22 [.sl [.int .i64]] xs, .box 3 [iC most], .box 22 [.gr 4], .arr 3 [.int .i64] cs, .box 24 [iC w, iC e, iC t, iC k, .c (.sl [.int .i64] sz)], .box 94 [.fn 69 [.ptr 0 0, .ptr 2 0, .ptr 3 0, .ptr 5 0, .ptr 6 0]]]
def spLs (m : Nat) (size kn left : Int) (xs : List (List C)) (most : Int) (cs : List (List C)) (w e t k : Int) (sz : List (List C)) (K : List (List C) → List (List C) → Prop) : Prop :=
  ∃ ss pre out, sz = rowsI ss ∧ xs = rowL out ∧ LsOk m size kn left most cs t k ss pre out ∧ K (rowL (enu t k most.toNat (ss.drop pre.length) pre kn left out)) cs
def spLn (m : Nat) (size kn left : Int) (most : Int) (cs : List (List C)) (w e t k : Int) (sz : List (List C)) (K : List (List C) → List (List C) → Prop) : Prop :=
  ∃ ss pre, sz = rowsI ss ∧ LsOk m size kn left most cs t k ss pre [] ∧ K (rowL (enu t k most.toNat (ss.drop pre.length) pre kn left [])) cs
def ListC (m : Nat) (P : Program) (f : FuncId) : Prop := hasBody P f = true ∧
  (∀ (size kn left : Int) (xs : List (List C)) (most : Int) (cs : List (List C)) (w e t k : Int) (sz : List (List C)) (K : List (List C) → List (List C) → Prop), spLs m size kn left xs most cs w e t k sz K →
    ACalls P f [iC size, iC kn, iC left, .ptr 0 0, .ptr 2 0, .ptr 3 0, .ptr 5 0, .ptr 6 0]
      [.box 26 [.gr 1], .arr 22 [.sl [.int .i64]] xs, .box 3 [iC most], .box 22 [.gr 4], .arr 3 [.int .i64] cs, .box 24 [iC w, iC e, iC t, iC k, .c (.sl [.int .i64] sz)], .box 94 [.fn 69 [.ptr 0 0, .ptr 2 0, .ptr 3 0, .ptr 5 0, .ptr 6 0]]]
      fun r H' => ∃ a b, K a b ∧ r = .tup [] ∧ H' = [.box 26 [.gr 7], .dead, .box 3 [iC most], .box 22 [.gr 4], .arr 3 [.int .i64] b, .box 24 [iC w, iC e, iC t, iC k, .c (.sl [.int .i64] sz)], .box 94 [.fn 69 [.ptr 0 0, .ptr 2 0, .ptr 3 0, .ptr 5 0, .ptr 6 0]], .arr 22 [.sl [.int .i64]] a]) ∧
  (∀ (size kn left : Int) (most : Int) (cs : List (List C)) (w e t k : Int) (sz : List (List C)) (K : List (List C) → List (List C) → Prop), spLn m size kn left most cs w e t k sz K →
    ACalls P f [iC size, iC kn, iC left, .ptr 0 0, .ptr 1 0, .ptr 2 0, .ptr 4 0, .ptr 5 0]
      [.box 26 [.c .nil], .box 3 [iC most], .box 22 [.gr 3], .arr 3 [.int .i64] cs, .box 24 [iC w, iC e, iC t, iC k, .c (.sl [.int .i64] sz)], .box 94 [.fn 69 [.ptr 0 0, .ptr 1 0, .ptr 2 0, .ptr 4 0, .ptr 5 0]]]
      fun r H' => ∃ a b, K a b ∧ r = .tup [] ∧ H' = [.box 26 [.gr 6], .box 3 [iC most], .box 22 [.gr 3], .arr 3 [.int .i64] b, .box 24 [iC w, iC e, iC t, iC k, .c (.sl [.int .i64] sz)], .box 94 [.fn 69 [.ptr 0 0, .ptr 1 0, .ptr 2 0, .ptr 4 0, .ptr 5 0]], .arr 22 [.sl [.int .i64]] a])
/-- papermill pattern.usable -/
def rf68 : RFn := ⟨(.seq (.ops 1 [⟨(some 1), (.v (.box 0 24 (.t 0))), none, []⟩, ⟨(some 2), (.v (.mv (.k (.c (.int .i64 0))))), none, []⟩]) (.seq (.ops 0 [⟨(some 3), (.v (.fa 0 (.t 1))), none, []⟩, ⟨(some 4), (.v (.ld (.t 3))), none, []⟩, ⟨(some 5), (.v (.fa 1 (.t 1))), none, []⟩, ⟨(some 6), (.v (.ld (.t 5))), none, []⟩, ⟨(some 7), (.v (.bin .mul (.k (.c (.int .i64 2))) (.t 6))), none, []⟩, ⟨(some 8), (.v (.bin .sub (.t 4) (.t 7))), none, []⟩, ⟨(some 2), (.v (.mv (.t 8))), none, []⟩]) .ret)), 9, [(.t 2)]⟩
theorem h68 : fnR Try.prog DD 68 = some rf68 := by kernel_rfl
/-- papermill papermillref38.usable -/
def rf38 : RFn := ⟨(.seq (.ops 1 [⟨(some 1), (.v (.box 0 24 (.t 0))), none, []⟩, ⟨(some 2), (.v (.mv (.k (.c (.int .i64 0))))), none, []⟩]) (.seq (.ops 0 [⟨(some 3), (.v (.fa 0 (.t 1))), none, []⟩, ⟨(some 4), (.v (.ld (.t 3))), none, []⟩, ⟨(some 5), (.v (.fa 1 (.t 1))), none, []⟩, ⟨(some 6), (.v (.ld (.t 5))), none, []⟩, ⟨(some 7), (.v (.bin .mul (.k (.c (.int .i64 2))) (.t 6))), none, []⟩, ⟨(some 8), (.v (.bin .sub (.t 4) (.t 7))), none, []⟩, ⟨(some 2), (.v (.mv (.t 8))), none, []⟩]) .ret)), 9, [(.t 2)]⟩
theorem h38 : fnR Try.prog DD 38 = some rf38 := by kernel_rfl
/-- papermill pattern.ranges -/
def rf57 : RFn := ⟨(.seq (.ops 1 [⟨(some 1), (.v (.box 0 24 (.t 0))), none, []⟩, ⟨(some 2), (.v (.mv (.k (.c (.int .i64 0))))), none, []⟩]) (.seq (.seq (.ops 0 [⟨(some 6), (.v (.fa 0 (.t 1))), none, []⟩, ⟨(some 7), (.v (.ld (.t 6))), none, []⟩, ⟨(some 8), (.v (.bin .lss (.t 7) (.k (.c (.int .i64 1))))), none, []⟩, ⟨(some 9), (.v (.mv (.t 8))), none, []⟩, ⟨(some 10), (.v (.fa 0 (.t 1))), (some ⟨9, false⟩), [(.t 1)]⟩, ⟨(some 11), (.v (.ld (.t 10))), (some ⟨9, false⟩), [(.t 10)]⟩, ⟨(some 12), (.v (.bin .gtr (.t 11) (.k (.c (.int .i64 12000))))), (some ⟨9, false⟩), [(.t 11), (.k (.c (.int .i64 12000)))]⟩, ⟨(some 13), (.v (.pick (.t 9) (.k (.c (.bool true))) (.t 12))), none, []⟩, ⟨(some 14), (.v (.mv (.t 13))), none, []⟩, ⟨(some 15), (.v (.fa 1 (.t 1))), (some ⟨14, false⟩), [(.t 1)]⟩, ⟨(some 16), (.v (.ld (.t 15))), (some ⟨14, false⟩), [(.t 15)]⟩, ⟨(some 17), (.v (.bin .lss (.t 16) (.k (.c (.int .i64 0))))), (some ⟨14, false⟩), [(.t 16), (.k (.c (.int .i64 0)))]⟩, ⟨(some 18), (.v (.pick (.t 14) (.k (.c (.bool true))) (.t 17))), none, []⟩, ⟨(some 19), (.v (.mv (.t 18))), none, []⟩, ⟨(some 20), (.v (.fa 1 (.t 1))), (some ⟨19, false⟩), [(.t 1)]⟩, ⟨(some 21), (.v (.ld (.t 20))), (some ⟨19, false⟩), [(.t 20)]⟩, ⟨(some 22), (.v (.fa 0 (.t 1))), (some ⟨19, false⟩), [(.t 1)]⟩, ⟨(some 23), (.v (.ld (.t 22))), (some ⟨19, false⟩), [(.t 22)]⟩, ⟨(some 24), (.v (.bin .sub (.t 23) (.k (.c (.int .i64 1))))), (some ⟨19, false⟩), [(.t 23), (.k (.c (.int .i64 1)))]⟩, ⟨(some 25), (.v (.bin .quo (.t 24) (.k (.c (.int .i64 2))))), (some ⟨19, false⟩), [(.t 24), (.k (.c (.int .i64 2)))]⟩, ⟨(some 26), (.v (.bin .gtr (.t 21) (.t 25))), (some ⟨19, false⟩), [(.t 21), (.t 25)]⟩, ⟨(some 27), (.v (.pick (.t 19) (.k (.c (.bool true))) (.t 26))), none, []⟩, ⟨(some 28), (.v (.mv (.t 27))), none, []⟩, ⟨(some 29), (.v (.fa 2 (.t 1))), (some ⟨28, false⟩), [(.t 1)]⟩, ⟨(some 30), (.v (.ld (.t 29))), (some ⟨28, false⟩), [(.t 29)]⟩, ⟨(some 31), (.v (.bin .lss (.t 30) (.k (.c (.int .i64 0))))), (some ⟨28, false⟩), [(.t 30), (.k (.c (.int .i64 0)))]⟩, ⟨(some 32), (.v (.pick (.t 28) (.k (.c (.bool true))) (.t 31))), none, []⟩, ⟨(some 33), (.v (.mv (.t 32))), none, []⟩, ⟨(some 34), (.v (.fa 2 (.t 1))), (some ⟨33, false⟩), [(.t 1)]⟩, ⟨(some 35), (.v (.ld (.t 34))), (some ⟨33, false⟩), [(.t 34)]⟩, ⟨(some 36), (.v (.fa 0 (.t 1))), (some ⟨33, false⟩), [(.t 1)]⟩, ⟨(some 37), (.v (.ld (.t 36))), (some ⟨33, false⟩), [(.t 36)]⟩, ⟨(some 38), (.v (.bin .gtr (.t 35) (.t 37))), (some ⟨33, false⟩), [(.t 35), (.t 37)]⟩, ⟨(some 39), (.v (.pick (.t 33) (.k (.c (.bool true))) (.t 38))), none, []⟩, ⟨(some 40), (.v (.mv (.t 39))), none, []⟩, ⟨(some 41), (.v (.fa 3 (.t 1))), (some ⟨40, false⟩), [(.t 1)]⟩, ⟨(some 42), (.v (.ld (.t 41))), (some ⟨40, false⟩), [(.t 41)]⟩, ⟨(some 43), (.v (.bin .lss (.t 42) (.k (.c (.int .i64 1))))), (some ⟨40, false⟩), [(.t 42), (.k (.c (.int .i64 1)))]⟩, ⟨(some 44), (.v (.pick (.t 40) (.k (.c (.bool true))) (.t 43))), none, []⟩, ⟨(some 45), (.v (.mv (.t 44))), none, []⟩, ⟨(some 46), (.v (.fa 3 (.t 1))), (some ⟨45, false⟩), [(.t 1)]⟩, ⟨(some 47), (.v (.ld (.t 46))), (some ⟨45, false⟩), [(.t 46)]⟩, ⟨(some 48), (.v (.bin .gtr (.t 47) (.k (.c (.int .i64 12))))), (some ⟨45, false⟩), [(.t 47), (.k (.c (.int .i64 12)))]⟩, ⟨(some 49), (.v (.pick (.t 45) (.k (.c (.bool true))) (.t 48))), none, []⟩]) (.cond (.t 49) (.seq (.ops 0 [⟨(some 2), (.v (.mv (.k (.c (.int .i64 1))))), none, []⟩]) .ret) .skip)) (.seq (.seq (.ops 0 [⟨(some 50), (.v (.fa 4 (.t 1))), none, []⟩, ⟨(some 51), (.v (.ld (.t 50))), none, []⟩, ⟨(some 52), (.v (.lenS (.t 51))), none, []⟩, ⟨(some 53), (.v (.bin .eql (.t 52) (.k (.c (.int .i64 0))))), none, []⟩]) (.cond (.t 53) (.seq (.ops 0 [⟨(some 2), (.v (.mv (.k (.c (.int .i64 10))))), none, []⟩]) .ret) .skip)) (.seq (.seq (.ops 0 [⟨(some 54), (.v (.fa 4 (.t 1))), none, []⟩, ⟨(some 55), (.v (.ld (.t 54))), none, []⟩, ⟨(some 56), (.v (.lenS (.t 55))), none, []⟩, ⟨(some 57), (.v (.bin .gtr (.t 56) (.k (.c (.int .i64 8))))), none, []⟩]) (.cond (.t 57) (.seq (.ops 0 [⟨(some 2), (.v (.mv (.k (.c (.int .i64 8))))), none, []⟩]) .ret) .skip)) (.seq (.seq (.ops 0 [⟨(some 58), (.v (.fa 4 (.t 1))), none, []⟩, ⟨(some 59), (.v (.ld (.t 58))), none, []⟩, ⟨(some 60), (.v (.lenS (.t 59))), none, []⟩, ⟨(some 61), (.v (.mv (.k (.c (.int .i64 0))))), none, []⟩]) (.block 0 (.loop (.seq (.ops 0 [⟨(some 62), (.v (.bin .lss (.t 61) (.t 60))), none, []⟩]) (.seq (.cond (.t 62) .skip (.exit 0)) (.seq (.block 1 (.seq (.ops 0 [⟨(some 63), (.v (.ia 1 (.t 59) (.t 61))), none, []⟩, ⟨(some 64), (.v (.ld (.t 63))), none, []⟩, ⟨(some 4), (.v (.mv (.t 64))), none, []⟩]) (.seq (.ops 0 [⟨(some 65), (.v (.mv (.t 4))), none, []⟩, ⟨(some 66), (.v (.bin .lss (.t 65) (.k (.c (.int .i64 1))))), none, []⟩, ⟨(some 67), (.v (.mv (.t 66))), none, []⟩, ⟨(some 68), (.v (.mv (.t 4))), (some ⟨67, false⟩), [(.t 4)]⟩, ⟨(some 69), (.v (.lda 5 (.t 1))), (some ⟨67, false⟩), [(.t 1)]⟩, ⟨(some 70), (.v (.det 68 [⟨false, [(.int .i64)]⟩] [(.t 69)])), (some ⟨67, false⟩), [(.k (.fn 68 [])), (.t 69)]⟩, ⟨(some 71), (.v (.bin .gtr (.t 68) (.t 70))), (some ⟨67, false⟩), [(.t 68), (.t 70)]⟩, ⟨(some 72), (.v (.pick (.t 67) (.k (.c (.bool true))) (.t 71))), none, []⟩]) (.cond (.t 72) (.seq (.ops 0 [⟨(some 2), (.v (.mv (.k (.c (.int .i64 20))))), none, []⟩]) .ret) .skip)))) (.ops 0 [⟨(some 73), (.v (.bin .add (.t 61) (.k (.c (.int .i64 1))))), none, []⟩, ⟨(some 61), (.v (.mv (.t 73))), none, []⟩]))))))) (.seq (.seq (.ops 0 [⟨(some 5), (.v (.mv (.k (.c (.int .i64 1))))), none, []⟩]) (.block 2 (.loop (.seq (.seq (.ops 0 [⟨(some 74), (.v (.mv (.t 5))), none, []⟩, ⟨(some 75), (.v (.fa 4 (.t 1))), none, []⟩, ⟨(some 76), (.v (.ld (.t 75))), none, []⟩, ⟨(some 77), (.v (.lenS (.t 76))), none, []⟩, ⟨(some 78), (.v (.bin .lss (.t 74) (.t 77))), none, []⟩]) (.cond (.t 78) .skip (.exit 2))) (.seq (.block 3 (.seq (.any 0 [⟨0, ⟨[], ⟨(some 81), (.v (.fa 4 (.t 1))), none, []⟩⟩⟩, ⟨1, ⟨[0], ⟨(some 82), (.v (.ld (.t 81))), none, []⟩⟩⟩, ⟨2, ⟨[], ⟨(some 83), (.v (.mv (.t 5))), none, []⟩⟩⟩, ⟨3, ⟨[1, 0, 2], ⟨(some 84), (.v (.ia 1 (.t 82) (.t 83))), none, []⟩⟩⟩, ⟨4, ⟨[3, 1, 0, 2], ⟨(some 85), (.v (.ld (.t 84))), none, []⟩⟩⟩, ⟨5, ⟨[], ⟨(some 86), (.v (.fa 4 (.t 1))), none, []⟩⟩⟩, ⟨6, ⟨[5], ⟨(some 87), (.v (.ld (.t 86))), none, []⟩⟩⟩, ⟨7, ⟨[], ⟨(some 88), (.v (.mv (.t 5))), none, []⟩⟩⟩, ⟨8, ⟨[7], ⟨(some 89), (.v (.bin .sub (.t 88) (.k (.c (.int .i64 1))))), none, []⟩⟩⟩, ⟨9, ⟨[6, 5, 8, 7], ⟨(some 90), (.v (.ia 1 (.t 87) (.t 89))), none, []⟩⟩⟩, ⟨10, ⟨[9, 6, 5, 8, 7], ⟨(some 91), (.v (.ld (.t 90))), none, []⟩⟩⟩, ⟨11, ⟨[4, 3, 1, 0, 2, 10, 9, 6, 5, 8, 7], ⟨(some 92), (.v (.bin .geq (.t 85) (.t 91))), none, []⟩⟩⟩]) (.cond (.t 92) (.seq (.ops 0 [⟨(some 2), (.v (.mv (.k (.c (.int .i64 9))))), none, []⟩]) .ret) .skip))) (.ops 0 [⟨(some 79), (.v (.mv (.t 5))), none, []⟩, ⟨(some 80), (.v (.bin .add (.t 79) (.k (.c (.int .i64 1))))), none, []⟩, ⟨(some 5), (.v (.mv (.t 80))), none, []⟩])))))) (.seq (.ops 0 [⟨(some 2), (.v (.mv (.k (.c (.int .i64 0))))), none, []⟩]) .ret))))))), 93, [(.t 2)]⟩
theorem h57 : fnR Try.prog DD 57 = some rf57 := by kernel_rfl
/-- papermill papermillref38.right -/
def rf59 : RFn := ⟨(.seq (.ops 1 [⟨(some 1), (.v (.box 0 24 (.t 0))), none, []⟩, ⟨(some 2), (.v (.mv (.k (.c (.int .i64 0))))), none, []⟩]) (.seq (.seq (.ops 0 [⟨(some 5), (.v (.fa 0 (.t 1))), none, []⟩, ⟨(some 6), (.v (.ld (.t 5))), none, []⟩, ⟨(some 7), (.v (.bin .lss (.t 6) (.k (.c (.int .i64 1))))), none, []⟩, ⟨(some 8), (.v (.mv (.t 7))), none, []⟩, ⟨(some 9), (.v (.fa 0 (.t 1))), (some ⟨8, false⟩), [(.t 1)]⟩, ⟨(some 10), (.v (.ld (.t 9))), (some ⟨8, false⟩), [(.t 9)]⟩, ⟨(some 11), (.v (.bin .gtr (.t 10) (.k (.c (.int .i64 12000))))), (some ⟨8, false⟩), [(.t 10), (.k (.c (.int .i64 12000)))]⟩, ⟨(some 12), (.v (.pick (.t 8) (.k (.c (.bool true))) (.t 11))), none, []⟩, ⟨(some 13), (.v (.mv (.t 12))), none, []⟩, ⟨(some 14), (.v (.fa 1 (.t 1))), (some ⟨13, false⟩), [(.t 1)]⟩, ⟨(some 15), (.v (.ld (.t 14))), (some ⟨13, false⟩), [(.t 14)]⟩, ⟨(some 16), (.v (.bin .lss (.t 15) (.k (.c (.int .i64 0))))), (some ⟨13, false⟩), [(.t 15), (.k (.c (.int .i64 0)))]⟩, ⟨(some 17), (.v (.pick (.t 13) (.k (.c (.bool true))) (.t 16))), none, []⟩, ⟨(some 18), (.v (.mv (.t 17))), none, []⟩, ⟨(some 19), (.v (.fa 1 (.t 1))), (some ⟨18, false⟩), [(.t 1)]⟩, ⟨(some 20), (.v (.ld (.t 19))), (some ⟨18, false⟩), [(.t 19)]⟩, ⟨(some 21), (.v (.fa 0 (.t 1))), (some ⟨18, false⟩), [(.t 1)]⟩, ⟨(some 22), (.v (.ld (.t 21))), (some ⟨18, false⟩), [(.t 21)]⟩, ⟨(some 23), (.v (.bin .sub (.t 22) (.k (.c (.int .i64 1))))), (some ⟨18, false⟩), [(.t 22), (.k (.c (.int .i64 1)))]⟩, ⟨(some 24), (.v (.bin .quo (.t 23) (.k (.c (.int .i64 2))))), (some ⟨18, false⟩), [(.t 23), (.k (.c (.int .i64 2)))]⟩, ⟨(some 25), (.v (.bin .gtr (.t 20) (.t 24))), (some ⟨18, false⟩), [(.t 20), (.t 24)]⟩, ⟨(some 26), (.v (.pick (.t 18) (.k (.c (.bool true))) (.t 25))), none, []⟩, ⟨(some 27), (.v (.mv (.t 26))), none, []⟩, ⟨(some 28), (.v (.fa 2 (.t 1))), (some ⟨27, false⟩), [(.t 1)]⟩, ⟨(some 29), (.v (.ld (.t 28))), (some ⟨27, false⟩), [(.t 28)]⟩, ⟨(some 30), (.v (.bin .lss (.t 29) (.k (.c (.int .i64 0))))), (some ⟨27, false⟩), [(.t 29), (.k (.c (.int .i64 0)))]⟩, ⟨(some 31), (.v (.pick (.t 27) (.k (.c (.bool true))) (.t 30))), none, []⟩, ⟨(some 32), (.v (.mv (.t 31))), none, []⟩, ⟨(some 33), (.v (.fa 2 (.t 1))), (some ⟨32, false⟩), [(.t 1)]⟩, ⟨(some 34), (.v (.ld (.t 33))), (some ⟨32, false⟩), [(.t 33)]⟩, ⟨(some 35), (.v (.fa 0 (.t 1))), (some ⟨32, false⟩), [(.t 1)]⟩, ⟨(some 36), (.v (.ld (.t 35))), (some ⟨32, false⟩), [(.t 35)]⟩, ⟨(some 37), (.v (.bin .gtr (.t 34) (.t 36))), (some ⟨32, false⟩), [(.t 34), (.t 36)]⟩, ⟨(some 38), (.v (.pick (.t 32) (.k (.c (.bool true))) (.t 37))), none, []⟩, ⟨(some 39), (.v (.mv (.t 38))), none, []⟩, ⟨(some 40), (.v (.fa 3 (.t 1))), (some ⟨39, false⟩), [(.t 1)]⟩, ⟨(some 41), (.v (.ld (.t 40))), (some ⟨39, false⟩), [(.t 40)]⟩, ⟨(some 42), (.v (.bin .lss (.t 41) (.k (.c (.int .i64 1))))), (some ⟨39, false⟩), [(.t 41), (.k (.c (.int .i64 1)))]⟩, ⟨(some 43), (.v (.pick (.t 39) (.k (.c (.bool true))) (.t 42))), none, []⟩, ⟨(some 44), (.v (.mv (.t 43))), none, []⟩, ⟨(some 45), (.v (.fa 3 (.t 1))), (some ⟨44, false⟩), [(.t 1)]⟩, ⟨(some 46), (.v (.ld (.t 45))), (some ⟨44, false⟩), [(.t 45)]⟩, ⟨(some 47), (.v (.bin .gtr (.t 46) (.k (.c (.int .i64 12))))), (some ⟨44, false⟩), [(.t 46), (.k (.c (.int .i64 12)))]⟩, ⟨(some 48), (.v (.pick (.t 44) (.k (.c (.bool true))) (.t 47))), none, []⟩]) (.cond (.t 48) (.seq (.ops 0 [⟨(some 2), (.v (.mv (.k (.c (.int .i64 1))))), none, []⟩]) .ret) .skip)) (.seq (.seq (.ops 0 [⟨(some 49), (.v (.fa 4 (.t 1))), none, []⟩, ⟨(some 50), (.v (.ld (.t 49))), none, []⟩, ⟨(some 51), (.v (.lenS (.t 50))), none, []⟩, ⟨(some 52), (.v (.bin .eql (.t 51) (.k (.c (.int .i64 0))))), none, []⟩]) (.cond (.t 52) (.seq (.ops 0 [⟨(some 2), (.v (.mv (.k (.c (.int .i64 10))))), none, []⟩]) .ret) .skip)) (.seq (.seq (.ops 0 [⟨(some 53), (.v (.fa 4 (.t 1))), none, []⟩, ⟨(some 54), (.v (.ld (.t 53))), none, []⟩, ⟨(some 55), (.v (.lenS (.t 54))), none, []⟩, ⟨(some 56), (.v (.bin .gtr (.t 55) (.k (.c (.int .i64 8))))), none, []⟩]) (.cond (.t 56) (.seq (.ops 0 [⟨(some 2), (.v (.mv (.k (.c (.int .i64 8))))), none, []⟩]) .ret) .skip)) (.seq (.seq (.ops 0 [⟨(some 3), (.v (.mv (.k (.c (.int .i64 0))))), none, []⟩]) (.block 0 (.loop (.seq (.seq (.ops 0 [⟨(some 57), (.v (.mv (.t 3))), none, []⟩, ⟨(some 58), (.v (.fa 4 (.t 1))), none, []⟩, ⟨(some 59), (.v (.ld (.t 58))), none, []⟩, ⟨(some 60), (.v (.lenS (.t 59))), none, []⟩, ⟨(some 61), (.v (.bin .lss (.t 57) (.t 60))), none, []⟩]) (.cond (.t 61) .skip (.exit 0))) (.seq (.block 1 (.seq (.any 0 [⟨0, ⟨[], ⟨(some 64), (.v (.fa 4 (.t 1))), none, []⟩⟩⟩, ⟨1, ⟨[0], ⟨(some 65), (.v (.ld (.t 64))), none, []⟩⟩⟩, ⟨2, ⟨[], ⟨(some 66), (.v (.mv (.t 3))), none, []⟩⟩⟩, ⟨3, ⟨[1, 0, 2], ⟨(some 67), (.v (.ia 1 (.t 65) (.t 66))), none, []⟩⟩⟩, ⟨4, ⟨[3, 1, 0, 2], ⟨(some 68), (.v (.ld (.t 67))), none, []⟩⟩⟩, ⟨5, ⟨[4, 3, 1, 0, 2], ⟨(some 69), (.v (.bin .lss (.t 68) (.k (.c (.int .i64 1))))), none, []⟩⟩⟩, ⟨6, ⟨[5, 4, 3, 1, 0, 2], ⟨(some 70), (.v (.mv (.t 69))), none, []⟩⟩⟩, ⟨7, ⟨[6, 5, 4, 3, 1, 0, 2], ⟨(some 71), (.v (.fa 4 (.t 1))), (some ⟨70, false⟩), [(.t 1)]⟩⟩⟩, ⟨8, ⟨[7, 6, 5, 4, 3, 1, 0, 2], ⟨(some 72), (.v (.ld (.t 71))), (some ⟨70, false⟩), [(.t 71)]⟩⟩⟩, ⟨9, ⟨[6, 5, 4, 3, 1, 0, 2], ⟨(some 73), (.v (.mv (.t 3))), (some ⟨70, false⟩), [(.t 3)]⟩⟩⟩, ⟨10, ⟨[8, 7, 9, 6, 5, 4, 3, 1, 0, 2], ⟨(some 74), (.v (.ia 1 (.t 72) (.t 73))), (some ⟨70, false⟩), [(.t 72), (.t 73)]⟩⟩⟩, ⟨11, ⟨[10, 8, 7, 9, 6, 5, 4, 3, 1, 0, 2], ⟨(some 75), (.v (.ld (.t 74))), (some ⟨70, false⟩), [(.t 74)]⟩⟩⟩, ⟨12, ⟨[6, 5, 4, 3, 1, 0, 2], ⟨(some 76), (.v (.lda 5 (.t 1))), (some ⟨70, false⟩), [(.t 1)]⟩⟩⟩, ⟨13, ⟨[12, 6, 5, 4, 3, 1, 0, 2], ⟨(some 77), (.v (.det 38 [⟨false, [(.int .i64)]⟩] [(.t 76)])), (some ⟨70, false⟩), [(.k (.fn 38 [])), (.t 76)]⟩⟩⟩, ⟨14, ⟨[11, 10, 8, 7, 9, 13, 12, 6, 5, 4, 3, 1, 0, 2], ⟨(some 78), (.v (.bin .gtr (.t 75) (.t 77))), (some ⟨70, false⟩), [(.t 75), (.t 77)]⟩⟩⟩, ⟨15, ⟨[14, 11, 10, 8, 7, 9, 13, 12, 6, 5, 4, 3, 1, 0, 2], ⟨(some 79), (.v (.pick (.t 70) (.k (.c (.bool true))) (.t 78))), none, []⟩⟩⟩]) (.cond (.t 79) (.seq (.ops 0 [⟨(some 2), (.v (.mv (.k (.c (.int .i64 20))))), none, []⟩]) .ret) .skip))) (.ops 0 [⟨(some 62), (.v (.mv (.t 3))), none, []⟩, ⟨(some 63), (.v (.bin .add (.t 62) (.k (.c (.int .i64 1))))), none, []⟩, ⟨(some 3), (.v (.mv (.t 63))), none, []⟩])))))) (.seq (.seq (.ops 0 [⟨(some 4), (.v (.mv (.k (.c (.int .i64 1))))), none, []⟩]) (.block 2 (.loop (.seq (.seq (.ops 0 [⟨(some 80), (.v (.mv (.t 4))), none, []⟩, ⟨(some 81), (.v (.fa 4 (.t 1))), none, []⟩, ⟨(some 82), (.v (.ld (.t 81))), none, []⟩, ⟨(some 83), (.v (.lenS (.t 82))), none, []⟩, ⟨(some 84), (.v (.bin .lss (.t 80) (.t 83))), none, []⟩]) (.cond (.t 84) .skip (.exit 2))) (.seq (.block 3 (.seq (.any 0 [⟨0, ⟨[], ⟨(some 87), (.v (.fa 4 (.t 1))), none, []⟩⟩⟩, ⟨1, ⟨[0], ⟨(some 88), (.v (.ld (.t 87))), none, []⟩⟩⟩, ⟨2, ⟨[], ⟨(some 89), (.v (.mv (.t 4))), none, []⟩⟩⟩, ⟨3, ⟨[1, 0, 2], ⟨(some 90), (.v (.ia 1 (.t 88) (.t 89))), none, []⟩⟩⟩, ⟨4, ⟨[3, 1, 0, 2], ⟨(some 91), (.v (.ld (.t 90))), none, []⟩⟩⟩, ⟨5, ⟨[], ⟨(some 92), (.v (.fa 4 (.t 1))), none, []⟩⟩⟩, ⟨6, ⟨[5], ⟨(some 93), (.v (.ld (.t 92))), none, []⟩⟩⟩, ⟨7, ⟨[], ⟨(some 94), (.v (.mv (.t 4))), none, []⟩⟩⟩, ⟨8, ⟨[7], ⟨(some 95), (.v (.bin .sub (.t 94) (.k (.c (.int .i64 1))))), none, []⟩⟩⟩, ⟨9, ⟨[6, 5, 8, 7], ⟨(some 96), (.v (.ia 1 (.t 93) (.t 95))), none, []⟩⟩⟩, ⟨10, ⟨[9, 6, 5, 8, 7], ⟨(some 97), (.v (.ld (.t 96))), none, []⟩⟩⟩, ⟨11, ⟨[4, 3, 1, 0, 2, 10, 9, 6, 5, 8, 7], ⟨(some 98), (.v (.bin .geq (.t 91) (.t 97))), none, []⟩⟩⟩]) (.cond (.t 98) (.seq (.ops 0 [⟨(some 2), (.v (.mv (.k (.c (.int .i64 9))))), none, []⟩]) .ret) .skip))) (.ops 0 [⟨(some 85), (.v (.mv (.t 4))), none, []⟩, ⟨(some 86), (.v (.bin .add (.t 85) (.k (.c (.int .i64 1))))), none, []⟩, ⟨(some 4), (.v (.mv (.t 86))), none, []⟩])))))) (.seq (.ops 0 [⟨(some 2), (.v (.mv (.k (.c (.int .i64 0))))), none, []⟩]) .ret))))))), 99, [(.t 2)]⟩
theorem h59 : fnR Try.prog DD 59 = some rf59 := by kernel_rfl
/-- slices.Min[[]int,int] -/
def rf70 : RFn := ⟨(.seq (.ops 0 [⟨(some 2), (.v (.mv (.k (.c (.int .i64 0))))), none, []⟩]) (.seq (.seq (.ops 0 [⟨(some 5), (.v (.mv (.t 0))), none, []⟩, ⟨(some 6), (.v (.lenS (.t 5))), none, []⟩, ⟨(some 7), (.v (.bin .lss (.t 6) (.k (.c (.int .i64 1))))), none, []⟩]) (.cond (.t 7) (.ops 0 [⟨(some 8), (.v .bad), none, []⟩, ⟨none, (.v .bad), none, []⟩]) .skip)) (.seq (.ops 0 [⟨(some 9), (.v (.mv (.t 0))), none, []⟩, ⟨(some 10), (.v (.ia 1 (.t 9) (.k (.c (.int .i64 0))))), none, []⟩, ⟨(some 11), (.v (.ld (.t 10))), none, []⟩, ⟨(some 3), (.v (.mv (.t 11))), none, []⟩]) (.seq (.seq (.ops 0 [⟨(some 4), (.v (.mv (.k (.c (.int .i64 1))))), none, []⟩]) (.block 0 (.loop (.seq (.seq (.ops 0 [⟨(some 12), (.v (.mv (.t 4))), none, []⟩, ⟨(some 13), (.v (.mv (.t 0))), none, []⟩, ⟨(some 14), (.v (.lenS (.t 13))), none, []⟩, ⟨(some 15), (.v (.bin .lss (.t 12) (.t 14))), none, []⟩]) (.cond (.t 15) .skip (.exit 0))) (.seq (.block 1 (.ops 0 [⟨(some 18), (.v (.mv (.t 3))), none, []⟩, ⟨(some 19), (.v (.mv (.t 0))), none, []⟩, ⟨(some 20), (.v (.mv (.t 4))), none, []⟩, ⟨(some 21), (.v (.ia 1 (.t 19) (.t 20))), none, []⟩, ⟨(some 22), (.v (.ld (.t 21))), none, []⟩, ⟨(some 23), (.v (.min (.t 18) [(.t 22)])), none, []⟩, ⟨(some 3), (.v (.mv (.t 23))), none, []⟩])) (.ops 0 [⟨(some 16), (.v (.mv (.t 4))), none, []⟩, ⟨(some 17), (.v (.bin .add (.t 16) (.k (.c (.int .i64 1))))), none, []⟩, ⟨(some 4), (.v (.mv (.t 17))), none, []⟩])))))) (.seq (.ops 0 [⟨(some 24), (.v (.mv (.t 3))), none, []⟩, ⟨(some 2), (.v (.mv (.t 24))), none, []⟩]) .ret))))), 25, [(.t 2)]⟩
theorem h70 : fnR Try.prog DD 70 = some rf70 := by kernel_rfl
/-- slices.Max[[]int,int] -/
def rf71 : RFn := ⟨(.seq (.ops 0 [⟨(some 2), (.v (.mv (.k (.c (.int .i64 0))))), none, []⟩]) (.seq (.seq (.ops 0 [⟨(some 5), (.v (.mv (.t 0))), none, []⟩, ⟨(some 6), (.v (.lenS (.t 5))), none, []⟩, ⟨(some 7), (.v (.bin .lss (.t 6) (.k (.c (.int .i64 1))))), none, []⟩]) (.cond (.t 7) (.ops 0 [⟨(some 8), (.v .bad), none, []⟩, ⟨none, (.v .bad), none, []⟩]) .skip)) (.seq (.ops 0 [⟨(some 9), (.v (.mv (.t 0))), none, []⟩, ⟨(some 10), (.v (.ia 1 (.t 9) (.k (.c (.int .i64 0))))), none, []⟩, ⟨(some 11), (.v (.ld (.t 10))), none, []⟩, ⟨(some 3), (.v (.mv (.t 11))), none, []⟩]) (.seq (.seq (.ops 0 [⟨(some 4), (.v (.mv (.k (.c (.int .i64 1))))), none, []⟩]) (.block 0 (.loop (.seq (.seq (.ops 0 [⟨(some 12), (.v (.mv (.t 4))), none, []⟩, ⟨(some 13), (.v (.mv (.t 0))), none, []⟩, ⟨(some 14), (.v (.lenS (.t 13))), none, []⟩, ⟨(some 15), (.v (.bin .lss (.t 12) (.t 14))), none, []⟩]) (.cond (.t 15) .skip (.exit 0))) (.seq (.block 1 (.ops 0 [⟨(some 18), (.v (.mv (.t 3))), none, []⟩, ⟨(some 19), (.v (.mv (.t 0))), none, []⟩, ⟨(some 20), (.v (.mv (.t 4))), none, []⟩, ⟨(some 21), (.v (.ia 1 (.t 19) (.t 20))), none, []⟩, ⟨(some 22), (.v (.ld (.t 21))), none, []⟩, ⟨(some 23), (.v (.max (.t 18) [(.t 22)])), none, []⟩, ⟨(some 3), (.v (.mv (.t 23))), none, []⟩])) (.ops 0 [⟨(some 16), (.v (.mv (.t 4))), none, []⟩, ⟨(some 17), (.v (.bin .add (.t 16) (.k (.c (.int .i64 1))))), none, []⟩, ⟨(some 4), (.v (.mv (.t 17))), none, []⟩])))))) (.seq (.ops 0 [⟨(some 24), (.v (.mv (.t 3))), none, []⟩, ⟨(some 2), (.v (.mv (.t 24))), none, []⟩]) .ret))))), 25, [(.t 2)]⟩
theorem h71 : fnR Try.prog DD 71 = some rf71 := by kernel_rfl
/-- papermill pattern.room -/
def rf61 : RFn := ⟨(.seq (.ops 1 [⟨(some 2), (.v (.box 0 24 (.t 0))), none, []⟩, ⟨(some 4), (.v (.mv (.k (.c (.int .i64 0))))), none, []⟩, ⟨(some 5), (.v (.mv (.k (.c (.int .i64 0))))), none, []⟩, ⟨(some 6), (.v (.mv (.k (.c (.int .i64 0))))), none, []⟩]) (.seq (.seq (.ops 0 [⟨(some 11), (.v (.mv (.t 1))), none, []⟩, ⟨(some 12), (.v (.lenS (.t 11))), none, []⟩, ⟨(some 13), (.v (.fa 4 (.t 2))), none, []⟩, ⟨(some 14), (.v (.ld (.t 13))), none, []⟩, ⟨(some 15), (.v (.lenS (.t 14))), none, []⟩, ⟨(some 16), (.v (.bin .neq (.t 12) (.t 15))), none, []⟩]) (.cond (.t 16) (.seq (.ops 0 [⟨(some 4), (.v (.mv (.k (.c (.int .i64 0))))), none, []⟩, ⟨(some 5), (.v (.mv (.k (.c (.int .i64 0))))), none, []⟩, ⟨(some 6), (.v (.mv (.k (.c (.int .i64 3))))), none, []⟩]) .ret) .skip)) (.seq (.seq (.ops 0 [⟨(some 17), (.v (.mv (.t 1))), none, []⟩, ⟨(some 18), (.v (.det 70 [⟨false, [(.int .i64)]⟩] [(.t 17)])), none, []⟩, ⟨(some 19), (.v (.bin .lss (.t 18) (.k (.c (.int .i64 0))))), none, []⟩]) (.cond (.t 19) (.seq (.ops 0 [⟨(some 4), (.v (.mv (.k (.c (.int .i64 0))))), none, []⟩, ⟨(some 5), (.v (.mv (.k (.c (.int .i64 0))))), none, []⟩, ⟨(some 6), (.v (.mv (.k (.c (.int .i64 1))))), none, []⟩]) .ret) .skip)) (.seq (.seq (.ops 0 [⟨(some 20), (.v (.mv (.t 1))), none, []⟩, ⟨(some 21), (.v (.det 71 [⟨false, [(.int .i64)]⟩] [(.t 20)])), none, []⟩, ⟨(some 22), (.v (.bin .eql (.t 21) (.k (.c (.int .i64 0))))), none, []⟩]) (.cond (.t 22) (.seq (.ops 0 [⟨(some 4), (.v (.mv (.k (.c (.int .i64 0))))), none, []⟩, ⟨(some 5), (.v (.mv (.k (.c (.int .i64 0))))), none, []⟩, ⟨(some 6), (.v (.mv (.k (.c (.int .i64 10))))), none, []⟩]) .ret) .skip)) (.seq (.ops 0 [⟨(some 23), (.v (.lda 5 (.t 2))), none, []⟩, ⟨(some 24), (.v (.det 68 [⟨false, [(.int .i64)]⟩] [(.t 23)])), none, []⟩, ⟨(some 7), (.v (.mv (.k (.c (.int .i64 0))))), none, []⟩, ⟨(some 8), (.v (.mv (.t 24))), none, []⟩]) (.seq (.seq (.ops 0 [⟨(some 25), (.v (.mv (.t 1))), none, []⟩, ⟨(some 26), (.v (.lenS (.t 25))), none, []⟩, ⟨(some 27), (.v (.mv (.k (.c (.int .i64 0))))), none, []⟩]) (.block 0 (.loop (.seq (.ops 0 [⟨(some 28), (.v (.bin .lss (.t 27) (.t 26))), none, []⟩]) (.seq (.cond (.t 28) .skip (.exit 0)) (.seq (.block 1 (.seq (.ops 0 [⟨(some 29), (.v (.mv (.t 27))), none, []⟩, ⟨(some 30), (.v (.ia 1 (.t 25) (.t 27))), none, []⟩, ⟨(some 31), (.v (.ld (.t 30))), none, []⟩, ⟨(some 9), (.v (.mv (.t 29))), none, []⟩, ⟨(some 10), (.v (.mv (.t 31))), none, []⟩]) (.seq (.seq (.ops 0 [⟨(some 32), (.v (.mv (.t 10))), none, []⟩, ⟨(some 33), (.v (.fa 3 (.t 2))), none, []⟩, ⟨(some 34), (.v (.ld (.t 33))), none, []⟩, ⟨(some 35), (.v (.mv (.t 7))), none, []⟩, ⟨(some 36), (.v (.bin .sub (.t 34) (.t 35))), none, []⟩, ⟨(some 37), (.v (.bin .gtr (.t 32) (.t 36))), none, []⟩]) (.cond (.t 37) (.seq (.ops 0 [⟨(some 4), (.v (.mv (.k (.c (.int .i64 0))))), none, []⟩, ⟨(some 5), (.v (.mv (.k (.c (.int .i64 0))))), none, []⟩, ⟨(some 6), (.v (.mv (.k (.c (.int .i64 23))))), none, []⟩]) .ret) .skip)) (.seq (.ops 0 [⟨(some 38), (.v (.mv (.t 7))), none, []⟩, ⟨(some 39), (.v (.mv (.t 10))), none, []⟩, ⟨(some 40), (.v (.bin .add (.t 38) (.t 39))), none, []⟩, ⟨(some 7), (.v (.mv (.t 40))), none, []⟩]) (.ops 0 [⟨(some 41), (.v (.mv (.t 8))), none, []⟩, ⟨(some 42), (.v (.mv (.t 10))), none, []⟩, ⟨(some 43), (.v (.fa 4 (.t 2))), none, []⟩, ⟨(some 44), (.v (.ld (.t 43))), none, []⟩, ⟨(some 45), (.v (.mv (.t 9))), none, []⟩, ⟨(some 46), (.v (.ia 1 (.t 44) (.t 45))), none, []⟩, ⟨(some 47), (.v (.ld (.t 46))), none, []⟩, ⟨(some 48), (.v (.bin .mul (.t 42) (.t 47))), none, []⟩, ⟨(some 49), (.v (.bin .sub (.t 41) (.t 48))), none, []⟩, ⟨(some 8), (.v (.mv (.t 49))), none, []⟩]))))) (.ops 0 [⟨(some 50), (.v (.bin .add (.t 27) (.k (.c (.int .i64 1))))), none, []⟩, ⟨(some 27), (.v (.mv (.t 50))), none, []⟩]))))))) (.seq (.seq (.ops 0 [⟨(some 51), (.v (.mv (.t 8))), none, []⟩, ⟨(some 52), (.v (.bin .lss (.t 51) (.k (.c (.int .i64 0))))), none, []⟩]) (.cond (.t 52) (.seq (.ops 0 [⟨(some 4), (.v (.mv (.k (.c (.int .i64 0))))), none, []⟩, ⟨(some 5), (.v (.mv (.k (.c (.int .i64 0))))), none, []⟩, ⟨(some 6), (.v (.mv (.k (.c (.int .i64 20))))), none, []⟩]) .ret) .skip)) (.seq (.seq (.ops 0 [⟨(some 53), (.v (.mv (.t 8))), none, []⟩, ⟨(some 54), (.v (.fa 2 (.t 2))), none, []⟩, ⟨(some 55), (.v (.ld (.t 54))), none, []⟩, ⟨(some 56), (.v (.bin .gtr (.t 53) (.t 55))), none, []⟩]) (.cond (.t 56) (.seq (.ops 0 [⟨(some 4), (.v (.mv (.k (.c (.int .i64 0))))), none, []⟩, ⟨(some 5), (.v (.mv (.k (.c (.int .i64 0))))), none, []⟩, ⟨(some 6), (.v (.mv (.k (.c (.int .i64 24))))), none, []⟩]) .ret) .skip)) (.seq (.ops 0 [⟨(some 57), (.v (.mv (.t 7))), none, []⟩, ⟨(some 58), (.v (.mv (.t 8))), none, []⟩, ⟨(some 4), (.v (.mv (.t 57))), none, []⟩, ⟨(some 5), (.v (.mv (.t 58))), none, []⟩, ⟨(some 6), (.v (.mv (.k (.c (.int .i64 0))))), none, []⟩]) .ret))))))))), 59, [(.t 4), (.t 5), (.t 6)]⟩
theorem h61 : fnR Try.prog DD 61 = some rf61 := by kernel_rfl
/-- papermill papermillref38.fits -/
def rf44 : RFn := ⟨(.seq (.ops 1 [⟨(some 2), (.v (.box 0 24 (.t 0))), none, []⟩, ⟨(some 4), (.v (.mv (.k (.c (.int .i64 0))))), none, []⟩]) (.seq (.seq (.ops 0 [⟨(some 10), (.v (.mv (.t 1))), none, []⟩, ⟨(some 11), (.v (.lenS (.t 10))), none, []⟩, ⟨(some 12), (.v (.fa 4 (.t 2))), none, []⟩, ⟨(some 13), (.v (.ld (.t 12))), none, []⟩, ⟨(some 14), (.v (.lenS (.t 13))), none, []⟩, ⟨(some 15), (.v (.bin .neq (.t 11) (.t 14))), none, []⟩]) (.cond (.t 15) (.seq (.ops 0 [⟨(some 4), (.v (.mv (.k (.c (.int .i64 3))))), none, []⟩]) .ret) .skip)) (.seq (.seq (.ops 0 [⟨(some 5), (.v (.mv (.k (.c (.int .i64 0))))), none, []⟩]) (.block 0 (.loop (.seq (.seq (.ops 0 [⟨(some 16), (.v (.mv (.t 5))), none, []⟩, ⟨(some 17), (.v (.mv (.t 1))), none, []⟩, ⟨(some 18), (.v (.lenS (.t 17))), none, []⟩, ⟨(some 19), (.v (.bin .lss (.t 16) (.t 18))), none, []⟩]) (.cond (.t 19) .skip (.exit 0))) (.seq (.block 1 (.seq (.ops 0 [⟨(some 22), (.v (.mv (.t 1))), none, []⟩, ⟨(some 23), (.v (.mv (.t 5))), none, []⟩, ⟨(some 24), (.v (.ia 1 (.t 22) (.t 23))), none, []⟩, ⟨(some 25), (.v (.ld (.t 24))), none, []⟩, ⟨(some 26), (.v (.bin .lss (.t 25) (.k (.c (.int .i64 0))))), none, []⟩]) (.cond (.t 26) (.seq (.ops 0 [⟨(some 4), (.v (.mv (.k (.c (.int .i64 1))))), none, []⟩]) .ret) .skip))) (.ops 0 [⟨(some 20), (.v (.mv (.t 5))), none, []⟩, ⟨(some 21), (.v (.bin .add (.t 20) (.k (.c (.int .i64 1))))), none, []⟩, ⟨(some 5), (.v (.mv (.t 21))), none, []⟩])))))) (.seq (.ops 0 [⟨(some 6), (.v (.mv (.k (.c (.int .i64 0))))), none, []⟩, ⟨(some 7), (.v (.mv (.k (.c (.int .i64 0))))), none, []⟩]) (.seq (.seq (.ops 0 [⟨(some 8), (.v (.mv (.k (.c (.int .i64 0))))), none, []⟩]) (.block 2 (.loop (.seq (.seq (.ops 0 [⟨(some 27), (.v (.mv (.t 8))), none, []⟩, ⟨(some 28), (.v (.mv (.t 1))), none, []⟩, ⟨(some 29), (.v (.lenS (.t 28))), none, []⟩, ⟨(some 30), (.v (.bin .lss (.t 27) (.t 29))), none, []⟩]) (.cond (.t 30) .skip (.exit 2))) (.seq (.block 3 (.seq (.ops 0 [⟨(some 33), (.v (.mv (.t 1))), none, []⟩, ⟨(some 34), (.v (.mv (.t 8))), none, []⟩, ⟨(some 35), (.v (.ia 1 (.t 33) (.t 34))), none, []⟩, ⟨(some 36), (.v (.ld (.t 35))), none, []⟩, ⟨(some 37), (.v (.min (.t 36) [(.k (.c (.int .i64 12001)))])), none, []⟩, ⟨(some 9), (.v (.mv (.t 37))), none, []⟩]) (.any 0 [⟨0, ⟨[], ⟨(some 38), (.v (.mv (.t 6))), none, []⟩⟩⟩, ⟨1, ⟨[], ⟨(some 39), (.v (.mv (.t 9))), none, []⟩⟩⟩, ⟨2, ⟨[0, 1], ⟨(some 40), (.v (.bin .add (.t 38) (.t 39))), none, []⟩⟩⟩, ⟨3, ⟨[], ⟨(some 41), (.v (.mv (.t 7))), none, []⟩⟩⟩, ⟨4, ⟨[], ⟨(some 42), (.v (.mv (.t 9))), none, []⟩⟩⟩, ⟨5, ⟨[], ⟨(some 43), (.v (.fa 4 (.t 2))), none, []⟩⟩⟩, ⟨6, ⟨[5], ⟨(some 44), (.v (.ld (.t 43))), none, []⟩⟩⟩, ⟨7, ⟨[], ⟨(some 45), (.v (.mv (.t 8))), none, []⟩⟩⟩, ⟨8, ⟨[6, 5, 7], ⟨(some 46), (.v (.ia 1 (.t 44) (.t 45))), none, []⟩⟩⟩, ⟨9, ⟨[8, 6, 5, 7], ⟨(some 47), (.v (.ld (.t 46))), none, []⟩⟩⟩, ⟨10, ⟨[4, 9, 8, 6, 5, 7], ⟨(some 48), (.v (.bin .mul (.t 42) (.t 47))), none, []⟩⟩⟩, ⟨11, ⟨[3, 10, 4, 9, 8, 6, 5, 7], ⟨(some 49), (.v (.bin .add (.t 41) (.t 48))), none, []⟩⟩⟩, ⟨12, ⟨[2, 0, 1], ⟨(some 6), (.v (.mv (.t 40))), none, []⟩⟩⟩, ⟨13, ⟨[11, 3, 10, 4, 9, 8, 6, 5, 7, 12, 2, 0, 1], ⟨(some 7), (.v (.mv (.t 49))), none, []⟩⟩⟩]))) (.ops 0 [⟨(some 31), (.v (.mv (.t 8))), none, []⟩, ⟨(some 32), (.v (.bin .add (.t 31) (.k (.c (.int .i64 1))))), none, []⟩, ⟨(some 8), (.v (.mv (.t 32))), none, []⟩])))))) (.seq (.seq (.ops 0 [⟨(some 50), (.v (.mv (.t 6))), none, []⟩, ⟨(some 51), (.v (.bin .eql (.t 50) (.k (.c (.int .i64 0))))), none, []⟩]) (.cond (.t 51) (.seq (.ops 0 [⟨(some 4), (.v (.mv (.k (.c (.int .i64 10))))), none, []⟩]) .ret) .skip)) (.seq (.seq (.ops 0 [⟨(some 52), (.v (.mv (.t 6))), none, []⟩, ⟨(some 53), (.v (.fa 3 (.t 2))), none, []⟩, ⟨(some 54), (.v (.ld (.t 53))), none, []⟩, ⟨(some 55), (.v (.bin .gtr (.t 52) (.t 54))), none, []⟩]) (.cond (.t 55) (.seq (.ops 0 [⟨(some 4), (.v (.mv (.k (.c (.int .i64 23))))), none, []⟩]) .ret) .skip)) (.seq (.seq (.ops 0 [⟨(some 56), (.v (.mv (.t 7))), none, []⟩, ⟨(some 57), (.v (.lda 5 (.t 2))), none, []⟩, ⟨(some 58), (.v (.det 38 [⟨false, [(.int .i64)]⟩] [(.t 57)])), none, []⟩, ⟨(some 59), (.v (.bin .gtr (.t 56) (.t 58))), none, []⟩]) (.cond (.t 59) (.seq (.ops 0 [⟨(some 4), (.v (.mv (.k (.c (.int .i64 20))))), none, []⟩]) .ret) .skip)) (.seq (.seq (.any 0 [⟨0, ⟨[], ⟨(some 60), (.v (.lda 5 (.t 2))), none, []⟩⟩⟩, ⟨1, ⟨[0], ⟨(some 61), (.v (.det 38 [⟨false, [(.int .i64)]⟩] [(.t 60)])), none, []⟩⟩⟩, ⟨2, ⟨[], ⟨(some 62), (.v (.mv (.t 7))), none, []⟩⟩⟩, ⟨3, ⟨[1, 0, 2], ⟨(some 63), (.v (.bin .sub (.t 61) (.t 62))), none, []⟩⟩⟩, ⟨4, ⟨[], ⟨(some 64), (.v (.fa 2 (.t 2))), none, []⟩⟩⟩, ⟨5, ⟨[4], ⟨(some 65), (.v (.ld (.t 64))), none, []⟩⟩⟩, ⟨6, ⟨[3, 1, 0, 2, 5, 4], ⟨(some 66), (.v (.bin .gtr (.t 63) (.t 65))), none, []⟩⟩⟩]) (.cond (.t 66) (.seq (.ops 0 [⟨(some 4), (.v (.mv (.k (.c (.int .i64 24))))), none, []⟩]) .ret) .skip)) (.seq (.ops 0 [⟨(some 4), (.v (.mv (.k (.c (.int .i64 0))))), none, []⟩]) .ret)))))))))), 67, [(.t 4)]⟩
theorem h44 : fnR Try.prog DD 44 = some rf44 := by kernel_rfl
/-- papermill pattern.list closure 1 -/
def rf69 : RFn := ⟨(.seq (.seq (.ops 0 [⟨(some 13), (.v (.ld (.t 3))), none, []⟩, ⟨(some 14), (.v (.lenS (.t 13))), none, []⟩, ⟨(some 15), (.v (.ld (.t 4))), none, []⟩, ⟨(some 16), (.v (.bin .geq (.t 14) (.t 15))), none, []⟩]) (.cond (.t 16) .ret .skip)) (.seq (.seq (.ops 0 [⟨(some 17), (.v (.mv (.t 0))), none, []⟩, ⟨(some 18), (.v (.ld (.t 5))), none, []⟩, ⟨(some 19), (.v (.lenS (.t 18))), none, []⟩, ⟨(some 20), (.v (.bin .eql (.t 17) (.t 19))), none, []⟩]) (.cond (.t 20) (.seq (.seq (.ops 0 [⟨(some 21), (.v (.mv (.t 2))), none, []⟩, ⟨(some 22), (.v (.fa 2 (.t 6))), none, []⟩, ⟨(some 23), (.v (.ld (.t 22))), none, []⟩, ⟨(some 24), (.v (.bin .leq (.t 21) (.t 23))), none, []⟩, ⟨(some 25), (.v (.mv (.t 24))), none, []⟩, ⟨(some 26), (.v (.mv (.t 1))), (some ⟨25, true⟩), [(.t 1)]⟩, ⟨(some 27), (.v (.fa 3 (.t 6))), (some ⟨25, true⟩), [(.t 6)]⟩, ⟨(some 28), (.v (.ld (.t 27))), (some ⟨25, true⟩), [(.t 27)]⟩, ⟨(some 29), (.v (.bin .lss (.t 26) (.t 28))), (some ⟨25, true⟩), [(.t 26), (.t 28)]⟩, ⟨(some 30), (.v (.pick (.t 25) (.t 29) (.k (.c (.bool false))))), none, []⟩]) (.cond (.t 30) (.any 2 [⟨0, ⟨[], ⟨(some 31), (.v (.ld (.t 3))), none, []⟩⟩⟩, ⟨1, ⟨[], ⟨(some 32), (.v (.ld (.t 5))), none, []⟩⟩⟩, ⟨2, ⟨[1], ⟨(some 33), (.h (.call 32 [(.t 32)])), none, []⟩⟩⟩, ⟨3, ⟨[2, 1], ⟨(some 34), (.v (.bsl 0 22 [(.sl [(.int .i64)])] [(.t 33)])), none, []⟩⟩⟩, ⟨4, ⟨[0, 3, 2, 1], ⟨(some 35), (.v (.app 1 22 [(.sl [(.int .i64)])] 5864062014805 (.t 31) (.t 34))), none, []⟩⟩⟩, ⟨5, ⟨[4, 0, 3, 2, 1], ⟨none, (.v (.st 1 (.t 3) (.t 35))), none, []⟩⟩⟩]) .skip)) .ret) .skip)) (.seq (.ops 0 [⟨(some 36), (.v (.fa 4 (.t 6))), none, []⟩, ⟨(some 37), (.v (.ld (.t 36))), none, []⟩, ⟨(some 38), (.v (.mv (.t 0))), none, []⟩, ⟨(some 39), (.v (.ia 1 (.t 37) (.t 38))), none, []⟩, ⟨(some 40), (.v (.ld (.t 39))), none, []⟩, ⟨(some 11), (.v (.mv (.t 40))), none, []⟩]) (.seq (.seq (.ops 0 [⟨(some 41), (.v (.mv (.t 2))), none, []⟩, ⟨(some 42), (.v (.mv (.t 1))), none, []⟩, ⟨(some 43), (.v (.mv (.t 11))), none, []⟩, ⟨(some 44), (.v (.bin .mul (.t 42) (.t 43))), none, []⟩, ⟨(some 45), (.v (.bin .sub (.t 41) (.t 44))), none, []⟩, ⟨(some 46), (.v (.fa 2 (.t 6))), none, []⟩, ⟨(some 47), (.v (.ld (.t 46))), none, []⟩, ⟨(some 48), (.v (.bin .gtr (.t 45) (.t 47))), none, []⟩]) (.cond (.t 48) .ret .skip)) (.seq (.seq (.ops 0 [⟨(some 49), (.v (.mv (.t 1))), none, []⟩, ⟨(some 50), (.v (.mv (.t 2))), none, []⟩, ⟨(some 51), (.v (.mv (.t 11))), none, []⟩, ⟨(some 52), (.v (.bin .quo (.t 50) (.t 51))), none, []⟩, ⟨(some 53), (.v (.min (.t 49) [(.t 52)])), none, []⟩, ⟨(some 12), (.v (.mv (.t 53))), none, []⟩]) (.block 0 (.loop (.seq (.seq (.ops 0 [⟨(some 54), (.v (.mv (.t 12))), none, []⟩, ⟨(some 55), (.v (.bin .geq (.t 54) (.k (.c (.int .i64 0))))), none, []⟩]) (.cond (.t 55) .skip (.exit 0))) (.seq (.block 1 (.seq (.ops 0 [⟨(some 58), (.v (.ld (.t 5))), none, []⟩, ⟨(some 59), (.v (.mv (.t 0))), none, []⟩, ⟨(some 60), (.v (.mv (.t 12))), none, []⟩, ⟨(some 61), (.v (.ia 1 (.t 58) (.t 59))), none, []⟩, ⟨none, (.v (.st 1 (.t 61) (.t 60))), none, []⟩]) (.ops 0 [⟨(some 62), (.v (.ld (.t 7))), none, []⟩, ⟨(some 63), (.v (.mv (.t 0))), none, []⟩, ⟨(some 64), (.v (.bin .add (.t 63) (.k (.c (.int .i64 1))))), none, []⟩, ⟨(some 65), (.v (.mv (.t 1))), none, []⟩, ⟨(some 66), (.v (.mv (.t 12))), none, []⟩, ⟨(some 67), (.v (.bin .sub (.t 65) (.t 66))), none, []⟩, ⟨(some 68), (.v (.mv (.t 2))), none, []⟩, ⟨(some 69), (.v (.mv (.t 12))), none, []⟩, ⟨(some 70), (.v (.mv (.t 11))), none, []⟩, ⟨(some 71), (.v (.bin .mul (.t 69) (.t 70))), none, []⟩, ⟨(some 72), (.v (.bin .sub (.t 68) (.t 71))), none, []⟩, ⟨(some 73), (.h (.callv (.t 62) [(.t 64), (.t 67), (.t 72)])), none, []⟩]))) (.ops 0 [⟨(some 56), (.v (.mv (.t 12))), none, []⟩, ⟨(some 57), (.v (.bin .sub (.t 56) (.k (.c (.int .i64 1))))), none, []⟩, ⟨(some 12), (.v (.mv (.t 57))), none, []⟩])))))) (.ops 0 [⟨(some 74), (.v (.ld (.t 5))), none, []⟩, ⟨(some 75), (.v (.mv (.t 0))), none, []⟩, ⟨(some 76), (.v (.ia 1 (.t 74) (.t 75))), none, []⟩, ⟨none, (.v (.st 1 (.t 76) (.k (.c (.int .i64 0))))), none, []⟩])))))), 77, []⟩
theorem h69 : fnR Try.prog ⟨ms, true, false, false⟩ 69 = some rf69 := by kernel_rfl
/-- papermill pattern.list -/
def rf58 : RFn := ⟨(.seq (.ops 2 [⟨(some 2), (.v (.box 0 24 (.t 0))), none, []⟩, ⟨(some 3), (.v (.box 1 3 (.t 1))), none, []⟩, ⟨(some 4), (.v (.mv (.k (.c .nil)))), none, []⟩]) (.seq (.ops 1 [⟨(some 5), (.v (.alloc 0 26 [(.c .nil)])), none, []⟩]) (.seq (.ops 2 [⟨(some 8), (.v (.fa 4 (.t 2))), none, []⟩, ⟨(some 9), (.v (.ld (.t 8))), none, []⟩, ⟨(some 10), (.v (.lenS (.t 9))), none, []⟩, ⟨(some 11), (.v (.mks 0 3 [(.int .i64)] [(.int .i64 0)] 17592186044416 (.t 10) (.t 10))), none, []⟩, ⟨(some 6), (.v (.alloc 1 22 [(.c .nil)])), none, []⟩, ⟨none, (.v (.st 1 (.t 6) (.t 11))), none, []⟩]) (.seq (.ops 1 [⟨(some 7), (.v (.alloc 0 94 [.nf])), none, []⟩]) (.seq (.ops 0 [⟨(some 12), (.v (.mkf 69 [(.t 5), (.t 3), (.t 6), (.t 2), (.t 7)])), none, []⟩, ⟨none, (.v (.st 1 (.t 7) (.t 12))), none, []⟩]) (.seq (.any 0 [⟨0, ⟨[], ⟨(some 13), (.v (.ld (.t 7))), none, []⟩⟩⟩, ⟨1, ⟨[], ⟨(some 14), (.v (.fa 3 (.t 2))), none, []⟩⟩⟩, ⟨2, ⟨[1], ⟨(some 15), (.v (.ld (.t 14))), none, []⟩⟩⟩, ⟨3, ⟨[], ⟨(some 16), (.v (.lda 5 (.t 2))), none, []⟩⟩⟩, ⟨4, ⟨[3], ⟨(some 17), (.v (.det 68 [⟨false, [(.int .i64)]⟩] [(.t 16)])), none, []⟩⟩⟩, ⟨5, ⟨[0, 2, 1, 4, 3], ⟨(some 18), (.h (.callv (.t 13) [(.k (.c (.int .i64 0))), (.t 15), (.t 17)])), none, []⟩⟩⟩]) (.seq (.ops 0 [⟨(some 19), (.v (.ld (.t 5))), none, []⟩, ⟨(some 4), (.v (.mv (.t 19))), none, []⟩]) .ret))))))), 20, [(.t 4)]⟩
theorem h58 : fnR Try.prog ⟨ms, true, false, false⟩ 58 = some rf58 := by kernel_rfl
/-- papermill papermillref38.all -/
def rf60 : RFn := ⟨(.seq (.ops 1 [⟨(some 6), (.v (.box 0 24 (.t 0))), none, []⟩, ⟨(some 12), (.v (.mv (.k (.c .nil)))), none, []⟩]) (.seq (.seq (.ops 0 [⟨(some 15), (.v (.mv (.t 4))), none, []⟩, ⟨(some 16), (.v (.lenS (.t 15))), none, []⟩, ⟨(some 17), (.v (.mv (.t 5))), none, []⟩, ⟨(some 18), (.v (.bin .gtr (.t 16) (.t 17))), none, []⟩]) (.cond (.t 18) (.seq (.ops 0 [⟨(some 19), (.v (.mv (.t 4))), none, []⟩, ⟨(some 12), (.v (.mv (.t 19))), none, []⟩]) .ret) .skip)) (.seq (.seq (.ops 0 [⟨(some 20), (.v (.mv (.t 1))), none, []⟩, ⟨(some 21), (.v (.lenS (.t 20))), none, []⟩, ⟨(some 22), (.v (.fa 4 (.t 6))), none, []⟩, ⟨(some 23), (.v (.ld (.t 22))), none, []⟩, ⟨(some 24), (.v (.lenS (.t 23))), none, []⟩, ⟨(some 25), (.v (.bin .eql (.t 21) (.t 24))), none, []⟩]) (.cond (.t 25) (.seq (.seq (.ops 0 [⟨(some 26), (.v (.lda 5 (.t 6))), none, []⟩, ⟨(some 27), (.v (.mv (.t 1))), none, []⟩, ⟨(some 28), (.v (.det 44 [⟨false, [(.int .i64)]⟩] [(.t 26), (.t 27)])), none, []⟩, ⟨(some 29), (.v (.bin .eql (.t 28) (.k (.c (.int .i64 0))))), none, []⟩]) (.cond (.t 29) (.ops 4 [⟨(some 30), (.v (.bsl 0 22 [(.sl [(.int .i64)])] [])), none, []⟩, ⟨(some 31), (.v (.mv (.t 4))), none, []⟩, ⟨(some 32), (.v (.app 1 22 [(.sl [(.int .i64)])] 5864062014805 (.t 30) (.t 31))), none, []⟩, ⟨(some 33), (.v (.mv (.t 1))), none, []⟩, ⟨(some 34), (.v (.bsl 2 22 [(.sl [(.int .i64)])] [(.t 33)])), none, []⟩, ⟨(some 35), (.v (.app 3 22 [(.sl [(.int .i64)])] 5864062014805 (.t 32) (.t 34))), none, []⟩, ⟨(some 4), (.v (.mv (.t 35))), none, []⟩]) .skip)) (.seq (.ops 0 [⟨(some 36), (.v (.mv (.t 4))), none, []⟩, ⟨(some 12), (.v (.mv (.t 36))), none, []⟩]) .ret)) .skip)) (.seq (.ops 0 [⟨(some 37), (.v (.fa 4 (.t 6))), none, []⟩, ⟨(some 38), (.v (.ld (.t 37))), none, []⟩, ⟨(some 39), (.v (.mv (.t 1))), none, []⟩, ⟨(some 40), (.v (.lenS (.t 39))), none, []⟩, ⟨(some 41), (.v (.ia 1 (.t 38) (.t 40))), none, []⟩, ⟨(some 42), (.v (.ld (.t 41))), none, []⟩, ⟨(some 13), (.v (.mv (.t 42))), none, []⟩]) (.seq (.seq (.ops 0 [⟨(some 43), (.v (.mv (.t 2))), none, []⟩, ⟨(some 44), (.v (.mv (.t 3))), none, []⟩, ⟨(some 45), (.v (.mv (.t 13))), none, []⟩, ⟨(some 46), (.v (.bin .quo (.t 44) (.t 45))), none, []⟩, ⟨(some 47), (.v (.min (.t 43) [(.t 46)])), none, []⟩, ⟨(some 14), (.v (.mv (.t 47))), none, []⟩]) (.block 0 (.loop (.seq (.seq (.ops 0 [⟨(some 48), (.v (.mv (.t 14))), none, []⟩, ⟨(some 49), (.v (.bin .geq (.t 48) (.k (.c (.int .i64 0))))), none, []⟩]) (.cond (.t 49) .skip (.exit 0))) (.seq (.block 1 (.any 4 [⟨0, ⟨[], ⟨(some 52), (.v (.lda 5 (.t 6))), none, []⟩⟩⟩, ⟨1, ⟨[], ⟨(some 53), (.v (.bsl 0 3 [(.int .i64)] [])), none, []⟩⟩⟩, ⟨2, ⟨[], ⟨(some 54), (.v (.mv (.t 1))), none, []⟩⟩⟩, ⟨3, ⟨[1, 2], ⟨(some 55), (.v (.app 1 3 [(.int .i64)] 17592186044416 (.t 53) (.t 54))), none, []⟩⟩⟩, ⟨4, ⟨[], ⟨(some 56), (.v (.mv (.t 14))), none, []⟩⟩⟩, ⟨5, ⟨[4], ⟨(some 57), (.v (.bsl 2 3 [(.int .i64)] [(.t 56)])), none, []⟩⟩⟩, ⟨6, ⟨[5, 4, 3, 1, 2], ⟨(some 58), (.v (.app 3 3 [(.int .i64)] 17592186044416 (.t 55) (.t 57))), none, []⟩⟩⟩, ⟨7, ⟨[], ⟨(some 59), (.v (.mv (.t 2))), none, []⟩⟩⟩, ⟨8, ⟨[], ⟨(some 60), (.v (.mv (.t 14))), none, []⟩⟩⟩, ⟨9, ⟨[7, 8], ⟨(some 61), (.v (.bin .sub (.t 59) (.t 60))), none, []⟩⟩⟩, ⟨10, ⟨[], ⟨(some 62), (.v (.mv (.t 3))), none, []⟩⟩⟩, ⟨11, ⟨[], ⟨(some 63), (.v (.mv (.t 14))), none, []⟩⟩⟩, ⟨12, ⟨[], ⟨(some 64), (.v (.mv (.t 13))), none, []⟩⟩⟩, ⟨13, ⟨[11, 12], ⟨(some 65), (.v (.bin .mul (.t 63) (.t 64))), none, []⟩⟩⟩, ⟨14, ⟨[10, 13, 11, 12], ⟨(some 66), (.v (.bin .sub (.t 62) (.t 65))), none, []⟩⟩⟩, ⟨15, ⟨[], ⟨(some 67), (.v (.mv (.t 4))), none, []⟩⟩⟩, ⟨16, ⟨[], ⟨(some 68), (.v (.mv (.t 5))), none, []⟩⟩⟩, ⟨17, ⟨[0, 9, 7, 8, 14, 10, 13, 11, 12, 15, 16, 6, 5, 4, 3, 1, 2], ⟨(some 69), (.v (.det 60 [⟨false, [(.sl [(.sl [(.int .i64)])])]⟩] [(.t 52), (.t 58), (.t 61), (.t 66), (.t 67), (.t 68)])), none, []⟩⟩⟩, ⟨18, ⟨[17, 0, 9, 7, 8, 14, 10, 13, 11, 12, 15, 16, 6, 5, 4, 3, 1, 2], ⟨(some 4), (.v (.mv (.t 69))), none, []⟩⟩⟩])) (.ops 0 [⟨(some 50), (.v (.mv (.t 14))), none, []⟩, ⟨(some 51), (.v (.bin .sub (.t 50) (.k (.c (.int .i64 1))))), none, []⟩, ⟨(some 14), (.v (.mv (.t 51))), none, []⟩])))))) (.seq (.ops 0 [⟨(some 70), (.v (.mv (.t 4))), none, []⟩, ⟨(some 12), (.v (.mv (.t 70))), none, []⟩]) .ret)))))), 71, [(.t 12)]⟩
theorem h60 : fnR Try.prog DD 60 = some rf60 := by kernel_rfl
/-- papermill pattern.Check -/
def rf42 : RFn := ⟨(.seq (.ops 1 [⟨(some 1), (.v (.box 0 24 (.t 0))), none, []⟩, ⟨(some 2), (.v (.mv (.k (.c (.int .i64 0))))), none, []⟩]) (.seq (.seq (.ops 0 [⟨(some 4), (.v (.lda 5 (.t 1))), none, []⟩, ⟨(some 5), (.v (.det 57 [⟨false, [(.int .i64)]⟩] [(.t 4)])), none, []⟩, ⟨(some 3), (.v (.mv (.t 5))), none, []⟩]) (.seq (.ops 0 [⟨(some 6), (.v (.mv (.t 3))), none, []⟩, ⟨(some 7), (.v (.bin .neq (.t 6) (.k (.c (.int .i64 0))))), none, []⟩]) (.cond (.t 7) (.seq (.ops 0 [⟨(some 8), (.v (.mv (.t 3))), none, []⟩, ⟨(some 2), (.v (.mv (.t 8))), none, []⟩]) .ret) .skip))) (.seq (.seq (.ops 0 [⟨(some 9), (.v (.lda 5 (.t 1))), none, []⟩, ⟨(some 10), (.v (.det 58 [⟨false, [(.sl [(.sl [(.int .i64)])])]⟩] [(.t 9), (.k (.c (.int .i64 1025)))])), none, []⟩, ⟨(some 11), (.v (.lenS (.t 10))), none, []⟩, ⟨(some 12), (.v (.bin .gtr (.t 11) (.k (.c (.int .i64 1024))))), none, []⟩]) (.cond (.t 12) (.seq (.ops 0 [⟨(some 2), (.v (.mv (.k (.c (.int .i64 8))))), none, []⟩]) .ret) .skip)) (.seq (.ops 0 [⟨(some 2), (.v (.mv (.k (.c (.int .i64 0))))), none, []⟩]) .ret)))), 13, [(.t 2)]⟩
theorem h42 : fnR Try.prog DD 42 = some rf42 := by kernel_rfl
/-- papermill papermillref38.Check -/
def rf43 : RFn := ⟨(.seq (.ops 1 [⟨(some 1), (.v (.box 0 24 (.t 0))), none, []⟩, ⟨(some 2), (.v (.mv (.k (.c (.int .i64 0))))), none, []⟩]) (.seq (.seq (.ops 0 [⟨(some 4), (.v (.lda 5 (.t 1))), none, []⟩, ⟨(some 5), (.v (.det 59 [⟨false, [(.int .i64)]⟩] [(.t 4)])), none, []⟩, ⟨(some 3), (.v (.mv (.t 5))), none, []⟩]) (.seq (.ops 0 [⟨(some 6), (.v (.mv (.t 3))), none, []⟩, ⟨(some 7), (.v (.bin .neq (.t 6) (.k (.c (.int .i64 0))))), none, []⟩]) (.cond (.t 7) (.seq (.ops 0 [⟨(some 8), (.v (.mv (.t 3))), none, []⟩, ⟨(some 2), (.v (.mv (.t 8))), none, []⟩]) .ret) .skip))) (.seq (.seq (.any 0 [⟨0, ⟨[], ⟨(some 9), (.v (.lda 5 (.t 1))), none, []⟩⟩⟩, ⟨1, ⟨[], ⟨(some 10), (.v (.fa 3 (.t 1))), none, []⟩⟩⟩, ⟨2, ⟨[1], ⟨(some 11), (.v (.ld (.t 10))), none, []⟩⟩⟩, ⟨3, ⟨[], ⟨(some 12), (.v (.lda 5 (.t 1))), none, []⟩⟩⟩, ⟨4, ⟨[3], ⟨(some 13), (.v (.det 38 [⟨false, [(.int .i64)]⟩] [(.t 12)])), none, []⟩⟩⟩, ⟨5, ⟨[0, 2, 1, 4, 3], ⟨(some 14), (.v (.det 60 [⟨false, [(.sl [(.sl [(.int .i64)])])]⟩] [(.t 9), (.k (.c .nil)), (.t 11), (.t 13), (.k (.c .nil)), (.k (.c (.int .i64 1024)))])), none, []⟩⟩⟩, ⟨6, ⟨[5, 0, 2, 1, 4, 3], ⟨(some 15), (.v (.lenS (.t 14))), none, []⟩⟩⟩, ⟨7, ⟨[6, 5, 0, 2, 1, 4, 3], ⟨(some 16), (.v (.bin .gtr (.t 15) (.k (.c (.int .i64 1024))))), none, []⟩⟩⟩]) (.cond (.t 16) (.seq (.ops 0 [⟨(some 2), (.v (.mv (.k (.c (.int .i64 8))))), none, []⟩]) .ret) .skip)) (.seq (.ops 0 [⟨(some 2), (.v (.mv (.k (.c (.int .i64 0))))), none, []⟩]) .ret)))), 17, [(.t 2)]⟩
theorem h43 : fnR Try.prog DD 43 = some rf43 := by kernel_rfl
/-- papermill pattern.Fits -/
def rf45 : RFn := ⟨(.seq (.ops 1 [⟨(some 2), (.v (.box 0 24 (.t 0))), none, []⟩, ⟨(some 4), (.v (.mv (.k (.c (.int .i64 0))))), none, []⟩]) (.seq (.seq (.ops 0 [⟨(some 9), (.v (.lda 5 (.t 2))), none, []⟩, ⟨(some 10), (.v (.det 42 [⟨false, [(.int .i64)]⟩] [(.t 9)])), none, []⟩, ⟨(some 5), (.v (.mv (.t 10))), none, []⟩]) (.seq (.ops 0 [⟨(some 11), (.v (.mv (.t 5))), none, []⟩, ⟨(some 12), (.v (.bin .neq (.t 11) (.k (.c (.int .i64 0))))), none, []⟩]) (.cond (.t 12) (.seq (.ops 0 [⟨(some 13), (.v (.mv (.t 5))), none, []⟩, ⟨(some 4), (.v (.mv (.t 13))), none, []⟩]) .ret) .skip))) (.seq (.ops 0 [⟨(some 15), (.v (.lda 5 (.t 2))), none, []⟩, ⟨(some 16), (.v (.mv (.t 1))), none, []⟩, ⟨(some 17), (.v (.det 61 [⟨false, [(.int .i64)]⟩, ⟨false, [(.int .i64)]⟩, ⟨false, [(.int .i64)]⟩] [(.t 15), (.t 16)])), none, []⟩, ⟨(some 14), (.v (.mv (.t 17))), none, []⟩, ⟨(some 18), (.v (.ext (.t 14) 0)), none, []⟩, ⟨(some 19), (.v (.ext (.t 14) 1)), none, []⟩, ⟨(some 20), (.v (.ext (.t 14) 2)), none, []⟩, ⟨(some 6), (.v (.mv (.t 18))), none, []⟩, ⟨(some 7), (.v (.mv (.t 19))), none, []⟩, ⟨(some 8), (.v (.mv (.t 20))), none, []⟩]) (.seq (.ops 0 [⟨(some 21), (.v (.mv (.t 8))), none, []⟩, ⟨(some 4), (.v (.mv (.t 21))), none, []⟩]) .ret)))), 22, [(.t 4)]⟩
theorem h45 : fnR Try.prog DD 45 = some rf45 := by kernel_rfl
/-- papermill papermillref38.Fits -/
def rf37 : RFn := ⟨(.seq (.ops 1 [⟨(some 2), (.v (.box 0 24 (.t 0))), none, []⟩, ⟨(some 4), (.v (.mv (.k (.c (.int .i64 0))))), none, []⟩]) (.seq (.seq (.ops 0 [⟨(some 6), (.v (.lda 5 (.t 2))), none, []⟩, ⟨(some 7), (.v (.det 43 [⟨false, [(.int .i64)]⟩] [(.t 6)])), none, []⟩, ⟨(some 5), (.v (.mv (.t 7))), none, []⟩]) (.seq (.ops 0 [⟨(some 8), (.v (.mv (.t 5))), none, []⟩, ⟨(some 9), (.v (.bin .neq (.t 8) (.k (.c (.int .i64 0))))), none, []⟩]) (.cond (.t 9) (.seq (.ops 0 [⟨(some 10), (.v (.mv (.t 5))), none, []⟩, ⟨(some 4), (.v (.mv (.t 10))), none, []⟩]) .ret) .skip))) (.seq (.ops 0 [⟨(some 11), (.v (.lda 5 (.t 2))), none, []⟩, ⟨(some 12), (.v (.mv (.t 1))), none, []⟩, ⟨(some 13), (.v (.det 44 [⟨false, [(.int .i64)]⟩] [(.t 11), (.t 12)])), none, []⟩, ⟨(some 4), (.v (.mv (.t 13))), none, []⟩]) .ret))), 14, [(.t 4)]⟩
theorem h37 : fnR Try.prog DD 37 = some rf37 := by kernel_rfl
/-- papermill slit.Strips -/
def rf39 : RFn := ⟨(.seq (.ops 1 [⟨(some 2), (.v (.box 0 24 (.t 0))), none, []⟩, ⟨(some 4), (.v (.mv (.k (.c .nil)))), none, []⟩, ⟨(some 5), (.v (.mv (.k (.c (.int .i64 0))))), none, []⟩]) (.seq (.seq (.ops 0 [⟨(some 11), (.v (.lda 5 (.t 2))), none, []⟩, ⟨(some 12), (.v (.mv (.t 1))), none, []⟩, ⟨(some 13), (.v (.det 45 [⟨false, [(.int .i64)]⟩] [(.t 11), (.t 12)])), none, []⟩, ⟨(some 6), (.v (.mv (.t 13))), none, []⟩]) (.seq (.ops 0 [⟨(some 14), (.v (.mv (.t 6))), none, []⟩, ⟨(some 15), (.v (.bin .neq (.t 14) (.k (.c (.int .i64 0))))), none, []⟩]) (.cond (.t 15) (.seq (.ops 0 [⟨(some 16), (.v (.mv (.t 6))), none, []⟩, ⟨(some 4), (.v (.mv (.k (.c .nil)))), none, []⟩, ⟨(some 5), (.v (.mv (.t 16))), none, []⟩]) .ret) .skip))) (.seq (.ops 0 [⟨(some 7), (.v (.mv (.k (.c .nil)))), none, []⟩]) (.seq (.ops 0 [⟨(some 17), (.v (.fa 1 (.t 2))), none, []⟩, ⟨(some 18), (.v (.ld (.t 17))), none, []⟩, ⟨(some 8), (.v (.mv (.t 18))), none, []⟩]) (.seq (.seq (.ops 0 [⟨(some 19), (.v (.mv (.t 1))), none, []⟩, ⟨(some 20), (.v (.lenS (.t 19))), none, []⟩, ⟨(some 21), (.v (.mv (.k (.c (.int .i64 0))))), none, []⟩]) (.block 0 (.loop (.seq (.ops 0 [⟨(some 22), (.v (.bin .lss (.t 21) (.t 20))), none, []⟩]) (.seq (.cond (.t 22) .skip (.exit 0)) (.seq (.block 1 (.seq (.ops 0 [⟨(some 23), (.v (.mv (.t 21))), none, []⟩, ⟨(some 24), (.v (.ia 1 (.t 19) (.t 21))), none, []⟩, ⟨(some 25), (.v (.ld (.t 24))), none, []⟩, ⟨(some 9), (.v (.mv (.t 23))), none, []⟩, ⟨(some 10), (.v (.mv (.t 25))), none, []⟩]) (.seq (.ops 0 [⟨(some 26), (.v (.mv (.t 10))), none, []⟩, ⟨(some 27), (.v (.mv (.k (.c (.int .i64 0))))), none, []⟩]) (.block 2 (.loop (.seq (.ops 0 [⟨(some 28), (.v (.bin .lss (.t 27) (.t 26))), none, []⟩]) (.seq (.cond (.t 28) .skip (.exit 2)) (.seq (.block 3 (.seq (.ops 2 [⟨(some 29), (.v (.mv (.t 7))), none, []⟩, ⟨(some 30), (.v (.mv (.t 8))), none, []⟩, ⟨(some 31), (.v (.fa 4 (.t 2))), none, []⟩, ⟨(some 32), (.v (.ld (.t 31))), none, []⟩, ⟨(some 33), (.v (.mv (.t 9))), none, []⟩, ⟨(some 34), (.v (.ia 1 (.t 32) (.t 33))), none, []⟩, ⟨(some 35), (.v (.ld (.t 34))), none, []⟩, ⟨(some 36), (.v (.build [(.c (.int .i64 0)), (.c (.int .i64 0))] [⟨0, ⟨1, (.t 30)⟩⟩, ⟨1, ⟨1, (.t 35)⟩⟩])), none, []⟩, ⟨(some 37), (.v (.bsl 0 51 [(.int .i64), (.int .i64)] [(.t 36)])), none, []⟩, ⟨(some 38), (.v (.app 1 51 [(.int .i64), (.int .i64)] 8796093022208 (.t 29) (.t 37))), none, []⟩, ⟨(some 7), (.v (.mv (.t 38))), none, []⟩]) (.ops 0 [⟨(some 39), (.v (.mv (.t 8))), none, []⟩, ⟨(some 40), (.v (.fa 4 (.t 2))), none, []⟩, ⟨(some 41), (.v (.ld (.t 40))), none, []⟩, ⟨(some 42), (.v (.mv (.t 9))), none, []⟩, ⟨(some 43), (.v (.ia 1 (.t 41) (.t 42))), none, []⟩, ⟨(some 44), (.v (.ld (.t 43))), none, []⟩, ⟨(some 45), (.v (.bin .add (.t 39) (.t 44))), none, []⟩, ⟨(some 8), (.v (.mv (.t 45))), none, []⟩]))) (.ops 0 [⟨(some 46), (.v (.bin .add (.t 27) (.k (.c (.int .i64 1))))), none, []⟩, ⟨(some 27), (.v (.mv (.t 46))), none, []⟩]))))))))) (.ops 0 [⟨(some 47), (.v (.bin .add (.t 21) (.k (.c (.int .i64 1))))), none, []⟩, ⟨(some 21), (.v (.mv (.t 47))), none, []⟩]))))))) (.seq (.ops 0 [⟨(some 48), (.v (.mv (.t 7))), none, []⟩, ⟨(some 4), (.v (.mv (.t 48))), none, []⟩, ⟨(some 5), (.v (.mv (.k (.c (.int .i64 0))))), none, []⟩]) .ret)))))), 49, [(.t 4), (.t 5)]⟩
theorem h39 : fnR Try.prog DD 39 = some rf39 := by kernel_rfl
/-- papermill papermillref39.Strips -/
def rf26 : RFn := ⟨(.seq (.ops 1 [⟨(some 2), (.v (.box 0 24 (.t 0))), none, []⟩, ⟨(some 4), (.v (.mv (.k (.c .nil)))), none, []⟩, ⟨(some 5), (.v (.mv (.k (.c (.int .i64 0))))), none, []⟩]) (.seq (.seq (.ops 0 [⟨(some 11), (.v (.lda 5 (.t 2))), none, []⟩, ⟨(some 12), (.v (.mv (.t 1))), none, []⟩, ⟨(some 13), (.v (.det 37 [⟨false, [(.int .i64)]⟩] [(.t 11), (.t 12)])), none, []⟩, ⟨(some 6), (.v (.mv (.t 13))), none, []⟩]) (.seq (.ops 0 [⟨(some 14), (.v (.mv (.t 6))), none, []⟩, ⟨(some 15), (.v (.bin .neq (.t 14) (.k (.c (.int .i64 0))))), none, []⟩]) (.cond (.t 15) (.seq (.ops 0 [⟨(some 16), (.v (.mv (.t 6))), none, []⟩, ⟨(some 4), (.v (.mv (.k (.c .nil)))), none, []⟩, ⟨(some 5), (.v (.mv (.t 16))), none, []⟩]) .ret) .skip))) (.seq (.ops 0 [⟨(some 7), (.v (.mv (.k (.c .nil)))), none, []⟩]) (.seq (.ops 0 [⟨(some 17), (.v (.fa 1 (.t 2))), none, []⟩, ⟨(some 18), (.v (.ld (.t 17))), none, []⟩, ⟨(some 8), (.v (.mv (.t 18))), none, []⟩]) (.seq (.seq (.ops 0 [⟨(some 9), (.v (.mv (.k (.c (.int .i64 0))))), none, []⟩]) (.block 0 (.loop (.seq (.seq (.ops 0 [⟨(some 19), (.v (.mv (.t 9))), none, []⟩, ⟨(some 20), (.v (.mv (.t 1))), none, []⟩, ⟨(some 21), (.v (.lenS (.t 20))), none, []⟩, ⟨(some 22), (.v (.bin .lss (.t 19) (.t 21))), none, []⟩]) (.cond (.t 22) .skip (.exit 0))) (.seq (.block 1 (.seq (.ops 0 [⟨(some 10), (.v (.mv (.k (.c (.int .i64 0))))), none, []⟩]) (.block 2 (.loop (.seq (.seq (.ops 0 [⟨(some 25), (.v (.mv (.t 10))), none, []⟩, ⟨(some 26), (.v (.mv (.t 1))), none, []⟩, ⟨(some 27), (.v (.mv (.t 9))), none, []⟩, ⟨(some 28), (.v (.ia 1 (.t 26) (.t 27))), none, []⟩, ⟨(some 29), (.v (.ld (.t 28))), none, []⟩, ⟨(some 30), (.v (.bin .lss (.t 25) (.t 29))), none, []⟩]) (.cond (.t 30) .skip (.exit 2))) (.seq (.block 3 (.seq (.ops 2 [⟨(some 33), (.v (.mv (.t 7))), none, []⟩, ⟨(some 34), (.v (.mv (.t 8))), none, []⟩, ⟨(some 35), (.v (.fa 4 (.t 2))), none, []⟩, ⟨(some 36), (.v (.ld (.t 35))), none, []⟩, ⟨(some 37), (.v (.mv (.t 9))), none, []⟩, ⟨(some 38), (.v (.ia 1 (.t 36) (.t 37))), none, []⟩, ⟨(some 39), (.v (.ld (.t 38))), none, []⟩, ⟨(some 40), (.v (.build [(.c (.int .i64 0)), (.c (.int .i64 0))] [⟨0, ⟨1, (.t 34)⟩⟩, ⟨1, ⟨1, (.t 39)⟩⟩])), none, []⟩, ⟨(some 41), (.v (.bsl 0 51 [(.int .i64), (.int .i64)] [(.t 40)])), none, []⟩, ⟨(some 42), (.v (.app 1 51 [(.int .i64), (.int .i64)] 8796093022208 (.t 33) (.t 41))), none, []⟩, ⟨(some 7), (.v (.mv (.t 42))), none, []⟩]) (.ops 0 [⟨(some 43), (.v (.mv (.t 8))), none, []⟩, ⟨(some 44), (.v (.fa 4 (.t 2))), none, []⟩, ⟨(some 45), (.v (.ld (.t 44))), none, []⟩, ⟨(some 46), (.v (.mv (.t 9))), none, []⟩, ⟨(some 47), (.v (.ia 1 (.t 45) (.t 46))), none, []⟩, ⟨(some 48), (.v (.ld (.t 47))), none, []⟩, ⟨(some 49), (.v (.bin .add (.t 43) (.t 48))), none, []⟩, ⟨(some 8), (.v (.mv (.t 49))), none, []⟩]))) (.ops 0 [⟨(some 31), (.v (.mv (.t 10))), none, []⟩, ⟨(some 32), (.v (.bin .add (.t 31) (.k (.c (.int .i64 1))))), none, []⟩, ⟨(some 10), (.v (.mv (.t 32))), none, []⟩]))))))) (.ops 0 [⟨(some 23), (.v (.mv (.t 9))), none, []⟩, ⟨(some 24), (.v (.bin .add (.t 23) (.k (.c (.int .i64 1))))), none, []⟩, ⟨(some 9), (.v (.mv (.t 24))), none, []⟩])))))) (.seq (.ops 0 [⟨(some 50), (.v (.mv (.t 7))), none, []⟩, ⟨(some 4), (.v (.mv (.t 50))), none, []⟩, ⟨(some 5), (.v (.mv (.k (.c (.int .i64 0))))), none, []⟩]) .ret)))))), 51, [(.t 4), (.t 5)]⟩
theorem h26 : fnR Try.prog DD 26 = some rf26 := by kernel_rfl
/-- papermill papermillref38.Left -/
def rf22 : RFn := ⟨(.seq (.ops 1 [⟨(some 2), (.v (.box 0 24 (.t 0))), none, []⟩, ⟨(some 4), (.v (.mv (.k (.c (.int .i64 0))))), none, []⟩, ⟨(some 5), (.v (.mv (.k (.c (.int .i64 0))))), none, []⟩]) (.seq (.seq (.ops 0 [⟨(some 9), (.v (.lda 5 (.t 2))), none, []⟩, ⟨(some 10), (.v (.mv (.t 1))), none, []⟩, ⟨(some 11), (.v (.det 37 [⟨false, [(.int .i64)]⟩] [(.t 9), (.t 10)])), none, []⟩, ⟨(some 6), (.v (.mv (.t 11))), none, []⟩]) (.seq (.ops 0 [⟨(some 12), (.v (.mv (.t 6))), none, []⟩, ⟨(some 13), (.v (.bin .neq (.t 12) (.k (.c (.int .i64 0))))), none, []⟩]) (.cond (.t 13) (.seq (.ops 0 [⟨(some 14), (.v (.mv (.t 6))), none, []⟩, ⟨(some 4), (.v (.mv (.k (.c (.int .i64 0))))), none, []⟩, ⟨(some 5), (.v (.mv (.t 14))), none, []⟩]) .ret) .skip))) (.seq (.ops 0 [⟨(some 15), (.v (.lda 5 (.t 2))), none, []⟩, ⟨(some 16), (.v (.det 38 [⟨false, [(.int .i64)]⟩] [(.t 15)])), none, []⟩, ⟨(some 7), (.v (.mv (.t 16))), none, []⟩]) (.seq (.seq (.ops 0 [⟨(some 8), (.v (.mv (.k (.c (.int .i64 0))))), none, []⟩]) (.block 0 (.loop (.seq (.seq (.ops 0 [⟨(some 17), (.v (.mv (.t 8))), none, []⟩, ⟨(some 18), (.v (.mv (.t 1))), none, []⟩, ⟨(some 19), (.v (.lenS (.t 18))), none, []⟩, ⟨(some 20), (.v (.bin .lss (.t 17) (.t 19))), none, []⟩]) (.cond (.t 20) .skip (.exit 0))) (.seq (.block 1 (.any 0 [⟨0, ⟨[], ⟨(some 23), (.v (.mv (.t 7))), none, []⟩⟩⟩, ⟨1, ⟨[], ⟨(some 24), (.v (.mv (.t 1))), none, []⟩⟩⟩, ⟨2, ⟨[], ⟨(some 25), (.v (.mv (.t 8))), none, []⟩⟩⟩, ⟨3, ⟨[1, 2], ⟨(some 26), (.v (.ia 1 (.t 24) (.t 25))), none, []⟩⟩⟩, ⟨4, ⟨[3, 1, 2], ⟨(some 27), (.v (.ld (.t 26))), none, []⟩⟩⟩, ⟨5, ⟨[], ⟨(some 28), (.v (.fa 4 (.t 2))), none, []⟩⟩⟩, ⟨6, ⟨[5], ⟨(some 29), (.v (.ld (.t 28))), none, []⟩⟩⟩, ⟨7, ⟨[], ⟨(some 30), (.v (.mv (.t 8))), none, []⟩⟩⟩, ⟨8, ⟨[6, 5, 7], ⟨(some 31), (.v (.ia 1 (.t 29) (.t 30))), none, []⟩⟩⟩, ⟨9, ⟨[8, 6, 5, 7], ⟨(some 32), (.v (.ld (.t 31))), none, []⟩⟩⟩, ⟨10, ⟨[4, 3, 1, 2, 9, 8, 6, 5, 7], ⟨(some 33), (.v (.bin .mul (.t 27) (.t 32))), none, []⟩⟩⟩, ⟨11, ⟨[0, 10, 4, 3, 1, 2, 9, 8, 6, 5, 7], ⟨(some 34), (.v (.bin .sub (.t 23) (.t 33))), none, []⟩⟩⟩, ⟨12, ⟨[11, 0, 10, 4, 3, 1, 2, 9, 8, 6, 5, 7], ⟨(some 7), (.v (.mv (.t 34))), none, []⟩⟩⟩])) (.ops 0 [⟨(some 21), (.v (.mv (.t 8))), none, []⟩, ⟨(some 22), (.v (.bin .add (.t 21) (.k (.c (.int .i64 1))))), none, []⟩, ⟨(some 8), (.v (.mv (.t 22))), none, []⟩])))))) (.seq (.ops 0 [⟨(some 35), (.v (.mv (.t 7))), none, []⟩, ⟨(some 4), (.v (.mv (.t 35))), none, []⟩, ⟨(some 5), (.v (.mv (.k (.c (.int .i64 0))))), none, []⟩]) .ret))))), 36, [(.t 4), (.t 5)]⟩
theorem h22 : fnR Try.prog DD 22 = some rf22 := by kernel_rfl
/-- slices.Clone[[]int,int] -/
def rf32 : RFn := ⟨(.seq (.ops 0 [⟨(some 2), (.v (.mv (.k (.c .nil)))), none, []⟩]) (.seq (.seq (.ops 0 [⟨(some 3), (.v (.mv (.t 0))), none, []⟩, ⟨(some 4), (.h (.isn 0 false (.t 3))), none, []⟩]) (.cond (.t 4) (.seq (.ops 0 [⟨(some 2), (.v (.mv (.k (.c .nil)))), none, []⟩]) .ret) .skip)) (.seq (.ops 2 [⟨(some 5), (.v (.bsl 0 3 [(.int .i64)] [])), none, []⟩, ⟨(some 6), (.v (.mv (.t 0))), none, []⟩, ⟨(some 7), (.v (.app 1 3 [(.int .i64)] 17592186044416 (.t 5) (.t 6))), none, []⟩, ⟨(some 2), (.v (.mv (.t 7))), none, []⟩]) .ret))), 8, [(.t 2)]⟩
theorem h32 : fnR Try.prog DI 32 = some rf32 := by kernel_rfl
theorem b32 : hasBody Try.prog 32 = true := by kernel_rfl
theorem clone32 : CloneC 3 [.int .i64] Try.prog 32 := ⟨b32, fun xs K hs => ACalls_vc (tbl := fun _ _ => []) mo h32 ⟨by
  obtain ⟨hl, hk⟩ := hs
  generalize hE : stdE Try.prog (fun _ _ => []) = E
  generalize hP : Try.prog = P
  cbv
  refine HIsn.mk fun b hb => ?_
  cbv
  refine Br_iff.2 ⟨fun h1 => ?_, fun h1 => ?_⟩
  · have hx : xs = [] := hb h1
    subst hx
    exact ⟨.gr 0, [.arr 3 [.int .i64] []], GFin.of (GSt.nil 0 3 [.int .i64] rfl), hk, rfl, rfl⟩
  · subst hP; subst hE
    simp only [stdE, baseE, decide_eq_true_eq]
    refine ⟨?_, ⟨.gr 0, [.arr 3 [.int .i64] xs], GFin.of (GSt.ren [1] rfl rfl rfl (fun i hi => absurd hi (Nat.not_lt_zero i)) (Nat.zero_le _) ?_ ?_), hk, rfl, rfl⟩⟩
    · simp; omega
    · exact ⟨Or.inr rfl, trivial⟩
    · exact ⟨Or.inr rfl, trivial⟩⟩⟩
theorem cloneo32 : CloneO 3 [.int .i64] Try.prog 32 := ⟨b32, fun T' xs off len K hs => ACalls_vc (tbl := fun _ _ => []) mo h32 ⟨by
  obtain ⟨h0, hl0, hl1, hl2, hk⟩ := hs
  generalize hE : stdE Try.prog (fun _ _ => []) = E
  generalize hP : Try.prog = P
  cbv
  refine HIsn.mk fun b hb => ?_
  cbv
  refine Br_iff.2 ⟨fun h1 => ?_, fun h1 => ?_⟩
  · have hx : xs = [] := hb h1
    subst hx
    exact ⟨.gr 1, [.arr T' [.int .i64] [], .arr 3 [.int .i64] []], GFin.of (GSt.nil 0 3 [.int .i64] rfl), hk, rfl, by simp⟩
  · subst hP; subst hE
    simp only [stdE, baseE, decide_eq_true_eq]
    refine ⟨?_, ⟨.gr 1, [.arr T' [.int .i64] xs, .arr 3 [.int .i64] ((xs.take (off + len).toNat).drop off.toNat)], GFin.of (GSt.ren [0, 2] rfl rfl rfl (by decide) (Nat.le_add_left _ _) ?_ ?_), hk, rfl, rfl⟩⟩
    · simp; omega
    · exact ⟨Or.inr rfl, trivial⟩
    · exact ⟨Or.inr rfl, Or.inr rfl, trivial⟩⟩⟩
theorem cloneco32 : CloneCO 3 [.int .i64] Try.prog 32 := ⟨clone32, CloneO.k cloneo32⟩
def vc68 (E : Env) (x1 : Int) (x2 : Int) (x3 : Int) (x4 : Int) (x5 : List (List C)) (Q : List C → Prop) : Prop :=
  Q [.int .i64 (E.sub .i64 x1 (E.mul .i64 2 x2))]
theorem w68 {P : Program} {tbl : FuncId → List A → List C}  {x1 : Int} {x2 : Int} {x3 : Int} {x4 : Int} {x5 : List (List C)} {row : List C} (h : vc68 (stdE P tbl) x1 x2 x3 x4 x5 fun c => c = row) : WPg P tbl rf68 [(false, [.int .i64])] row [.agg [.c (.int .i64 x1), .c (.int .i64 x2), .c (.int .i64 x3), .c (.int .i64 x4), .c (.sl [.int .i64] x5)]] := by
  refine ⟨?_⟩
  revert h
  generalize hE : stdE P tbl = E
  intro h
  unfold vc68 at h
  cbv
  have h : _ = row := h
  subst h
  repeat' (first | exact trivial | exact rfl | refine And.intro ?_ ?_)
def vc38 (E : Env) (x1 : Int) (x2 : Int) (x3 : Int) (x4 : Int) (x5 : List (List C)) (Q : List C → Prop) : Prop :=
  Q [.int .i64 (E.sub .i64 x1 (E.mul .i64 2 x2))]
theorem w38 {P : Program} {tbl : FuncId → List A → List C}  {x1 : Int} {x2 : Int} {x3 : Int} {x4 : Int} {x5 : List (List C)} {row : List C} (h : vc38 (stdE P tbl) x1 x2 x3 x4 x5 fun c => c = row) : WPg P tbl rf38 [(false, [.int .i64])] row [.agg [.c (.int .i64 x1), .c (.int .i64 x2), .c (.int .i64 x3), .c (.int .i64 x4), .c (.sl [.int .i64] x5)]] := by
  refine ⟨?_⟩
  revert h
  generalize hE : stdE P tbl = E
  intro h
  unfold vc38 at h
  cbv
  have h : _ = row := h
  subst h
  repeat' (first | exact trivial | exact rfl | refine And.intro ?_ ?_)
def vc57 (E : Env) (x1 : Int) (x2 : Int) (x3 : Int) (x4 : Int) (x5 : List (List C)) (Q : List C → Prop) : Prop :=
  (Imp (E.not (E.bite (E.bite (E.lt x1 1) true (E.lt 12000 x1)) true (E.lt x2 0))) ((E.eq 2 0) = false)) ∧ 
  (Br (E.bite (E.bite (E.bite (E.bite (E.bite (E.bite (E.bite (E.lt x1 1) true (E.lt 12000 x1)) true (E.lt x2 0)) true (E.lt (E.quo .i64 (E.sub .i64 x1 1) 2) x2)) true (E.lt x3 0)) true (E.lt x1 x3)) true (E.lt x4 1)) true (E.lt 12 x4))
  (Q [.int .i64 1])
  (Br (E.eq (E.len x5) 0)
    (Q [.int .i64 10])
    (Br (E.lt 8 (E.len x5))
      (Q [.int .i64 8])
      (LoopP1 (fun (i6 : Int) (K7 : (Int) → Prop) =>
        Br (E.lt i6 (E.len x5))
          (((E.le 0 i6) = true) ∧ 
            ((Imp (E.not (E.lt (E.gi (E.cell x5 i6 0)) 1)) (E.pok 68 [(false, [.int .i64])] [.agg [.c (.int .i64 x1), .c (.int .i64 x2), .c (.int .i64 x3), .c (.int .i64 x4), .c (.sl [.int .i64] x5)]])) ∧ (∀ r8 : Nat → C, r8 = E.res 68 [.agg [.c (.int .i64 x1), .c (.int .i64 x2), .c (.int .i64 x3), .c (.int .i64 x4), .c (.sl [.int .i64] x5)]] → 
            (Br (E.bite (E.lt (E.gi (E.cell x5 i6 0)) 1) true (E.lt (E.gi (r8 0)) (E.gi (E.cell x5 i6 0))))
            (Q [.int .i64 20])
            (K7 ((E.add .i64 i6 1)))))))
          (LoopP1 (fun (i9 : Int) (K10 : (Int) → Prop) =>
            Br (E.lt i9 (E.len x5))
              (((E.le 0 i9) = true) ∧ 
                (((E.le 0 (E.sub .i64 i9 1)) = true) ∧ ((E.lt (E.sub .i64 i9 1) (E.len x5)) = true) ∧ 
                (Br (E.le (E.gi (E.cell x5 (E.sub .i64 i9 1) 0)) (E.gi (E.cell x5 i9 0)))
                (Q [.int .i64 9])
                (K10 ((E.add .i64 i9 1))))))
              (Q [.int .i64 0]))
            (1)))
        (0)))))
theorem w57 {P : Program} {tbl : FuncId → List A → List C}  {x1 : Int} {x2 : Int} {x3 : Int} {x4 : Int} {x5 : List (List C)} {row : List C} (h : vc57 (stdE P tbl) x1 x2 x3 x4 x5 fun c => c = row) : WPg P tbl rf57 [(false, [.int .i64])] row [.agg [.c (.int .i64 x1), .c (.int .i64 x2), .c (.int .i64 x3), .c (.int .i64 x4), .c (.sl [.int .i64] x5)]] := by
  refine ⟨?_⟩
  revert h
  generalize hE : stdE P tbl = E
  intro h
  unfold vc57 at h
  cbv
  refine ⟨⟨fun hh => (by first | exact hh | trivial)⟩, ?_⟩
  refine ⟨⟨fun hh => (by first | exact hh | trivial)⟩, ?_⟩
  refine ⟨⟨fun hh => (by first | exact hh | trivial)⟩, ?_⟩
  refine ⟨⟨fun hh => (by first | exact hh | trivial)⟩, ?_⟩
  refine ⟨⟨fun hh => (by first | exact hh | trivial)⟩, ?_⟩
  refine ⟨⟨fun hh => (by first | exact hh | trivial)⟩, ?_⟩
  refine ⟨⟨fun hh => (by first | exact hh | trivial)⟩, ?_⟩
  refine ⟨⟨fun hh => (by first | exact hh | trivial)⟩, ?_⟩
  refine ⟨⟨fun hh => (by first | exact hh | trivial)⟩, ?_⟩
  refine ⟨⟨fun hh => (by first | exact hh | trivial)⟩, ?_⟩
  have c11 := h.1
  refine ⟨c11, ?_⟩
  replace h := h.2
  refine ⟨⟨fun hh => (by first | exact hh | trivial)⟩, ?_⟩
  refine ⟨⟨fun hh => (by first | exact hh | trivial)⟩, ?_⟩
  refine ⟨⟨fun hh => (by first | exact hh | trivial)⟩, ?_⟩
  refine ⟨⟨fun hh => (by first | exact hh | trivial)⟩, ?_⟩
  refine ⟨⟨fun hh => (by first | exact hh | trivial)⟩, ?_⟩
  refine ⟨⟨fun hh => (by first | exact hh | trivial)⟩, ?_⟩
  refine ⟨⟨fun hh => (by first | exact hh | trivial)⟩, ?_⟩
  refine ⟨⟨fun hh => (by first | exact hh | trivial)⟩, ?_⟩
  refine ⟨⟨fun hh => (by first | exact hh | trivial)⟩, ?_⟩
  refine ⟨⟨fun hh => (by first | exact hh | trivial)⟩, ?_⟩
  refine ⟨⟨fun hh => (by first | exact hh | trivial)⟩, ?_⟩
  refine ⟨⟨fun hh => (by first | exact hh | trivial)⟩, ?_⟩
  refine ⟨⟨fun hh => (by first | exact hh | trivial)⟩, ?_⟩
  refine ⟨⟨fun hh => (by first | exact hh | trivial)⟩, ?_⟩
  refine ⟨⟨fun hh => (by first | exact hh | trivial)⟩, ?_⟩
  refine ⟨⟨fun hh => (by first | exact hh | trivial)⟩, ?_⟩
  refine ⟨⟨fun hh => (by first | exact hh | trivial)⟩, ?_⟩
  refine ⟨fun hb12 => ?_, fun hb12 => ?_⟩
  · replace h := h.t hb12
    have h : _ = row := h
    subst h
    repeat' (first | exact trivial | exact rfl | refine And.intro ?_ ?_)
  · replace h := h.f hb12
    refine ⟨fun hb13 => ?_, fun hb13 => ?_⟩
    · replace h := h.t hb13
      have h : _ = row := h
      subst h
      repeat' (first | exact trivial | exact rfl | refine And.intro ?_ ?_)
    · replace h := h.f hb13
      refine ⟨fun hb14 => ?_, fun hb14 => ?_⟩
      · replace h := h.t hb14
        have h : _ = row := h
        subst h
        repeat' (first | exact trivial | exact rfl | refine And.intro ?_ ?_)
      · replace h := h.f hb14
        obtain ⟨I, μ, h0, hI⟩ := h
        refine LoopW.inv (fun R R' s h k => RCode.wp_mono _ R R' s h k) (fun p : Int => (fun (i6 : Int) => (⟨[.u, .ptr 0 0, .u, .u, .u, .u, .u, .u, .u, .u, .u, .u, .u, .u, .u, .u, .u, .u, .u, .u, .u, .u, .u, .u, .u, .u, .u, .u, .u, .u, .u, .u, .u, .u, .u, .u, .u, .u, .u, .u, .u, .u, .u, .u, .u, .u, .u, .u, .u, .u, .u, .u, .u, .u, .u, .u, .u, .u, .u, .c (.sl [.int .i64] x5), .c (.int .i64 (E.len x5)), .c (.int .i64 i6), .u, .u, .u, .u, .u, .u, .u, .u, .u, .u, .u, .u, .u, .u, .u, .u, .u, .u, .u, .u, .u, .u, .u, .u, .u, .u, .u, .u, .u, .u, .u], [.box 24 [.c (.int .i64 x1), .c (.int .i64 x2), .c (.int .i64 x3), .c (.int .i64 x4), .c (.sl [.int .i64] x5)]]⟩ : St)) p) (fun p => I p) (fun p => μ p) _ h0 ?_ ?_
        · refine GSt.ren [0] rfl rfl rfl (fun i hi => absurd hi (Nat.not_lt_zero i)) (Nat.zero_le _) ?_ ?_
          all_goals (repeat' (first | exact trivial | exact Or.inl rfl | exact Or.inr rfl | refine And.intro ?_ ?_))
        · rintro i6 h
          replace h := hI i6 h
          cbv
          refine ⟨fun hb15 => ?_, fun hb15 => ?_⟩
          · replace h := h.t hb15
            have c16 := h.1
            refine ⟨c16, ?_⟩
            replace h := h.2
            refine ⟨hb15, ?_⟩
            refine ⟨⟨fun hh => (by first | exact hh | trivial)⟩, ?_⟩
            have c17 := h.1
            refine ⟨c17, ?_⟩
            replace h := h.2 _ rfl
            refine ⟨⟨fun hh => (by first | exact hh | trivial)⟩, ?_⟩
            refine ⟨⟨fun hh => (by first | exact hh | trivial)⟩, ?_⟩
            refine ⟨⟨fun hh => (by first | exact hh | trivial)⟩, ?_⟩
            refine ⟨fun hb18 => ?_, fun hb18 => ?_⟩
            · replace h := h.t hb18
              have h : _ = row := h
              subst h
              repeat' (first | exact trivial | exact rfl | refine And.intro ?_ ?_)
            · replace h := h.f hb18
              refine ⟨_, h.1, GSt.ren [0] rfl rfl rfl (fun i hi => absurd hi (Nat.not_lt_zero i)) (Nat.zero_le _) ?_ ?_, h.2⟩
              all_goals (repeat' (first | exact trivial | exact Or.inl rfl | exact Or.inr rfl | refine And.intro ?_ ?_))
          · replace h := h.f hb15
            obtain ⟨I, μ, h0, hI⟩ := h
            refine LoopW.inv (fun R R' s h k => RCode.wp_mono _ R R' s h k) (fun p : Int => (fun (i9 : Int) => (⟨[.u, .ptr 0 0, .u, .u, .u, .c (.int .i64 i9), .u, .u, .u, .u, .u, .u, .u, .u, .u, .u, .u, .u, .u, .u, .u, .u, .u, .u, .u, .u, .u, .u, .u, .u, .u, .u, .u, .u, .u, .u, .u, .u, .u, .u, .u, .u, .u, .u, .u, .u, .u, .u, .u, .u, .u, .u, .u, .u, .u, .u, .u, .u, .u, .u, .u, .u, .u, .u, .u, .u, .u, .u, .u, .u, .u, .u, .u, .u, .u, .u, .u, .u, .u, .u, .u, .u, .u, .u, .u, .u, .u, .u, .u, .u, .u, .u, .u], [.box 24 [.c (.int .i64 x1), .c (.int .i64 x2), .c (.int .i64 x3), .c (.int .i64 x4), .c (.sl [.int .i64] x5)]]⟩ : St)) p) (fun p => I p) (fun p => μ p) _ h0 ?_ ?_
            · refine GSt.ren [0] rfl rfl rfl (fun i hi => absurd hi (Nat.not_lt_zero i)) (Nat.zero_le _) ?_ ?_
              all_goals (repeat' (first | exact trivial | exact Or.inl rfl | exact Or.inr rfl | refine And.intro ?_ ?_))
            · rintro i9 h
              replace h := hI i9 h
              cbv
              refine ⟨fun hb19 => ?_, fun hb19 => ?_⟩
              · replace h := h.t hb19
                have c20 := h.1
                refine ⟨c20, ?_⟩
                replace h := h.2
                refine ⟨hb19, ?_⟩
                have c21 := h.1
                refine ⟨c21, ?_⟩
                replace h := h.2
                have c22 := h.1
                refine ⟨c22, ?_⟩
                replace h := h.2
                refine ⟨fun hb23 => ?_, fun hb23 => ?_⟩
                · replace h := h.t hb23
                  have h : _ = row := h
                  subst h
                  repeat' (first | exact trivial | exact rfl | refine And.intro ?_ ?_)
                · replace h := h.f hb23
                  refine ⟨_, h.1, GSt.ren [0] rfl rfl rfl (fun i hi => absurd hi (Nat.not_lt_zero i)) (Nat.zero_le _) ?_ ?_, h.2⟩
                  all_goals (repeat' (first | exact trivial | exact Or.inl rfl | exact Or.inr rfl | refine And.intro ?_ ?_))
              · replace h := h.f hb19
                have h : _ = row := h
                subst h
                repeat' (first | exact trivial | exact rfl | refine And.intro ?_ ?_)
def vc59 (E : Env) (x1 : Int) (x2 : Int) (x3 : Int) (x4 : Int) (x5 : List (List C)) (Q : List C → Prop) : Prop :=
  (Imp (E.not (E.bite (E.bite (E.lt x1 1) true (E.lt 12000 x1)) true (E.lt x2 0))) ((E.eq 2 0) = false)) ∧ 
  (Br (E.bite (E.bite (E.bite (E.bite (E.bite (E.bite (E.bite (E.lt x1 1) true (E.lt 12000 x1)) true (E.lt x2 0)) true (E.lt (E.quo .i64 (E.sub .i64 x1 1) 2) x2)) true (E.lt x3 0)) true (E.lt x1 x3)) true (E.lt x4 1)) true (E.lt 12 x4))
  (Q [.int .i64 1])
  (Br (E.eq (E.len x5) 0)
    (Q [.int .i64 10])
    (Br (E.lt 8 (E.len x5))
      (Q [.int .i64 8])
      (LoopP1 (fun (i6 : Int) (K7 : (Int) → Prop) =>
        Br (E.lt i6 (E.len x5))
          (((E.le 0 i6) = true) ∧ 
            ((Imp (E.not (E.lt (E.gi (E.cell x5 i6 0)) 1)) (E.pok 38 [(false, [.int .i64])] [.agg [.c (.int .i64 x1), .c (.int .i64 x2), .c (.int .i64 x3), .c (.int .i64 x4), .c (.sl [.int .i64] x5)]])) ∧ (∀ r8 : Nat → C, r8 = E.res 38 [.agg [.c (.int .i64 x1), .c (.int .i64 x2), .c (.int .i64 x3), .c (.int .i64 x4), .c (.sl [.int .i64] x5)]] → 
            (Br (E.bite (E.lt (E.gi (E.cell x5 i6 0)) 1) true (E.lt (E.gi (r8 0)) (E.gi (E.cell x5 i6 0))))
            (Q [.int .i64 20])
            (K7 ((E.add .i64 i6 1)))))))
          (LoopP1 (fun (i9 : Int) (K10 : (Int) → Prop) =>
            Br (E.lt i9 (E.len x5))
              (((E.le 0 i9) = true) ∧ 
                (((E.le 0 (E.sub .i64 i9 1)) = true) ∧ ((E.lt (E.sub .i64 i9 1) (E.len x5)) = true) ∧ 
                (Br (E.le (E.gi (E.cell x5 (E.sub .i64 i9 1) 0)) (E.gi (E.cell x5 i9 0)))
                (Q [.int .i64 9])
                (K10 ((E.add .i64 i9 1))))))
              (Q [.int .i64 0]))
            (1)))
        (0)))))
theorem w59 {P : Program} {tbl : FuncId → List A → List C}  {x1 : Int} {x2 : Int} {x3 : Int} {x4 : Int} {x5 : List (List C)} {row : List C} (h : vc59 (stdE P tbl) x1 x2 x3 x4 x5 fun c => c = row) : WPg P tbl rf59 [(false, [.int .i64])] row [.agg [.c (.int .i64 x1), .c (.int .i64 x2), .c (.int .i64 x3), .c (.int .i64 x4), .c (.sl [.int .i64] x5)]] := by
  refine ⟨?_⟩
  revert h
  generalize hE : stdE P tbl = E
  intro h
  unfold vc59 at h
  cbv
  refine ⟨⟨fun hh => (by first | exact hh | trivial)⟩, ?_⟩
  refine ⟨⟨fun hh => (by first | exact hh | trivial)⟩, ?_⟩
  refine ⟨⟨fun hh => (by first | exact hh | trivial)⟩, ?_⟩
  refine ⟨⟨fun hh => (by first | exact hh | trivial)⟩, ?_⟩
  refine ⟨⟨fun hh => (by first | exact hh | trivial)⟩, ?_⟩
  refine ⟨⟨fun hh => (by first | exact hh | trivial)⟩, ?_⟩
  refine ⟨⟨fun hh => (by first | exact hh | trivial)⟩, ?_⟩
  refine ⟨⟨fun hh => (by first | exact hh | trivial)⟩, ?_⟩
  refine ⟨⟨fun hh => (by first | exact hh | trivial)⟩, ?_⟩
  refine ⟨⟨fun hh => (by first | exact hh | trivial)⟩, ?_⟩
  have c11 := h.1
  refine ⟨c11, ?_⟩
  replace h := h.2
  refine ⟨⟨fun hh => (by first | exact hh | trivial)⟩, ?_⟩
  refine ⟨⟨fun hh => (by first | exact hh | trivial)⟩, ?_⟩
  refine ⟨⟨fun hh => (by first | exact hh | trivial)⟩, ?_⟩
  refine ⟨⟨fun hh => (by first | exact hh | trivial)⟩, ?_⟩
  refine ⟨⟨fun hh => (by first | exact hh | trivial)⟩, ?_⟩
  refine ⟨⟨fun hh => (by first | exact hh | trivial)⟩, ?_⟩
  refine ⟨⟨fun hh => (by first | exact hh | trivial)⟩, ?_⟩
  refine ⟨⟨fun hh => (by first | exact hh | trivial)⟩, ?_⟩
  refine ⟨⟨fun hh => (by first | exact hh | trivial)⟩, ?_⟩
  refine ⟨⟨fun hh => (by first | exact hh | trivial)⟩, ?_⟩
  refine ⟨⟨fun hh => (by first | exact hh | trivial)⟩, ?_⟩
  refine ⟨⟨fun hh => (by first | exact hh | trivial)⟩, ?_⟩
  refine ⟨⟨fun hh => (by first | exact hh | trivial)⟩, ?_⟩
  refine ⟨⟨fun hh => (by first | exact hh | trivial)⟩, ?_⟩
  refine ⟨⟨fun hh => (by first | exact hh | trivial)⟩, ?_⟩
  refine ⟨⟨fun hh => (by first | exact hh | trivial)⟩, ?_⟩
  refine ⟨⟨fun hh => (by first | exact hh | trivial)⟩, ?_⟩
  refine ⟨fun hb12 => ?_, fun hb12 => ?_⟩
  · replace h := h.t hb12
    have h : _ = row := h
    subst h
    repeat' (first | exact trivial | exact rfl | refine And.intro ?_ ?_)
  · replace h := h.f hb12
    refine ⟨fun hb13 => ?_, fun hb13 => ?_⟩
    · replace h := h.t hb13
      have h : _ = row := h
      subst h
      repeat' (first | exact trivial | exact rfl | refine And.intro ?_ ?_)
    · replace h := h.f hb13
      refine ⟨fun hb14 => ?_, fun hb14 => ?_⟩
      · replace h := h.t hb14
        have h : _ = row := h
        subst h
        repeat' (first | exact trivial | exact rfl | refine And.intro ?_ ?_)
      · replace h := h.f hb14
        obtain ⟨I, μ, h0, hI⟩ := h
        refine LoopW.inv (fun R R' s h k => RCode.wp_mono _ R R' s h k) (fun p : Int => (fun (i6 : Int) => (⟨[.u, .ptr 0 0, .u, .c (.int .i64 i6), .u, .u, .u, .u, .u, .u, .u, .u, .u, .u, .u, .u, .u, .u, .u, .u, .u, .u, .u, .u, .u, .u, .u, .u, .u, .u, .u, .u, .u, .u, .u, .u, .u, .u, .u, .u, .u, .u, .u, .u, .u, .u, .u, .u, .u, .u, .u, .u, .u, .u, .u, .u, .u, .u, .u, .u, .u, .u, .u, .u, .u, .u, .u, .u, .u, .u, .u, .u, .u, .u, .u, .u, .u, .u, .u, .u, .u, .u, .u, .u, .u, .u, .u, .u, .u, .u, .u, .u, .u, .u, .u, .u, .u, .u, .u], [.box 24 [.c (.int .i64 x1), .c (.int .i64 x2), .c (.int .i64 x3), .c (.int .i64 x4), .c (.sl [.int .i64] x5)]]⟩ : St)) p) (fun p => I p) (fun p => μ p) _ h0 ?_ ?_
        · refine GSt.ren [0] rfl rfl rfl (fun i hi => absurd hi (Nat.not_lt_zero i)) (Nat.zero_le _) ?_ ?_
          all_goals (repeat' (first | exact trivial | exact Or.inl rfl | exact Or.inr rfl | refine And.intro ?_ ?_))
        · rintro i6 h
          replace h := hI i6 h
          cbv
          refine ⟨fun hb15 => ?_, fun hb15 => ?_⟩
          · replace h := h.t hb15
            have c16 := h.1
            refine ⟨c16, ?_⟩
            replace h := h.2
            refine ⟨hb15, ?_⟩
            refine ⟨⟨fun hh => (by first | exact hh | trivial)⟩, ?_⟩
            refine ⟨⟨fun hh => (by first | exact hh | trivial)⟩, ?_⟩
            refine ⟨⟨fun hh => (by first | exact hh | trivial)⟩, ?_⟩
            refine ⟨⟨fun _ => c16⟩, ?_⟩
            refine ⟨⟨fun _ => hb15⟩, ?_⟩
            refine ⟨⟨fun hh => (by first | exact hh | trivial)⟩, ?_⟩
            refine ⟨⟨fun hh => (by first | exact hh | trivial)⟩, ?_⟩
            have c17 := h.1
            refine ⟨c17, ?_⟩
            replace h := h.2 _ rfl
            refine ⟨⟨fun hh => (by first | exact hh | trivial)⟩, ?_⟩
            refine ⟨⟨fun hh => (by first | exact hh | trivial)⟩, ?_⟩
            refine ⟨⟨fun hh => (by first | exact hh | trivial)⟩, ?_⟩
            refine ⟨fun hb18 => ?_, fun hb18 => ?_⟩
            · replace h := h.t hb18
              have h : _ = row := h
              subst h
              repeat' (first | exact trivial | exact rfl | refine And.intro ?_ ?_)
            · replace h := h.f hb18
              refine ⟨_, h.1, GSt.ren [0] rfl rfl rfl (fun i hi => absurd hi (Nat.not_lt_zero i)) (Nat.zero_le _) ?_ ?_, h.2⟩
              all_goals (repeat' (first | exact trivial | exact Or.inl rfl | exact Or.inr rfl | refine And.intro ?_ ?_))
          · replace h := h.f hb15
            obtain ⟨I, μ, h0, hI⟩ := h
            refine LoopW.inv (fun R R' s h k => RCode.wp_mono _ R R' s h k) (fun p : Int => (fun (i9 : Int) => (⟨[.u, .ptr 0 0, .u, .u, .c (.int .i64 i9), .u, .u, .u, .u, .u, .u, .u, .u, .u, .u, .u, .u, .u, .u, .u, .u, .u, .u, .u, .u, .u, .u, .u, .u, .u, .u, .u, .u, .u, .u, .u, .u, .u, .u, .u, .u, .u, .u, .u, .u, .u, .u, .u, .u, .u, .u, .u, .u, .u, .u, .u, .u, .u, .u, .u, .u, .u, .u, .u, .u, .u, .u, .u, .u, .u, .u, .u, .u, .u, .u, .u, .u, .u, .u, .u, .u, .u, .u, .u, .u, .u, .u, .u, .u, .u, .u, .u, .u, .u, .u, .u, .u, .u, .u], [.box 24 [.c (.int .i64 x1), .c (.int .i64 x2), .c (.int .i64 x3), .c (.int .i64 x4), .c (.sl [.int .i64] x5)]]⟩ : St)) p) (fun p => I p) (fun p => μ p) _ h0 ?_ ?_
            · refine GSt.ren [0] rfl rfl rfl (fun i hi => absurd hi (Nat.not_lt_zero i)) (Nat.zero_le _) ?_ ?_
              all_goals (repeat' (first | exact trivial | exact Or.inl rfl | exact Or.inr rfl | refine And.intro ?_ ?_))
            · rintro i9 h
              replace h := hI i9 h
              cbv
              refine ⟨fun hb19 => ?_, fun hb19 => ?_⟩
              · replace h := h.t hb19
                have c20 := h.1
                refine ⟨c20, ?_⟩
                replace h := h.2
                refine ⟨hb19, ?_⟩
                have c21 := h.1
                refine ⟨c21, ?_⟩
                replace h := h.2
                have c22 := h.1
                refine ⟨c22, ?_⟩
                replace h := h.2
                refine ⟨fun hb23 => ?_, fun hb23 => ?_⟩
                · replace h := h.t hb23
                  have h : _ = row := h
                  subst h
                  repeat' (first | exact trivial | exact rfl | refine And.intro ?_ ?_)
                · replace h := h.f hb23
                  refine ⟨_, h.1, GSt.ren [0] rfl rfl rfl (fun i hi => absurd hi (Nat.not_lt_zero i)) (Nat.zero_le _) ?_ ?_, h.2⟩
                  all_goals (repeat' (first | exact trivial | exact Or.inl rfl | exact Or.inr rfl | refine And.intro ?_ ?_))
              · replace h := h.f hb19
                have h : _ = row := h
                subst h
                repeat' (first | exact trivial | exact rfl | refine And.intro ?_ ?_)
def vc70 (E : Env) (x1 : List (List C)) (Q : List C → Prop) : Prop :=
  Br (E.lt (E.len x1) 1)
  (False)
  (((E.le 0 0) = true) ∧ ((E.lt 0 (E.len x1)) = true) ∧ 
    (LoopP2 (fun (i2 : Int) (i3 : Int) (K4 : (Int) → (Int) → Prop) =>
    Br (E.lt i3 (E.len x1))
      (((E.le 0 i3) = true) ∧ 
        (K4 ((E.min i2 (E.gi (E.cell x1 i3 0)))) ((E.add .i64 i3 1))))
      (Q [.int .i64 i2]))
    ((E.gi (E.cell x1 0 0))) (1)))
theorem w70 {P : Program} {tbl : FuncId → List A → List C}  {x1 : List (List C)} {row : List C} (h : vc70 (stdE P tbl) x1 fun c => c = row) : WPg P tbl rf70 [(false, [.int .i64])] row [.c (.sl [.int .i64] x1)] := by
  refine ⟨?_⟩
  revert h
  generalize hE : stdE P tbl = E
  intro h
  unfold vc70 at h
  cbv
  refine ⟨fun hb5 => ?_, fun hb5 => ?_⟩
  · replace h := h.t hb5
    exact h.elim
  · replace h := h.f hb5
    have c6 := h.1
    refine ⟨c6, ?_⟩
    replace h := h.2
    have c7 := h.1
    refine ⟨c7, ?_⟩
    replace h := h.2
    obtain ⟨I, μ, h0, hI⟩ := h
    refine LoopW.inv (fun R R' s h k => RCode.wp_mono _ R R' s h k) (fun p : Int × Int => (fun (i2 : Int) (i3 : Int) => (⟨[.c (.sl [.int .i64] x1), .u, .u, .c (.int .i64 i2), .c (.int .i64 i3), .u, .u, .u, .u, .u, .u, .u, .u, .u, .u, .u, .u, .u, .u, .u, .u, .u, .u, .u, .u], []⟩ : St)) p.1 p.2) (fun p => I p.1 p.2) (fun p => μ p.1 p.2) (_, _) h0 ?_ ?_
    · refine GSt.ren [] rfl rfl rfl (fun i hi => absurd hi (Nat.not_lt_zero i)) (Nat.zero_le _) ?_ ?_
      all_goals (repeat' (first | exact trivial | exact Or.inl rfl | exact Or.inr rfl | refine And.intro ?_ ?_))
    · rintro ⟨i2, i3⟩ h
      replace h := hI i2 i3 h
      cbv
      refine ⟨fun hb8 => ?_, fun hb8 => ?_⟩
      · replace h := h.t hb8
        have c9 := h.1
        refine ⟨c9, ?_⟩
        replace h := h.2
        refine ⟨hb8, ?_⟩
        refine ⟨(_, _), h.1, GSt.ren [] rfl rfl rfl (fun i hi => absurd hi (Nat.not_lt_zero i)) (Nat.zero_le _) ?_ ?_, h.2⟩
        all_goals (repeat' (first | exact trivial | exact Or.inl rfl | exact Or.inr rfl | refine And.intro ?_ ?_))
      · replace h := h.f hb8
        have h : _ = row := h
        subst h
        repeat' (first | exact trivial | exact rfl | refine And.intro ?_ ?_)
def vc71 (E : Env) (x1 : List (List C)) (Q : List C → Prop) : Prop :=
  Br (E.lt (E.len x1) 1)
  (False)
  (((E.le 0 0) = true) ∧ ((E.lt 0 (E.len x1)) = true) ∧ 
    (LoopP2 (fun (i2 : Int) (i3 : Int) (K4 : (Int) → (Int) → Prop) =>
    Br (E.lt i3 (E.len x1))
      (((E.le 0 i3) = true) ∧ 
        (K4 ((E.max i2 (E.gi (E.cell x1 i3 0)))) ((E.add .i64 i3 1))))
      (Q [.int .i64 i2]))
    ((E.gi (E.cell x1 0 0))) (1)))
theorem w71 {P : Program} {tbl : FuncId → List A → List C}  {x1 : List (List C)} {row : List C} (h : vc71 (stdE P tbl) x1 fun c => c = row) : WPg P tbl rf71 [(false, [.int .i64])] row [.c (.sl [.int .i64] x1)] := by
  refine ⟨?_⟩
  revert h
  generalize hE : stdE P tbl = E
  intro h
  unfold vc71 at h
  cbv
  refine ⟨fun hb5 => ?_, fun hb5 => ?_⟩
  · replace h := h.t hb5
    exact h.elim
  · replace h := h.f hb5
    have c6 := h.1
    refine ⟨c6, ?_⟩
    replace h := h.2
    have c7 := h.1
    refine ⟨c7, ?_⟩
    replace h := h.2
    obtain ⟨I, μ, h0, hI⟩ := h
    refine LoopW.inv (fun R R' s h k => RCode.wp_mono _ R R' s h k) (fun p : Int × Int => (fun (i2 : Int) (i3 : Int) => (⟨[.c (.sl [.int .i64] x1), .u, .u, .c (.int .i64 i2), .c (.int .i64 i3), .u, .u, .u, .u, .u, .u, .u, .u, .u, .u, .u, .u, .u, .u, .u, .u, .u, .u, .u, .u], []⟩ : St)) p.1 p.2) (fun p => I p.1 p.2) (fun p => μ p.1 p.2) (_, _) h0 ?_ ?_
    · refine GSt.ren [] rfl rfl rfl (fun i hi => absurd hi (Nat.not_lt_zero i)) (Nat.zero_le _) ?_ ?_
      all_goals (repeat' (first | exact trivial | exact Or.inl rfl | exact Or.inr rfl | refine And.intro ?_ ?_))
    · rintro ⟨i2, i3⟩ h
      replace h := hI i2 i3 h
      cbv
      refine ⟨fun hb8 => ?_, fun hb8 => ?_⟩
      · replace h := h.t hb8
        have c9 := h.1
        refine ⟨c9, ?_⟩
        replace h := h.2
        refine ⟨hb8, ?_⟩
        refine ⟨(_, _), h.1, GSt.ren [] rfl rfl rfl (fun i hi => absurd hi (Nat.not_lt_zero i)) (Nat.zero_le _) ?_ ?_, h.2⟩
        all_goals (repeat' (first | exact trivial | exact Or.inl rfl | exact Or.inr rfl | refine And.intro ?_ ?_))
      · replace h := h.f hb8
        have h : _ = row := h
        subst h
        repeat' (first | exact trivial | exact rfl | refine And.intro ?_ ?_)
def vc61 (E : Env) (x1 : Int) (x2 : Int) (x3 : Int) (x4 : Int) (x5 : List (List C)) (x6 : List (List C)) (Q : List C → Prop) : Prop :=
  Br (E.not (E.eq (E.len x6) (E.len x5)))
  (Q [.int .i64 0, .int .i64 0, .int .i64 3])
  ((E.pok 70 [(false, [.int .i64])] [.c (.sl [.int .i64] x6)]) ∧ (∀ r7 : Nat → C, r7 = E.res 70 [.c (.sl [.int .i64] x6)] → 
    (Br (E.lt (E.gi (r7 0)) 0)
    (Q [.int .i64 0, .int .i64 0, .int .i64 1])
    ((E.pok 71 [(false, [.int .i64])] [.c (.sl [.int .i64] x6)]) ∧ (∀ r8 : Nat → C, r8 = E.res 71 [.c (.sl [.int .i64] x6)] → 
      (Br (E.eq (E.gi (r8 0)) 0)
      (Q [.int .i64 0, .int .i64 0, .int .i64 10])
      ((E.pok 68 [(false, [.int .i64])] [.agg [.c (.int .i64 x1), .c (.int .i64 x2), .c (.int .i64 x3), .c (.int .i64 x4), .c (.sl [.int .i64] x5)]]) ∧ (∀ r9 : Nat → C, r9 = E.res 68 [.agg [.c (.int .i64 x1), .c (.int .i64 x2), .c (.int .i64 x3), .c (.int .i64 x4), .c (.sl [.int .i64] x5)]] → 
        (LoopP3 (fun (i10 : Int) (i11 : Int) (i12 : Int) (K13 : (Int) → (Int) → (Int) → Prop) =>
        Br (E.lt i12 (E.len x6))
          (((E.le 0 i12) = true) ∧ 
            (Br (E.lt (E.sub .i64 x4 i10) (E.gi (E.cell x6 i12 0)))
            (Q [.int .i64 0, .int .i64 0, .int .i64 23])
            (((E.lt i12 (E.len x5)) = true) ∧ 
              (K13 ((E.add .i64 i10 (E.gi (E.cell x6 i12 0)))) ((E.sub .i64 i11 (E.mul .i64 (E.gi (E.cell x6 i12 0)) (E.gi (E.cell x5 i12 0))))) ((E.add .i64 i12 1))))))
          (Br (E.lt i11 0)
            (Q [.int .i64 0, .int .i64 0, .int .i64 20])
            (Br (E.lt x3 i11)
              (Q [.int .i64 0, .int .i64 0, .int .i64 24])
              (Q [.int .i64 i10, .int .i64 i11, .int .i64 0]))))
        (0) ((E.gi (r9 0))) (0))))))))))
theorem w61 {P : Program} {tbl : FuncId → List A → List C}  {x1 : Int} {x2 : Int} {x3 : Int} {x4 : Int} {x5 : List (List C)} {x6 : List (List C)} {row : List C} (h : vc61 (stdE P tbl) x1 x2 x3 x4 x5 x6 fun c => c = row) : WPg P tbl rf61 [(false, [.int .i64]), (false, [.int .i64]), (false, [.int .i64])] row [.agg [.c (.int .i64 x1), .c (.int .i64 x2), .c (.int .i64 x3), .c (.int .i64 x4), .c (.sl [.int .i64] x5)], .c (.sl [.int .i64] x6)] := by
  refine ⟨?_⟩
  revert h
  generalize hE : stdE P tbl = E
  intro h
  unfold vc61 at h
  cbv
  refine ⟨fun hb14 => ?_, fun hb14 => ?_⟩
  · replace h := h.t hb14
    have h : _ = row := h
    subst h
    repeat' (first | exact trivial | exact rfl | refine And.intro ?_ ?_)
  · replace h := h.f hb14
    have c15 := h.1
    refine ⟨c15, ?_⟩
    replace h := h.2 _ rfl
    refine ⟨fun hb16 => ?_, fun hb16 => ?_⟩
    · replace h := h.t hb16
      have h : _ = row := h
      subst h
      repeat' (first | exact trivial | exact rfl | refine And.intro ?_ ?_)
    · replace h := h.f hb16
      have c17 := h.1
      refine ⟨c17, ?_⟩
      replace h := h.2 _ rfl
      refine ⟨fun hb18 => ?_, fun hb18 => ?_⟩
      · replace h := h.t hb18
        have h : _ = row := h
        subst h
        repeat' (first | exact trivial | exact rfl | refine And.intro ?_ ?_)
      · replace h := h.f hb18
        have c19 := h.1
        refine ⟨c19, ?_⟩
        replace h := h.2 _ rfl
        obtain ⟨I, μ, h0, hI⟩ := h
        refine LoopW.inv (fun R R' s h k => RCode.wp_mono _ R R' s h k) (fun p : Int × Int × Int => (fun (i10 : Int) (i11 : Int) (i12 : Int) => (⟨[.u, .u, .ptr 0 0, .u, .u, .u, .u, .c (.int .i64 i10), .c (.int .i64 i11), .u, .u, .u, .u, .u, .u, .u, .u, .u, .u, .u, .u, .u, .u, .u, .u, .c (.sl [.int .i64] x6), .c (.int .i64 (E.len x6)), .c (.int .i64 i12), .u, .u, .u, .u, .u, .u, .u, .u, .u, .u, .u, .u, .u, .u, .u, .u, .u, .u, .u, .u, .u, .u, .u, .u, .u, .u, .u, .u, .u, .u, .u], [.box 24 [.c (.int .i64 x1), .c (.int .i64 x2), .c (.int .i64 x3), .c (.int .i64 x4), .c (.sl [.int .i64] x5)]]⟩ : St)) p.1 p.2.1 p.2.2) (fun p => I p.1 p.2.1 p.2.2) (fun p => μ p.1 p.2.1 p.2.2) (_, _, _) h0 ?_ ?_
        · refine GSt.ren [0] rfl rfl rfl (fun i hi => absurd hi (Nat.not_lt_zero i)) (Nat.zero_le _) ?_ ?_
          all_goals (repeat' (first | exact trivial | exact Or.inl rfl | exact Or.inr rfl | refine And.intro ?_ ?_))
        · rintro ⟨i10, i11, i12⟩ h
          replace h := hI i10 i11 i12 h
          cbv
          refine ⟨fun hb20 => ?_, fun hb20 => ?_⟩
          · replace h := h.t hb20
            have c21 := h.1
            refine ⟨c21, ?_⟩
            replace h := h.2
            refine ⟨hb20, ?_⟩
            refine ⟨fun hb22 => ?_, fun hb22 => ?_⟩
            · replace h := h.t hb22
              have h : _ = row := h
              subst h
              repeat' (first | exact trivial | exact rfl | refine And.intro ?_ ?_)
            · replace h := h.f hb22
              refine ⟨c21, ?_⟩
              have c23 := h.1
              refine ⟨c23, ?_⟩
              replace h := h.2
              refine ⟨(_, _, _), h.1, GSt.ren [0] rfl rfl rfl (fun i hi => absurd hi (Nat.not_lt_zero i)) (Nat.zero_le _) ?_ ?_, h.2⟩
              all_goals (repeat' (first | exact trivial | exact Or.inl rfl | exact Or.inr rfl | refine And.intro ?_ ?_))
          · replace h := h.f hb20
            refine ⟨fun hb24 => ?_, fun hb24 => ?_⟩
            · replace h := h.t hb24
              have h : _ = row := h
              subst h
              repeat' (first | exact trivial | exact rfl | refine And.intro ?_ ?_)
            · replace h := h.f hb24
              refine ⟨fun hb25 => ?_, fun hb25 => ?_⟩
              · replace h := h.t hb25
                have h : _ = row := h
                subst h
                repeat' (first | exact trivial | exact rfl | refine And.intro ?_ ?_)
              · replace h := h.f hb25
                have h : _ = row := h
                subst h
                repeat' (first | exact trivial | exact rfl | refine And.intro ?_ ?_)
def vc44 (E : Env) (x1 : Int) (x2 : Int) (x3 : Int) (x4 : Int) (x5 : List (List C)) (x6 : List (List C)) (Q : List C → Prop) : Prop :=
  Br (E.not (E.eq (E.len x6) (E.len x5)))
  (Q [.int .i64 3])
  (LoopP1 (fun (i7 : Int) (K8 : (Int) → Prop) =>
    Br (E.lt i7 (E.len x6))
      (((E.le 0 i7) = true) ∧ 
        (Br (E.lt (E.gi (E.cell x6 i7 0)) 0)
        (Q [.int .i64 1])
        (K8 ((E.add .i64 i7 1)))))
      (LoopP3 (fun (i9 : Int) (i10 : Int) (i11 : Int) (K12 : (Int) → (Int) → (Int) → Prop) =>
        Br (E.lt i11 (E.len x6))
          (((E.le 0 i11) = true) ∧ 
            (((E.lt i11 (E.len x5)) = true) ∧ 
            (K12 ((E.add .i64 i9 (E.min (E.gi (E.cell x6 i11 0)) 12001))) ((E.add .i64 i10 (E.mul .i64 (E.min (E.gi (E.cell x6 i11 0)) 12001) (E.gi (E.cell x5 i11 0))))) ((E.add .i64 i11 1)))))
          (Br (E.eq i9 0)
            (Q [.int .i64 10])
            (Br (E.lt x4 i9)
              (Q [.int .i64 23])
              ((E.pok 38 [(false, [.int .i64])] [.agg [.c (.int .i64 x1), .c (.int .i64 x2), .c (.int .i64 x3), .c (.int .i64 x4), .c (.sl [.int .i64] x5)]]) ∧ (∀ r13 : Nat → C, r13 = E.res 38 [.agg [.c (.int .i64 x1), .c (.int .i64 x2), .c (.int .i64 x3), .c (.int .i64 x4), .c (.sl [.int .i64] x5)]] → 
                (Br (E.lt (E.gi (r13 0)) i10)
                (Q [.int .i64 20])
                ((∀ r14 : Nat → C, r14 = E.res 38 [.agg [.c (.int .i64 x1), .c (.int .i64 x2), .c (.int .i64 x3), .c (.int .i64 x4), .c (.sl [.int .i64] x5)]] → 
                  (Br (E.lt x3 (E.sub .i64 (E.gi (r14 0)) i10))
                  (Q [.int .i64 24])
                  (Q [.int .i64 0]))))))))))
        (0) (0) (0)))
    (0))
theorem w44 {P : Program} {tbl : FuncId → List A → List C}  {x1 : Int} {x2 : Int} {x3 : Int} {x4 : Int} {x5 : List (List C)} {x6 : List (List C)} {row : List C} (h : vc44 (stdE P tbl) x1 x2 x3 x4 x5 x6 fun c => c = row) : WPg P tbl rf44 [(false, [.int .i64])] row [.agg [.c (.int .i64 x1), .c (.int .i64 x2), .c (.int .i64 x3), .c (.int .i64 x4), .c (.sl [.int .i64] x5)], .c (.sl [.int .i64] x6)] := by
  refine ⟨?_⟩
  revert h
  generalize hE : stdE P tbl = E
  intro h
  unfold vc44 at h
  cbv
  refine ⟨fun hb15 => ?_, fun hb15 => ?_⟩
  · replace h := h.t hb15
    have h : _ = row := h
    subst h
    repeat' (first | exact trivial | exact rfl | refine And.intro ?_ ?_)
  · replace h := h.f hb15
    obtain ⟨I, μ, h0, hI⟩ := h
    refine LoopW.inv (fun R R' s h k => RCode.wp_mono _ R R' s h k) (fun p : Int => (fun (i7 : Int) => (⟨[.u, .c (.sl [.int .i64] x6), .ptr 0 0, .u, .u, .c (.int .i64 i7), .u, .u, .u, .u, .u, .u, .u, .u, .u, .u, .u, .u, .u, .u, .u, .u, .u, .u, .u, .u, .u, .u, .u, .u, .u, .u, .u, .u, .u, .u, .u, .u, .u, .u, .u, .u, .u, .u, .u, .u, .u, .u, .u, .u, .u, .u, .u, .u, .u, .u, .u, .u, .u, .u, .u, .u, .u, .u, .u, .u, .u], [.box 24 [.c (.int .i64 x1), .c (.int .i64 x2), .c (.int .i64 x3), .c (.int .i64 x4), .c (.sl [.int .i64] x5)]]⟩ : St)) p) (fun p => I p) (fun p => μ p) _ h0 ?_ ?_
    · refine GSt.ren [0] rfl rfl rfl (fun i hi => absurd hi (Nat.not_lt_zero i)) (Nat.zero_le _) ?_ ?_
      all_goals (repeat' (first | exact trivial | exact Or.inl rfl | exact Or.inr rfl | refine And.intro ?_ ?_))
    · rintro i7 h
      replace h := hI i7 h
      cbv
      refine ⟨fun hb16 => ?_, fun hb16 => ?_⟩
      · replace h := h.t hb16
        have c17 := h.1
        refine ⟨c17, ?_⟩
        replace h := h.2
        refine ⟨hb16, ?_⟩
        refine ⟨fun hb18 => ?_, fun hb18 => ?_⟩
        · replace h := h.t hb18
          have h : _ = row := h
          subst h
          repeat' (first | exact trivial | exact rfl | refine And.intro ?_ ?_)
        · replace h := h.f hb18
          refine ⟨_, h.1, GSt.ren [0] rfl rfl rfl (fun i hi => absurd hi (Nat.not_lt_zero i)) (Nat.zero_le _) ?_ ?_, h.2⟩
          all_goals (repeat' (first | exact trivial | exact Or.inl rfl | exact Or.inr rfl | refine And.intro ?_ ?_))
      · replace h := h.f hb16
        obtain ⟨I, μ, h0, hI⟩ := h
        refine LoopW.inv (fun R R' s h k => RCode.wp_mono _ R R' s h k) (fun p : Int × Int × Int => (fun (i9 : Int) (i10 : Int) (i11 : Int) => (⟨[.u, .c (.sl [.int .i64] x6), .ptr 0 0, .u, .u, .u, .c (.int .i64 i9), .c (.int .i64 i10), .c (.int .i64 i11), .u, .u, .u, .u, .u, .u, .u, .u, .u, .u, .u, .u, .u, .u, .u, .u, .u, .u, .u, .u, .u, .u, .u, .u, .u, .u, .u, .u, .u, .u, .u, .u, .u, .u, .u, .u, .u, .u, .u, .u, .u, .u, .u, .u, .u, .u, .u, .u, .u, .u, .u, .u, .u, .u, .u, .u, .u, .u], [.box 24 [.c (.int .i64 x1), .c (.int .i64 x2), .c (.int .i64 x3), .c (.int .i64 x4), .c (.sl [.int .i64] x5)]]⟩ : St)) p.1 p.2.1 p.2.2) (fun p => I p.1 p.2.1 p.2.2) (fun p => μ p.1 p.2.1 p.2.2) (_, _, _) h0 ?_ ?_
        · refine GSt.ren [0] rfl rfl rfl (fun i hi => absurd hi (Nat.not_lt_zero i)) (Nat.zero_le _) ?_ ?_
          all_goals (repeat' (first | exact trivial | exact Or.inl rfl | exact Or.inr rfl | refine And.intro ?_ ?_))
        · rintro ⟨i9, i10, i11⟩ h
          replace h := hI i9 i10 i11 h
          cbv
          refine ⟨fun hb19 => ?_, fun hb19 => ?_⟩
          · replace h := h.t hb19
            have c20 := h.1
            refine ⟨c20, ?_⟩
            replace h := h.2
            refine ⟨hb19, ?_⟩
            refine ⟨c20, ?_⟩
            have c21 := h.1
            refine ⟨c21, ?_⟩
            replace h := h.2
            refine ⟨(_, _, _), h.1, GSt.ren [0] rfl rfl rfl (fun i hi => absurd hi (Nat.not_lt_zero i)) (Nat.zero_le _) ?_ ?_, h.2⟩
            all_goals (repeat' (first | exact trivial | exact Or.inl rfl | exact Or.inr rfl | refine And.intro ?_ ?_))
          · replace h := h.f hb19
            refine ⟨fun hb22 => ?_, fun hb22 => ?_⟩
            · replace h := h.t hb22
              have h : _ = row := h
              subst h
              repeat' (first | exact trivial | exact rfl | refine And.intro ?_ ?_)
            · replace h := h.f hb22
              refine ⟨fun hb23 => ?_, fun hb23 => ?_⟩
              · replace h := h.t hb23
                have h : _ = row := h
                subst h
                repeat' (first | exact trivial | exact rfl | refine And.intro ?_ ?_)
              · replace h := h.f hb23
                have c24 := h.1
                refine ⟨c24, ?_⟩
                replace h := h.2 _ rfl
                refine ⟨fun hb25 => ?_, fun hb25 => ?_⟩
                · replace h := h.t hb25
                  have h : _ = row := h
                  subst h
                  repeat' (first | exact trivial | exact rfl | refine And.intro ?_ ?_)
                · replace h := h.f hb25
                  refine ⟨c24, ?_⟩
                  replace h := h _ rfl
                  refine ⟨fun hb26 => ?_, fun hb26 => ?_⟩
                  · replace h := h.t hb26
                    have h : _ = row := h
                    subst h
                    repeat' (first | exact trivial | exact rfl | refine And.intro ?_ ?_)
                  · replace h := h.f hb26
                    have h : _ = row := h
                    subst h
                    repeat' (first | exact trivial | exact rfl | refine And.intro ?_ ?_)
def vc69 (E : Env) (nR : Nat) (x1 : Int) (x2 : Int) (x3 : Int) (x4 : List (List C)) (x5 : Int) (x6 : List (List C)) (x7 : Int) (x8 : Int) (x9 : Int) (x10 : Int) (x11 : List (List C)) (Q0 : (List (List C)) → (List (List C)) → Prop) : Prop :=
  Br (E.le x5 (E.len x4))
  (Q0 (x4) (x6))
  (Br (E.eq x1 (E.len x6))
    (Br (E.bite (E.le x3 x9) (E.lt x2 x10) false)
      (spCloneK (x6) (0) ((x6.length : Int)) (fun (l3 : List (List C)) => 
        ((E.le (E.pl (E.len x4) (E.len [[.sl [.int .i64] l3]])) 5864062014805) = true) ∧ 
          (Q0 ((E.cat x4 [[.sl [.int .i64] l3]])) (x6))))
      (Q0 (x4) (x6)))
    (((E.le 0 x1) = true) ∧ ((E.lt x1 (E.len x11)) = true) ∧ 
      (Br (E.lt x9 (E.sub .i64 x3 (E.mul .i64 x2 (E.gi (E.cell x11 x1 0)))))
      (Q0 (x4) (x6))
      (((E.eq (E.gi (E.cell x11 x1 0)) 0) = false) ∧ 
        (LoopP3 (fun (l4 : List (List C)) (l5 : List (List C)) (i6 : Int) (K7 : (List (List C)) → (List (List C)) → (Int) → Prop) =>
        Br (E.le 0 i6)
          (((E.lt x1 (E.len l5)) = true) ∧ 
            (spLs nR ((E.add .i64 x1 1)) ((E.sub .i64 x2 i6)) ((E.sub .i64 x3 (E.mul .i64 i6 (E.gi (E.cell x11 x1 0))))) (l4) (x5) ((E.upd l5 x1 0 (.int .i64 i6))) (x7) (x8) (x9) (x10) (x11) (fun (l8 : List (List C)) (l9 : List (List C)) => 
            K7 (l8) (l9) ((E.sub .i64 i6 1)))))
          (((E.lt x1 (E.len l5)) = true) ∧ 
            (Q0 (l4) ((E.upd l5 x1 0 (.int .i64 0))))))
        (x4) (x6) ((E.min x2 (E.quo .i64 x3 (E.gi (E.cell x11 x1 0))))))))))
theorem w69 {P : Program} {tbl : FuncId → List A → List C} {nR : Nat} {x1 : Int} {x2 : Int} {x3 : Int} {x4 : List (List C)} {x5 : Int} {x6 : List (List C)} {x7 : Int} {x8 : Int} {x9 : Int} {x10 : Int} {x11 : List (List C)} (ce32 : CloneCO 3 [.int .i64] P 32) (ce69 : ListC nR P 69) {Q0 : (List (List C)) → (List (List C)) → Prop} (h : vc69 (stdE P tbl) nR x1 x2 x3 x4 x5 x6 x7 x8 x9 x10 x11 Q0) : WEg P tbl rf69 (fun r H' => (∃ l1 : List (List C), ∃ l2 : List (List C), Q0 l1 l2 ∧ r = .tup [] ∧ H' = [.box 26 [.gr 7], .dead, .box 3 [.c (.int .i64 x5)], .box 22 [.gr 4], .arr 3 [.int .i64] l2, .box 24 [.c (.int .i64 x7), .c (.int .i64 x8), .c (.int .i64 x9), .c (.int .i64 x10), .c (.sl [.int .i64] x11)], .box 94 [.fn 69 [.ptr 0 0, .ptr 2 0, .ptr 3 0, .ptr 5 0, .ptr 6 0]], .arr 22 [.sl [.int .i64]] l1])) [.c (.int .i64 x1), .c (.int .i64 x2), .c (.int .i64 x3), .ptr 0 0, .ptr 2 0, .ptr 3 0, .ptr 5 0, .ptr 6 0] [.box 26 [.gr 1], .arr 22 [.sl [.int .i64]] x4, .box 3 [.c (.int .i64 x5)], .box 22 [.gr 4], .arr 3 [.int .i64] x6, .box 24 [.c (.int .i64 x7), .c (.int .i64 x8), .c (.int .i64 x9), .c (.int .i64 x10), .c (.sl [.int .i64] x11)], .box 94 [.fn 69 [.ptr 0 0, .ptr 2 0, .ptr 3 0, .ptr 5 0, .ptr 6 0]]] := by
  refine ⟨?_⟩
  revert h
  generalize hE : stdE P tbl = E
  intro h
  unfold vc69 at h
  cbv
  refine ⟨fun hb10 => ?_, fun hb10 => ?_⟩
  · replace h := h.t hb10
    refine ⟨_, _, GFin.of (GSt.trans (s' := (⟨[.tup []], [.box 26 [.gr 7], .dead, .box 3 [.c (.int .i64 x5)], .box 22 [.gr 4], .arr 3 [.int .i64] x6, .box 24 [.c (.int .i64 x7), .c (.int .i64 x8), .c (.int .i64 x9), .c (.int .i64 x10), .c (.sl [.int .i64] x11)], .box 94 [.fn 69 [.ptr 0 0, .ptr 2 0, .ptr 3 0, .ptr 5 0, .ptr 6 0]], .arr 22 [.sl [.int .i64]] x4]⟩ : St)) (GSt.mvBox 0 0 1 (Tb := 26) (T := 22) (cs := [.gr 1]) (lay := [.sl [.int .i64]]) (xs := x4) rfl rfl rfl) (GSt.ren [0, 1, 2, 3, 4, 5, 6, 7] rfl rfl rfl (by decide) (Nat.le_add_left _ _) ?_ ?_)), ⟨_, _, h, rfl, rfl⟩⟩
    all_goals (repeat' (first | exact trivial | exact Or.inl rfl | exact Or.inr rfl | refine And.intro ?_ ?_))
  · replace h := h.f hb10
    refine ⟨fun hb11 => ?_, fun hb11 => ?_⟩
    · replace h := h.t hb11
      refine ⟨⟨fun hh => (by first | exact hh | trivial)⟩, ?_⟩
      refine ⟨⟨fun hh => (by first | exact hh | trivial)⟩, ?_⟩
      refine ⟨⟨fun hh => (by first | exact hh | trivial)⟩, ?_⟩
      refine ⟨⟨fun hh => (by first | exact hh | trivial)⟩, ?_⟩
      refine ⟨fun hb12 => ?_, fun hb12 => ?_⟩
      · replace h := h.t hb12
        refine HCall.mk ce32.2.1 ((ACalls.frame (ACalls.gr (ce32.2.2 3 _ _ _ _ h)) (H := _) (tgt := [4]) rfl (by decide) ?_).mono fun r H' hq => ?_)
        · intro i o ho
          match i, ho with
          | 0, ho => cases ho; rfl
        obtain ⟨r1, H1', ⟨l3, h, rfl, rfl⟩, _, rfl, rfl⟩ := hq
        cbv
        try refine KeepP.mk (by repeat' (first | exact trivial | exact rfl | refine And.intro ?_ ?_)) ?_
        have c13 := h.1
        refine ⟨c13, ?_⟩
        replace h := h.2
        refine ⟨_, _, GFin.of (GSt.ren [0, 1, 2, 3, 4, 5, 6, 8] rfl rfl rfl (by decide) (Nat.le_add_left _ _) ?_ ?_), ⟨_, _, h, rfl, rfl⟩⟩
        all_goals (repeat' (first | exact trivial | exact Or.inl rfl | exact Or.inr rfl | refine And.intro ?_ ?_))
      · replace h := h.f hb12
        refine ⟨_, _, GFin.of (GSt.trans (s' := (⟨[.tup []], [.box 26 [.gr 7], .dead, .box 3 [.c (.int .i64 x5)], .box 22 [.gr 4], .arr 3 [.int .i64] x6, .box 24 [.c (.int .i64 x7), .c (.int .i64 x8), .c (.int .i64 x9), .c (.int .i64 x10), .c (.sl [.int .i64] x11)], .box 94 [.fn 69 [.ptr 0 0, .ptr 2 0, .ptr 3 0, .ptr 5 0, .ptr 6 0]], .arr 22 [.sl [.int .i64]] x4]⟩ : St)) (GSt.mvBox 0 0 1 (Tb := 26) (T := 22) (cs := [.gr 1]) (lay := [.sl [.int .i64]]) (xs := x4) rfl rfl rfl) (GSt.ren [0, 1, 2, 3, 4, 5, 6, 7] rfl rfl rfl (by decide) (Nat.le_add_left _ _) ?_ ?_)), ⟨_, _, h, rfl, rfl⟩⟩
        all_goals (repeat' (first | exact trivial | exact Or.inl rfl | exact Or.inr rfl | refine And.intro ?_ ?_))
    · replace h := h.f hb11
      have c14 := h.1
      refine ⟨c14, ?_⟩
      replace h := h.2
      have c15 := h.1
      refine ⟨c15, ?_⟩
      replace h := h.2
      refine ⟨fun hb16 => ?_, fun hb16 => ?_⟩
      · replace h := h.t hb16
        refine ⟨_, _, GFin.of (GSt.trans (s' := (⟨[.tup []], [.box 26 [.gr 7], .dead, .box 3 [.c (.int .i64 x5)], .box 22 [.gr 4], .arr 3 [.int .i64] x6, .box 24 [.c (.int .i64 x7), .c (.int .i64 x8), .c (.int .i64 x9), .c (.int .i64 x10), .c (.sl [.int .i64] x11)], .box 94 [.fn 69 [.ptr 0 0, .ptr 2 0, .ptr 3 0, .ptr 5 0, .ptr 6 0]], .arr 22 [.sl [.int .i64]] x4]⟩ : St)) (GSt.mvBox 0 0 1 (Tb := 26) (T := 22) (cs := [.gr 1]) (lay := [.sl [.int .i64]]) (xs := x4) rfl rfl rfl) (GSt.ren [0, 1, 2, 3, 4, 5, 6, 7] rfl rfl rfl (by decide) (Nat.le_add_left _ _) ?_ ?_)), ⟨_, _, h, rfl, rfl⟩⟩
        all_goals (repeat' (first | exact trivial | exact Or.inl rfl | exact Or.inr rfl | refine And.intro ?_ ?_))
      · replace h := h.f hb16
        have c17 := h.1
        refine ⟨c17, ?_⟩
        replace h := h.2
        obtain ⟨I, μ, h0, hI⟩ := h
        refine LoopW.inv (fun R R' s h k => RCode.wp_mono _ R R' s h k) (fun p : List (List C) × List (List C) × Int => (fun (l4 : List (List C)) (l5 : List (List C)) (i6 : Int) => (⟨[.c (.int .i64 x1), .c (.int .i64 x2), .c (.int .i64 x3), .u, .u, .ptr 3 0, .u, .ptr 6 0, .u, .u, .u, .c (.int .i64 (E.gi (E.cell x11 x1 0))), .c (.int .i64 i6), .u, .u, .u, .u, .u, .u, .u, .u, .u, .u, .u, .u, .u, .u, .u, .u, .u, .u, .u, .u, .u, .u, .u, .u, .u, .u, .u, .u, .u, .u, .u, .u, .u, .u, .u, .u, .u, .u, .u, .u, .u, .u, .u, .u, .u, .u, .u, .u, .u, .u, .u, .u, .u, .u, .u, .u, .u, .u, .u, .u, .u, .u, .u, .u], [.box 26 [.gr 7], .dead, .box 3 [.c (.int .i64 x5)], .box 22 [.gr 4], .arr 3 [.int .i64] l5, .box 24 [.c (.int .i64 x7), .c (.int .i64 x8), .c (.int .i64 x9), .c (.int .i64 x10), .c (.sl [.int .i64] x11)], .box 94 [.fn 69 [.ptr 0 0, .ptr 2 0, .ptr 3 0, .ptr 5 0, .ptr 6 0]], .arr 22 [.sl [.int .i64]] l4]⟩ : St)) p.1 p.2.1 p.2.2) (fun p => I p.1 p.2.1 p.2.2) (fun p => μ p.1 p.2.1 p.2.2) (_, _, _) h0 ?_ ?_
        · refine GSt.trans (s' := (⟨[.c (.int .i64 x1), .c (.int .i64 x2), .c (.int .i64 x3), .ptr 0 0, .ptr 2 0, .ptr 3 0, .ptr 5 0, .ptr 6 0, .u, .u, .u, .c (.int .i64 (E.gi (E.cell x11 x1 0))), .c (.int .i64 (E.min x2 (E.quo .i64 x3 (E.gi (E.cell x11 x1 0))))), .gr 1, .c (.int .i64 (E.len x4)), .c (.int .i64 x5), .c (.bool (E.le x5 (E.len x4))), .c (.int .i64 x1), .gr 4, .c (.int .i64 (E.len x6)), .c (.bool (E.eq x1 (E.len x6))), .u, .u, .u, .u, .u, .u, .u, .u, .u, .u, .u, .u, .u, .u, .u, .ptr 5 4, .c (.sl [.int .i64] x11), .c (.int .i64 x1), .el [.int .i64] x11 x1 0, .c (.int .i64 (E.gi (E.cell x11 x1 0))), .c (.int .i64 x3), .c (.int .i64 x2), .c (.int .i64 (E.gi (E.cell x11 x1 0))), .c (.int .i64 (E.mul .i64 x2 (E.gi (E.cell x11 x1 0)))), .c (.int .i64 (E.sub .i64 x3 (E.mul .i64 x2 (E.gi (E.cell x11 x1 0))))), .ptr 5 2, .c (.int .i64 x9), .c (.bool (E.lt x9 (E.sub .i64 x3 (E.mul .i64 x2 (E.gi (E.cell x11 x1 0)))))), .c (.int .i64 x2), .c (.int .i64 x3), .c (.int .i64 (E.gi (E.cell x11 x1 0))), .c (.int .i64 (E.quo .i64 x3 (E.gi (E.cell x11 x1 0)))), .c (.int .i64 (E.min x2 (E.quo .i64 x3 (E.gi (E.cell x11 x1 0))))), .u, .u, .u, .u, .u, .u, .u, .u, .u, .u, .u, .u, .u, .u, .u, .u, .u, .u, .u, .u, .u, .u, .u], [.box 26 [.gr 7], .dead, .box 3 [.c (.int .i64 x5)], .box 22 [.gr 4], .arr 3 [.int .i64] x6, .box 24 [.c (.int .i64 x7), .c (.int .i64 x8), .c (.int .i64 x9), .c (.int .i64 x10), .c (.sl [.int .i64] x11)], .box 94 [.fn 69 [.ptr 0 0, .ptr 2 0, .ptr 3 0, .ptr 5 0, .ptr 6 0]], .arr 22 [.sl [.int .i64]] x4]⟩ : St)) (GSt.mvBox 0 0 1 (Tb := 26) (T := 22) (cs := [.gr 1]) (lay := [.sl [.int .i64]]) (xs := x4) rfl rfl rfl) (GSt.ren [0, 1, 2, 3, 4, 5, 6, 7] rfl rfl rfl (by decide) (Nat.le_add_left _ _) ?_ ?_)
          all_goals (repeat' (first | exact trivial | exact Or.inl rfl | exact Or.inr rfl | refine And.intro ?_ ?_))
        · rintro ⟨l4, l5, i6⟩ h
          replace h := hI l4 l5 i6 h
          cbv
          refine ⟨fun hb18 => ?_, fun hb18 => ?_⟩
          · replace h := h.t hb18
            refine ⟨c14, ?_⟩
            have c19 := h.1
            refine ⟨c19, ?_⟩
            replace h := h.2
            refine HCall.mk ce69.1 ((ACalls.frame (ce69.2.1 _ _ _ _ _ _ _ _ _ _ _ _ h) (H := _) (tgt := [0, 7, 2, 3, 4, 5, 6]) rfl (by decide) ?_).mono fun r H' hq => ?_)
            · intro i o ho
              match i, ho with
              | 0, ho => cases ho; rfl
              | 1, ho => cases ho; rfl
              | 2, ho => cases ho; rfl
              | 3, ho => cases ho; rfl
              | 4, ho => cases ho; rfl
              | 5, ho => cases ho; rfl
              | 6, ho => cases ho; rfl
            obtain ⟨r1, H1', ⟨l8, l9, h, rfl, rfl⟩, _, rfl, rfl⟩ := hq
            cbv
            try refine KeepP.mk (by repeat' (first | exact trivial | exact rfl | refine And.intro ?_ ?_)) ?_
            refine ⟨(_, _, _), h.1, GSt.ren [0, 1, 2, 3, 4, 5, 6, 8] rfl rfl rfl (by decide) (Nat.le_add_left _ _) ?_ ?_, h.2⟩
            all_goals (repeat' (first | exact trivial | exact Or.inl rfl | exact Or.inr rfl | refine And.intro ?_ ?_))
          · replace h := h.f hb18
            refine ⟨c14, ?_⟩
            have c20 := h.1
            refine ⟨c20, ?_⟩
            replace h := h.2
            refine ⟨_, _, GFin.of (GSt.ren [0, 1, 2, 3, 4, 5, 6, 7] rfl rfl rfl (by decide) (Nat.le_add_left _ _) ?_ ?_), ⟨_, _, h, rfl, rfl⟩⟩
            all_goals (repeat' (first | exact trivial | exact Or.inl rfl | exact Or.inr rfl | refine And.intro ?_ ?_))
def vc58 (E : Env) (x1 : Int) (x2 : Int) (x3 : Int) (x4 : Int) (x5 : List (List C)) (x6 : Int) (Q : List C → Prop) : Prop :=
  ((E.le 0 (E.len x5)) = true) ∧ ((E.le (E.len x5) (E.len x5)) = true) ∧ ((E.le (E.len x5) 17592186044416) = true) ∧ 
  ((E.pok 68 [(false, [.int .i64])] [.agg [.c (.int .i64 x1), .c (.int .i64 x2), .c (.int .i64 x3), .c (.int .i64 x4), .c (.sl [.int .i64] x5)]]) ∧ (∀ r7 : Nat → C, r7 = E.res 68 [.agg [.c (.int .i64 x1), .c (.int .i64 x2), .c (.int .i64 x3), .c (.int .i64 x4), .c (.sl [.int .i64] x5)]] → 
  (spLn 9 (0) (x4) ((E.gi (r7 0))) (x6) ((E.rep (E.len x5) [.int .i64 0])) (x1) (x2) (x3) (x4) (x5) (fun (l8 : List (List C)) (l9 : List (List C)) => 
  Q [.sl [.sl [.int .i64]] l8]))))
theorem w58 {P : Program} {tbl : FuncId → List A → List C} (ce69 : ListC 9 P 69) {x1 : Int} {x2 : Int} {x3 : Int} {x4 : Int} {x5 : List (List C)} {x6 : Int} {row : List C} (h : vc58 (stdE P tbl) x1 x2 x3 x4 x5 x6 fun c => c = row) : WPg P tbl rf58 [(false, [.sl [.sl [.int .i64]]])] row [.agg [.c (.int .i64 x1), .c (.int .i64 x2), .c (.int .i64 x3), .c (.int .i64 x4), .c (.sl [.int .i64] x5)], .c (.int .i64 x6)] := by
  refine ⟨?_⟩
  revert h
  generalize hE : stdE P tbl = E
  intro h
  unfold vc58 at h
  cbv
  have c10 := h.1
  refine ⟨c10, ?_⟩
  replace h := h.2
  have c11 := h.1
  refine ⟨c11, ?_⟩
  replace h := h.2
  have c12 := h.1
  refine ⟨c12, ?_⟩
  replace h := h.2
  have c13 := h.1
  refine ⟨c13, ?_⟩
  replace h := h.2 _ rfl
  refine HCall.mk ce69.1 ((ACalls.frame (ce69.2.2 _ _ _ _ _ _ _ _ _ _ _ h) (H := _) (tgt := [2, 1, 4, 3, 0, 5]) rfl (by decide) ?_).mono fun r H' hq => ?_)
  · intro i o ho
    match i, ho with
    | 0, ho => cases ho; rfl
    | 1, ho => cases ho; rfl
    | 2, ho => cases ho; rfl
    | 3, ho => cases ho; rfl
    | 4, ho => cases ho; rfl
    | 5, ho => cases ho; rfl
  obtain ⟨r1, H1', ⟨l8, l9, h, rfl, rfl⟩, _, rfl, rfl⟩ := hq
  cbv
  try refine KeepP.mk (by repeat' (first | exact trivial | exact rfl | refine And.intro ?_ ?_)) ?_
  have h : _ = row := h
  subst h
  repeat' (first | exact trivial | exact rfl | refine And.intro ?_ ?_)
def vc60 (E : Env) (x1 : Int) (x2 : Int) (x3 : Int) (x4 : Int) (x5 : List (List C)) (x6 : List (List C)) (x7 : Int) (x8 : Int) (x9 : List (List C)) (x10 : Int) (Q : List C → Prop) : Prop :=
  Br (E.lt x10 (E.len x9))
  (Q [.sl [.sl [.int .i64]] x9])
  (Br (E.eq (E.len x6) (E.len x5))
    ((E.pok 44 [(false, [.int .i64])] [.agg [.c (.int .i64 x1), .c (.int .i64 x2), .c (.int .i64 x3), .c (.int .i64 x4), .c (.sl [.int .i64] x5)], .c (.sl [.int .i64] x6)]) ∧ (∀ r11 : Nat → C, r11 = E.res 44 [.agg [.c (.int .i64 x1), .c (.int .i64 x2), .c (.int .i64 x3), .c (.int .i64 x4), .c (.sl [.int .i64] x5)], .c (.sl [.int .i64] x6)] → 
      (Br (E.eq (E.gi (r11 0)) 0)
      (((E.le (E.pl (E.len []) (E.len x9)) 5864062014805) = true) ∧ 
        (((E.le (E.pl (E.len (E.cat [] x9)) (E.len [[.sl [.int .i64] x6]])) 5864062014805) = true) ∧ 
        (Q [.sl [.sl [.int .i64]] (E.cat (E.cat [] x9) [[.sl [.int .i64] x6]])])))
      (Q [.sl [.sl [.int .i64]] x9]))))
    (((E.le 0 (E.len x6)) = true) ∧ ((E.lt (E.len x6) (E.len x5)) = true) ∧ 
      (((E.eq (E.gi (E.cell x5 (E.len x6) 0)) 0) = false) ∧ 
      (LoopP2 (fun (l12 : List (List C)) (i13 : Int) (K14 : (List (List C)) → (Int) → Prop) =>
      Br (E.le 0 i13)
        (((E.le (E.pl (E.len []) (E.len x6)) 17592186044416) = true) ∧ 
          (((E.le (E.pl (E.len (E.cat [] x6)) (E.len [[.int .i64 i13]])) 17592186044416) = true) ∧ 
          ((E.pok 60 [(false, [.sl [.sl [.int .i64]]])] [.agg [.c (.int .i64 x1), .c (.int .i64 x2), .c (.int .i64 x3), .c (.int .i64 x4), .c (.sl [.int .i64] x5)], .c (.sl [.int .i64] (E.cat (E.cat [] x6) [[.int .i64 i13]])), .c (.int .i64 (E.sub .i64 x7 i13)), .c (.int .i64 (E.sub .i64 x8 (E.mul .i64 i13 (E.gi (E.cell x5 (E.len x6) 0))))), .c (.sl [.sl [.int .i64]] l12), .c (.int .i64 x10)]) ∧ (∀ r15 : Nat → C, r15 = E.res 60 [.agg [.c (.int .i64 x1), .c (.int .i64 x2), .c (.int .i64 x3), .c (.int .i64 x4), .c (.sl [.int .i64] x5)], .c (.sl [.int .i64] (E.cat (E.cat [] x6) [[.int .i64 i13]])), .c (.int .i64 (E.sub .i64 x7 i13)), .c (.int .i64 (E.sub .i64 x8 (E.mul .i64 i13 (E.gi (E.cell x5 (E.len x6) 0))))), .c (.sl [.sl [.int .i64]] l12), .c (.int .i64 x10)] → 
          (K14 ((E.gl (r15 0))) ((E.sub .i64 i13 1)))))))
        (Q [.sl [.sl [.int .i64]] l12]))
      (x9) ((E.min x7 (E.quo .i64 x8 (E.gi (E.cell x5 (E.len x6) 0)))))))))
theorem w60 {P : Program} {tbl : FuncId → List A → List C}  {x1 : Int} {x2 : Int} {x3 : Int} {x4 : Int} {x5 : List (List C)} {x6 : List (List C)} {x7 : Int} {x8 : Int} {x9 : List (List C)} {x10 : Int} {row : List C} (h : vc60 (stdE P tbl) x1 x2 x3 x4 x5 x6 x7 x8 x9 x10 fun c => c = row) : WPg P tbl rf60 [(false, [.sl [.sl [.int .i64]]])] row [.agg [.c (.int .i64 x1), .c (.int .i64 x2), .c (.int .i64 x3), .c (.int .i64 x4), .c (.sl [.int .i64] x5)], .c (.sl [.int .i64] x6), .c (.int .i64 x7), .c (.int .i64 x8), .c (.sl [.sl [.int .i64]] x9), .c (.int .i64 x10)] := by
  refine ⟨?_⟩
  revert h
  generalize hE : stdE P tbl = E
  intro h
  unfold vc60 at h
  cbv
  refine ⟨fun hb16 => ?_, fun hb16 => ?_⟩
  · replace h := h.t hb16
    have h : _ = row := h
    subst h
    repeat' (first | exact trivial | exact rfl | refine And.intro ?_ ?_)
  · replace h := h.f hb16
    refine ⟨fun hb17 => ?_, fun hb17 => ?_⟩
    · replace h := h.t hb17
      have c18 := h.1
      refine ⟨c18, ?_⟩
      replace h := h.2 _ rfl
      refine ⟨fun hb19 => ?_, fun hb19 => ?_⟩
      · replace h := h.t hb19
        have c20 := h.1
        refine ⟨c20, ?_⟩
        replace h := h.2
        have c21 := h.1
        refine ⟨c21, ?_⟩
        replace h := h.2
        have h : _ = row := h
        subst h
        repeat' (first | exact trivial | exact rfl | refine And.intro ?_ ?_)
      · replace h := h.f hb19
        have h : _ = row := h
        subst h
        repeat' (first | exact trivial | exact rfl | refine And.intro ?_ ?_)
    · replace h := h.f hb17
      have c22 := h.1
      refine ⟨c22, ?_⟩
      replace h := h.2
      have c23 := h.1
      refine ⟨c23, ?_⟩
      replace h := h.2
      have c24 := h.1
      refine ⟨c24, ?_⟩
      replace h := h.2
      obtain ⟨I, μ, h0, hI⟩ := h
      refine LoopW.inv (fun R R' s h k => RCode.wp_mono _ R R' s h k) (fun p : List (List C) × Int => (fun (l12 : List (List C)) (i13 : Int) => (⟨[.u, .c (.sl [.int .i64] x6), .c (.int .i64 x7), .c (.int .i64 x8), .c (.sl [.sl [.int .i64]] l12), .c (.int .i64 x10), .ptr 0 0, .u, .u, .u, .u, .u, .u, .c (.int .i64 (E.gi (E.cell x5 (E.len x6) 0))), .c (.int .i64 i13), .u, .u, .u, .u, .u, .u, .u, .u, .u, .u, .u, .u, .u, .u, .u, .u, .u, .u, .u, .u, .u, .u, .u, .u, .u, .u, .u, .u, .u, .u, .u, .u, .u, .u, .u, .u, .u, .u, .u, .u, .u, .u, .u, .u, .u, .u, .u, .u, .u, .u, .u, .u, .u, .u, .u, .u], [.box 24 [.c (.int .i64 x1), .c (.int .i64 x2), .c (.int .i64 x3), .c (.int .i64 x4), .c (.sl [.int .i64] x5)]]⟩ : St)) p.1 p.2) (fun p => I p.1 p.2) (fun p => μ p.1 p.2) (_, _) h0 ?_ ?_
      · refine GSt.ren [0] rfl rfl rfl (fun i hi => absurd hi (Nat.not_lt_zero i)) (Nat.zero_le _) ?_ ?_
        all_goals (repeat' (first | exact trivial | exact Or.inl rfl | exact Or.inr rfl | refine And.intro ?_ ?_))
      · rintro ⟨l12, i13⟩ h
        replace h := hI l12 i13 h
        cbv
        refine ⟨fun hb25 => ?_, fun hb25 => ?_⟩
        · replace h := h.t hb25
          have c26 := h.1
          refine ⟨c26, ?_⟩
          replace h := h.2
          have c27 := h.1
          refine ⟨c27, ?_⟩
          replace h := h.2
          have c28 := h.1
          refine ⟨c28, ?_⟩
          replace h := h.2 _ rfl
          refine ⟨(_, _), h.1, GSt.ren [0] rfl rfl rfl (fun i hi => absurd hi (Nat.not_lt_zero i)) (Nat.zero_le _) ?_ ?_, h.2⟩
          all_goals (repeat' (first | exact trivial | exact Or.inl rfl | exact Or.inr rfl | refine And.intro ?_ ?_))
        · replace h := h.f hb25
          have h : _ = row := h
          subst h
          repeat' (first | exact trivial | exact rfl | refine And.intro ?_ ?_)
def vc42 (E : Env) (x1 : Int) (x2 : Int) (x3 : Int) (x4 : Int) (x5 : List (List C)) (Q : List C → Prop) : Prop :=
  (E.pok 57 [(false, [.int .i64])] [.agg [.c (.int .i64 x1), .c (.int .i64 x2), .c (.int .i64 x3), .c (.int .i64 x4), .c (.sl [.int .i64] x5)]]) ∧ (∀ r6 : Nat → C, r6 = E.res 57 [.agg [.c (.int .i64 x1), .c (.int .i64 x2), .c (.int .i64 x3), .c (.int .i64 x4), .c (.sl [.int .i64] x5)]] → 
  (Br (E.not (E.eq (E.gi (r6 0)) 0))
  (Q [.int .i64 (E.gi (r6 0))])
  ((E.pok 58 [(false, [.sl [.sl [.int .i64]]])] [.agg [.c (.int .i64 x1), .c (.int .i64 x2), .c (.int .i64 x3), .c (.int .i64 x4), .c (.sl [.int .i64] x5)], .c (.int .i64 1025)]) ∧ (∀ r7 : Nat → C, r7 = E.res 58 [.agg [.c (.int .i64 x1), .c (.int .i64 x2), .c (.int .i64 x3), .c (.int .i64 x4), .c (.sl [.int .i64] x5)], .c (.int .i64 1025)] → 
    (Br (E.lt 1024 (E.len (E.gl (r7 0))))
    (Q [.int .i64 8])
    (Q [.int .i64 0]))))))
theorem w42 {P : Program} {tbl : FuncId → List A → List C}  {x1 : Int} {x2 : Int} {x3 : Int} {x4 : Int} {x5 : List (List C)} {row : List C} (h : vc42 (stdE P tbl) x1 x2 x3 x4 x5 fun c => c = row) : WPg P tbl rf42 [(false, [.int .i64])] row [.agg [.c (.int .i64 x1), .c (.int .i64 x2), .c (.int .i64 x3), .c (.int .i64 x4), .c (.sl [.int .i64] x5)]] := by
  refine ⟨?_⟩
  revert h
  generalize hE : stdE P tbl = E
  intro h
  unfold vc42 at h
  cbv
  have c8 := h.1
  refine ⟨c8, ?_⟩
  replace h := h.2 _ rfl
  refine ⟨fun hb9 => ?_, fun hb9 => ?_⟩
  · replace h := h.t hb9
    have h : _ = row := h
    subst h
    repeat' (first | exact trivial | exact rfl | refine And.intro ?_ ?_)
  · replace h := h.f hb9
    have c10 := h.1
    refine ⟨c10, ?_⟩
    replace h := h.2 _ rfl
    refine ⟨fun hb11 => ?_, fun hb11 => ?_⟩
    · replace h := h.t hb11
      have h : _ = row := h
      subst h
      repeat' (first | exact trivial | exact rfl | refine And.intro ?_ ?_)
    · replace h := h.f hb11
      have h : _ = row := h
      subst h
      repeat' (first | exact trivial | exact rfl | refine And.intro ?_ ?_)
def vc43 (E : Env) (x1 : Int) (x2 : Int) (x3 : Int) (x4 : Int) (x5 : List (List C)) (Q : List C → Prop) : Prop :=
  (E.pok 59 [(false, [.int .i64])] [.agg [.c (.int .i64 x1), .c (.int .i64 x2), .c (.int .i64 x3), .c (.int .i64 x4), .c (.sl [.int .i64] x5)]]) ∧ (∀ r6 : Nat → C, r6 = E.res 59 [.agg [.c (.int .i64 x1), .c (.int .i64 x2), .c (.int .i64 x3), .c (.int .i64 x4), .c (.sl [.int .i64] x5)]] → 
  (Br (E.not (E.eq (E.gi (r6 0)) 0))
  (Q [.int .i64 (E.gi (r6 0))])
  ((E.pok 38 [(false, [.int .i64])] [.agg [.c (.int .i64 x1), .c (.int .i64 x2), .c (.int .i64 x3), .c (.int .i64 x4), .c (.sl [.int .i64] x5)]]) ∧ (∀ r7 : Nat → C, r7 = E.res 38 [.agg [.c (.int .i64 x1), .c (.int .i64 x2), .c (.int .i64 x3), .c (.int .i64 x4), .c (.sl [.int .i64] x5)]] → 
    ((E.pok 60 [(false, [.sl [.sl [.int .i64]]])] [.agg [.c (.int .i64 x1), .c (.int .i64 x2), .c (.int .i64 x3), .c (.int .i64 x4), .c (.sl [.int .i64] x5)], .c (.nil), .c (.int .i64 x4), .c (.int .i64 (E.gi (r7 0))), .c (.nil), .c (.int .i64 1024)]) ∧ (∀ r8 : Nat → C, r8 = E.res 60 [.agg [.c (.int .i64 x1), .c (.int .i64 x2), .c (.int .i64 x3), .c (.int .i64 x4), .c (.sl [.int .i64] x5)], .c (.nil), .c (.int .i64 x4), .c (.int .i64 (E.gi (r7 0))), .c (.nil), .c (.int .i64 1024)] → 
    (Br (E.lt 1024 (E.len (E.gl (r8 0))))
    (Q [.int .i64 8])
    (Q [.int .i64 0]))))))))
theorem w43 {P : Program} {tbl : FuncId → List A → List C}  {x1 : Int} {x2 : Int} {x3 : Int} {x4 : Int} {x5 : List (List C)} {row : List C} (h : vc43 (stdE P tbl) x1 x2 x3 x4 x5 fun c => c = row) : WPg P tbl rf43 [(false, [.int .i64])] row [.agg [.c (.int .i64 x1), .c (.int .i64 x2), .c (.int .i64 x3), .c (.int .i64 x4), .c (.sl [.int .i64] x5)]] := by
  refine ⟨?_⟩
  revert h
  generalize hE : stdE P tbl = E
  intro h
  unfold vc43 at h
  cbv
  have c9 := h.1
  refine ⟨c9, ?_⟩
  replace h := h.2 _ rfl
  refine ⟨fun hb10 => ?_, fun hb10 => ?_⟩
  · replace h := h.t hb10
    have h : _ = row := h
    subst h
    repeat' (first | exact trivial | exact rfl | refine And.intro ?_ ?_)
  · replace h := h.f hb10
    have c11 := h.1
    refine ⟨c11, ?_⟩
    replace h := h.2 _ rfl
    have c12 := h.1
    refine ⟨c12, ?_⟩
    replace h := h.2 _ rfl
    refine ⟨fun hb13 => ?_, fun hb13 => ?_⟩
    · replace h := h.t hb13
      have h : _ = row := h
      subst h
      repeat' (first | exact trivial | exact rfl | refine And.intro ?_ ?_)
    · replace h := h.f hb13
      have h : _ = row := h
      subst h
      repeat' (first | exact trivial | exact rfl | refine And.intro ?_ ?_)
def vc45 (E : Env) (x1 : Int) (x2 : Int) (x3 : Int) (x4 : Int) (x5 : List (List C)) (x6 : List (List C)) (Q : List C → Prop) : Prop :=
  (E.pok 42 [(false, [.int .i64])] [.agg [.c (.int .i64 x1), .c (.int .i64 x2), .c (.int .i64 x3), .c (.int .i64 x4), .c (.sl [.int .i64] x5)]]) ∧ (∀ r7 : Nat → C, r7 = E.res 42 [.agg [.c (.int .i64 x1), .c (.int .i64 x2), .c (.int .i64 x3), .c (.int .i64 x4), .c (.sl [.int .i64] x5)]] → 
  (Br (E.not (E.eq (E.gi (r7 0)) 0))
  (Q [.int .i64 (E.gi (r7 0))])
  ((E.pok 61 [(false, [.int .i64]), (false, [.int .i64]), (false, [.int .i64])] [.agg [.c (.int .i64 x1), .c (.int .i64 x2), .c (.int .i64 x3), .c (.int .i64 x4), .c (.sl [.int .i64] x5)], .c (.sl [.int .i64] x6)]) ∧ (∀ r8 : Nat → C, r8 = E.res 61 [.agg [.c (.int .i64 x1), .c (.int .i64 x2), .c (.int .i64 x3), .c (.int .i64 x4), .c (.sl [.int .i64] x5)], .c (.sl [.int .i64] x6)] → 
    (Q [.int .i64 (E.gi (r8 2))])))))
theorem w45 {P : Program} {tbl : FuncId → List A → List C}  {x1 : Int} {x2 : Int} {x3 : Int} {x4 : Int} {x5 : List (List C)} {x6 : List (List C)} {row : List C} (h : vc45 (stdE P tbl) x1 x2 x3 x4 x5 x6 fun c => c = row) : WPg P tbl rf45 [(false, [.int .i64])] row [.agg [.c (.int .i64 x1), .c (.int .i64 x2), .c (.int .i64 x3), .c (.int .i64 x4), .c (.sl [.int .i64] x5)], .c (.sl [.int .i64] x6)] := by
  refine ⟨?_⟩
  revert h
  generalize hE : stdE P tbl = E
  intro h
  unfold vc45 at h
  cbv
  have c9 := h.1
  refine ⟨c9, ?_⟩
  replace h := h.2 _ rfl
  refine ⟨fun hb10 => ?_, fun hb10 => ?_⟩
  · replace h := h.t hb10
    have h : _ = row := h
    subst h
    repeat' (first | exact trivial | exact rfl | refine And.intro ?_ ?_)
  · replace h := h.f hb10
    have c11 := h.1
    refine ⟨c11, ?_⟩
    replace h := h.2 _ rfl
    have h : _ = row := h
    subst h
    repeat' (first | exact trivial | exact rfl | refine And.intro ?_ ?_)
def vc37 (E : Env) (x1 : Int) (x2 : Int) (x3 : Int) (x4 : Int) (x5 : List (List C)) (x6 : List (List C)) (Q : List C → Prop) : Prop :=
  (E.pok 43 [(false, [.int .i64])] [.agg [.c (.int .i64 x1), .c (.int .i64 x2), .c (.int .i64 x3), .c (.int .i64 x4), .c (.sl [.int .i64] x5)]]) ∧ (∀ r7 : Nat → C, r7 = E.res 43 [.agg [.c (.int .i64 x1), .c (.int .i64 x2), .c (.int .i64 x3), .c (.int .i64 x4), .c (.sl [.int .i64] x5)]] → 
  (Br (E.not (E.eq (E.gi (r7 0)) 0))
  (Q [.int .i64 (E.gi (r7 0))])
  ((E.pok 44 [(false, [.int .i64])] [.agg [.c (.int .i64 x1), .c (.int .i64 x2), .c (.int .i64 x3), .c (.int .i64 x4), .c (.sl [.int .i64] x5)], .c (.sl [.int .i64] x6)]) ∧ (∀ r8 : Nat → C, r8 = E.res 44 [.agg [.c (.int .i64 x1), .c (.int .i64 x2), .c (.int .i64 x3), .c (.int .i64 x4), .c (.sl [.int .i64] x5)], .c (.sl [.int .i64] x6)] → 
    (Q [.int .i64 (E.gi (r8 0))])))))
theorem w37 {P : Program} {tbl : FuncId → List A → List C}  {x1 : Int} {x2 : Int} {x3 : Int} {x4 : Int} {x5 : List (List C)} {x6 : List (List C)} {row : List C} (h : vc37 (stdE P tbl) x1 x2 x3 x4 x5 x6 fun c => c = row) : WPg P tbl rf37 [(false, [.int .i64])] row [.agg [.c (.int .i64 x1), .c (.int .i64 x2), .c (.int .i64 x3), .c (.int .i64 x4), .c (.sl [.int .i64] x5)], .c (.sl [.int .i64] x6)] := by
  refine ⟨?_⟩
  revert h
  generalize hE : stdE P tbl = E
  intro h
  unfold vc37 at h
  cbv
  have c9 := h.1
  refine ⟨c9, ?_⟩
  replace h := h.2 _ rfl
  refine ⟨fun hb10 => ?_, fun hb10 => ?_⟩
  · replace h := h.t hb10
    have h : _ = row := h
    subst h
    repeat' (first | exact trivial | exact rfl | refine And.intro ?_ ?_)
  · replace h := h.f hb10
    have c11 := h.1
    refine ⟨c11, ?_⟩
    replace h := h.2 _ rfl
    have h : _ = row := h
    subst h
    repeat' (first | exact trivial | exact rfl | refine And.intro ?_ ?_)
def vc39 (E : Env) (x1 : Int) (x2 : Int) (x3 : Int) (x4 : Int) (x5 : List (List C)) (x6 : List (List C)) (Q : List C → Prop) : Prop :=
  (E.pok 45 [(false, [.int .i64])] [.agg [.c (.int .i64 x1), .c (.int .i64 x2), .c (.int .i64 x3), .c (.int .i64 x4), .c (.sl [.int .i64] x5)], .c (.sl [.int .i64] x6)]) ∧ (∀ r7 : Nat → C, r7 = E.res 45 [.agg [.c (.int .i64 x1), .c (.int .i64 x2), .c (.int .i64 x3), .c (.int .i64 x4), .c (.sl [.int .i64] x5)], .c (.sl [.int .i64] x6)] → 
  (Br (E.not (E.eq (E.gi (r7 0)) 0))
  (Q [.sl [.int .i64, .int .i64] [], .int .i64 (E.gi (r7 0))])
  (LoopP3 (fun (l8 : List (List C)) (i9 : Int) (i10 : Int) (K11 : (List (List C)) → (Int) → (Int) → Prop) =>
    Br (E.lt i10 (E.len x6))
      (((E.le 0 i10) = true) ∧ 
        (LoopP3 (fun (l12 : List (List C)) (i13 : Int) (i14 : Int) (K15 : (List (List C)) → (Int) → (Int) → Prop) =>
        Br (E.lt i14 (E.gi (E.cell x6 i10 0)))
          (((E.lt i10 (E.len x5)) = true) ∧ 
            (((E.le (E.pl (E.len l12) (E.len [[.int .i64 i13, .int .i64 (E.gi (E.cell x5 i10 0))]])) 8796093022208) = true) ∧ 
            (K15 ((E.cat l12 [[.int .i64 i13, .int .i64 (E.gi (E.cell x5 i10 0))]])) ((E.add .i64 i13 (E.gi (E.cell x5 i10 0)))) ((E.add .i64 i14 1)))))
          (K11 (l12) (i13) ((E.add .i64 i10 1))))
        (l8) (i9) (0)))
      (Q [.sl [.int .i64, .int .i64] l8, .int .i64 0]))
    ([]) (x2) (0))))
theorem w39 {P : Program} {tbl : FuncId → List A → List C}  {x1 : Int} {x2 : Int} {x3 : Int} {x4 : Int} {x5 : List (List C)} {x6 : List (List C)} {row : List C} (h : vc39 (stdE P tbl) x1 x2 x3 x4 x5 x6 fun c => c = row) : WPg P tbl rf39 [(false, [.sl [.int .i64, .int .i64]]), (false, [.int .i64])] row [.agg [.c (.int .i64 x1), .c (.int .i64 x2), .c (.int .i64 x3), .c (.int .i64 x4), .c (.sl [.int .i64] x5)], .c (.sl [.int .i64] x6)] := by
  refine ⟨?_⟩
  revert h
  generalize hE : stdE P tbl = E
  intro h
  unfold vc39 at h
  cbv
  have c16 := h.1
  refine ⟨c16, ?_⟩
  replace h := h.2 _ rfl
  refine ⟨fun hb17 => ?_, fun hb17 => ?_⟩
  · replace h := h.t hb17
    have h : _ = row := h
    subst h
    repeat' (first | exact trivial | exact rfl | refine And.intro ?_ ?_)
  · replace h := h.f hb17
    obtain ⟨I, μ, h0, hI⟩ := h
    refine LoopW.inv (fun R R' s h k => RCode.wp_mono _ R R' s h k) (fun p : List (List C) × Int × Int => (fun (l8 : List (List C)) (i9 : Int) (i10 : Int) => (⟨[.u, .u, .ptr 0 0, .u, .u, .u, .u, .gr 1, .c (.int .i64 i9), .u, .u, .u, .u, .u, .u, .u, .u, .u, .u, .c (.sl [.int .i64] x6), .c (.int .i64 (E.len x6)), .c (.int .i64 i10), .u, .u, .u, .u, .u, .u, .u, .u, .u, .u, .u, .u, .u, .u, .u, .u, .u, .u, .u, .u, .u, .u, .u, .u, .u, .u, .u], [.box 24 [.c (.int .i64 x1), .c (.int .i64 x2), .c (.int .i64 x3), .c (.int .i64 x4), .c (.sl [.int .i64] x5)], .arr 51 [.int .i64, .int .i64] l8]⟩ : St)) p.1 p.2.1 p.2.2) (fun p => I p.1 p.2.1 p.2.2) (fun p => μ p.1 p.2.1 p.2.2) (_, _, _) h0 ?_ ?_
    · refine GSt.trans (GSt.nil 7 51 [.int .i64, .int .i64] rfl) (GSt.ren [0, 1] rfl rfl rfl (fun i hi => absurd hi (Nat.not_lt_zero i)) (Nat.zero_le _) ?_ ?_)
      all_goals (repeat' (first | exact trivial | exact Or.inl rfl | exact Or.inr rfl | refine And.intro ?_ ?_))
    · rintro ⟨l8, i9, i10⟩ h
      replace h := hI l8 i9 i10 h
      cbv
      refine ⟨fun hb18 => ?_, fun hb18 => ?_⟩
      · replace h := h.t hb18
        have c19 := h.1
        refine ⟨c19, ?_⟩
        replace h := h.2
        refine ⟨hb18, ?_⟩
        obtain ⟨I, μ, h0, hI⟩ := h
        refine LoopW.inv (fun R R' s h k => RCode.wp_mono _ R R' s h k) (fun p : List (List C) × Int × Int => (fun (l12 : List (List C)) (i13 : Int) (i14 : Int) => (⟨[.u, .u, .ptr 0 0, .u, .u, .u, .u, .gr 1, .c (.int .i64 i13), .c (.int .i64 i10), .u, .u, .u, .u, .u, .u, .u, .u, .u, .c (.sl [.int .i64] x6), .c (.int .i64 (E.len x6)), .c (.int .i64 i10), .u, .u, .u, .u, .c (.int .i64 (E.gi (E.cell x6 i10 0))), .c (.int .i64 i14), .u, .u, .u, .u, .u, .u, .u, .u, .u, .u, .u, .u, .u, .u, .u, .u, .u, .u, .u, .u, .u], [.box 24 [.c (.int .i64 x1), .c (.int .i64 x2), .c (.int .i64 x3), .c (.int .i64 x4), .c (.sl [.int .i64] x5)], .arr 51 [.int .i64, .int .i64] l12]⟩ : St)) p.1 p.2.1 p.2.2) (fun p => I p.1 p.2.1 p.2.2) (fun p => μ p.1 p.2.1 p.2.2) (_, _, _) h0 ?_ ?_
        · refine GSt.ren [0, 1] rfl rfl rfl (fun i hi => absurd hi (Nat.not_lt_zero i)) (Nat.zero_le _) ?_ ?_
          all_goals (repeat' (first | exact trivial | exact Or.inl rfl | exact Or.inr rfl | refine And.intro ?_ ?_))
        · rintro ⟨l12, i13, i14⟩ h
          replace h := hI l12 i13 i14 h
          cbv
          refine ⟨fun hb20 => ?_, fun hb20 => ?_⟩
          · replace h := h.t hb20
            refine ⟨c19, ?_⟩
            have c21 := h.1
            refine ⟨c21, ?_⟩
            replace h := h.2
            have c22 := h.1
            refine ⟨c22, ?_⟩
            replace h := h.2
            refine ⟨c19, ?_⟩
            refine ⟨c21, ?_⟩
            refine ⟨(_, _, _), h.1, GSt.ren [0, 3] rfl rfl rfl (fun i hi => absurd hi (Nat.not_lt_zero i)) (Nat.zero_le _) ?_ ?_, h.2⟩
            all_goals (repeat' (first | exact trivial | exact Or.inl rfl | exact Or.inr rfl | refine And.intro ?_ ?_))
          · replace h := h.f hb20
            refine ⟨(_, _, _), h.1, GSt.ren [0, 1] rfl rfl rfl (fun i hi => absurd hi (Nat.not_lt_zero i)) (Nat.zero_le _) ?_ ?_, h.2⟩
            all_goals (repeat' (first | exact trivial | exact Or.inl rfl | exact Or.inr rfl | refine And.intro ?_ ?_))
      · replace h := h.f hb18
        have h : _ = row := h
        subst h
        repeat' (first | exact trivial | exact rfl | refine And.intro ?_ ?_)
def vc26 (E : Env) (x1 : Int) (x2 : Int) (x3 : Int) (x4 : Int) (x5 : List (List C)) (x6 : List (List C)) (Q : List C → Prop) : Prop :=
  (E.pok 37 [(false, [.int .i64])] [.agg [.c (.int .i64 x1), .c (.int .i64 x2), .c (.int .i64 x3), .c (.int .i64 x4), .c (.sl [.int .i64] x5)], .c (.sl [.int .i64] x6)]) ∧ (∀ r7 : Nat → C, r7 = E.res 37 [.agg [.c (.int .i64 x1), .c (.int .i64 x2), .c (.int .i64 x3), .c (.int .i64 x4), .c (.sl [.int .i64] x5)], .c (.sl [.int .i64] x6)] → 
  (Br (E.not (E.eq (E.gi (r7 0)) 0))
  (Q [.sl [.int .i64, .int .i64] [], .int .i64 (E.gi (r7 0))])
  (LoopP3 (fun (l8 : List (List C)) (i9 : Int) (i10 : Int) (K11 : (List (List C)) → (Int) → (Int) → Prop) =>
    Br (E.lt i10 (E.len x6))
      (LoopP3 (fun (l12 : List (List C)) (i13 : Int) (i14 : Int) (K15 : (List (List C)) → (Int) → (Int) → Prop) =>
        ((E.le 0 i10) = true) ∧ 
          (Br (E.lt i14 (E.gi (E.cell x6 i10 0)))
          (((E.lt i10 (E.len x5)) = true) ∧ 
            (((E.le (E.pl (E.len l12) (E.len [[.int .i64 i13, .int .i64 (E.gi (E.cell x5 i10 0))]])) 8796093022208) = true) ∧ 
            (K15 ((E.cat l12 [[.int .i64 i13, .int .i64 (E.gi (E.cell x5 i10 0))]])) ((E.add .i64 i13 (E.gi (E.cell x5 i10 0)))) ((E.add .i64 i14 1)))))
          (K11 (l12) (i13) ((E.add .i64 i10 1)))))
        (l8) (i9) (0))
      (Q [.sl [.int .i64, .int .i64] l8, .int .i64 0]))
    ([]) (x2) (0))))
theorem w26 {P : Program} {tbl : FuncId → List A → List C}  {x1 : Int} {x2 : Int} {x3 : Int} {x4 : Int} {x5 : List (List C)} {x6 : List (List C)} {row : List C} (h : vc26 (stdE P tbl) x1 x2 x3 x4 x5 x6 fun c => c = row) : WPg P tbl rf26 [(false, [.sl [.int .i64, .int .i64]]), (false, [.int .i64])] row [.agg [.c (.int .i64 x1), .c (.int .i64 x2), .c (.int .i64 x3), .c (.int .i64 x4), .c (.sl [.int .i64] x5)], .c (.sl [.int .i64] x6)] := by
  refine ⟨?_⟩
  revert h
  generalize hE : stdE P tbl = E
  intro h
  unfold vc26 at h
  cbv
  have c16 := h.1
  refine ⟨c16, ?_⟩
  replace h := h.2 _ rfl
  refine ⟨fun hb17 => ?_, fun hb17 => ?_⟩
  · replace h := h.t hb17
    have h : _ = row := h
    subst h
    repeat' (first | exact trivial | exact rfl | refine And.intro ?_ ?_)
  · replace h := h.f hb17
    obtain ⟨I, μ, h0, hI⟩ := h
    refine LoopW.inv (fun R R' s h k => RCode.wp_mono _ R R' s h k) (fun p : List (List C) × Int × Int => (fun (l8 : List (List C)) (i9 : Int) (i10 : Int) => (⟨[.u, .c (.sl [.int .i64] x6), .ptr 0 0, .u, .u, .u, .u, .gr 1, .c (.int .i64 i9), .c (.int .i64 i10), .u, .u, .u, .u, .u, .u, .u, .u, .u, .u, .u, .u, .u, .u, .u, .u, .u, .u, .u, .u, .u, .u, .u, .u, .u, .u, .u, .u, .u, .u, .u, .u, .u, .u, .u, .u, .u, .u, .u, .u, .u], [.box 24 [.c (.int .i64 x1), .c (.int .i64 x2), .c (.int .i64 x3), .c (.int .i64 x4), .c (.sl [.int .i64] x5)], .arr 51 [.int .i64, .int .i64] l8]⟩ : St)) p.1 p.2.1 p.2.2) (fun p => I p.1 p.2.1 p.2.2) (fun p => μ p.1 p.2.1 p.2.2) (_, _, _) h0 ?_ ?_
    · refine GSt.trans (GSt.nil 7 51 [.int .i64, .int .i64] rfl) (GSt.ren [0, 1] rfl rfl rfl (fun i hi => absurd hi (Nat.not_lt_zero i)) (Nat.zero_le _) ?_ ?_)
      all_goals (repeat' (first | exact trivial | exact Or.inl rfl | exact Or.inr rfl | refine And.intro ?_ ?_))
    · rintro ⟨l8, i9, i10⟩ h
      replace h := hI l8 i9 i10 h
      cbv
      refine ⟨fun hb18 => ?_, fun hb18 => ?_⟩
      · replace h := h.t hb18
        obtain ⟨I, μ, h0, hI⟩ := h
        refine LoopW.inv (fun R R' s h k => RCode.wp_mono _ R R' s h k) (fun p : List (List C) × Int × Int => (fun (l12 : List (List C)) (i13 : Int) (i14 : Int) => (⟨[.u, .c (.sl [.int .i64] x6), .ptr 0 0, .u, .u, .u, .u, .gr 1, .c (.int .i64 i13), .c (.int .i64 i10), .c (.int .i64 i14), .u, .u, .u, .u, .u, .u, .u, .u, .u, .u, .u, .u, .u, .u, .u, .u, .u, .u, .u, .u, .u, .u, .u, .u, .u, .u, .u, .u, .u, .u, .u, .u, .u, .u, .u, .u, .u, .u, .u, .u], [.box 24 [.c (.int .i64 x1), .c (.int .i64 x2), .c (.int .i64 x3), .c (.int .i64 x4), .c (.sl [.int .i64] x5)], .arr 51 [.int .i64, .int .i64] l12]⟩ : St)) p.1 p.2.1 p.2.2) (fun p => I p.1 p.2.1 p.2.2) (fun p => μ p.1 p.2.1 p.2.2) (_, _, _) h0 ?_ ?_
        · refine GSt.ren [0, 1] rfl rfl rfl (fun i hi => absurd hi (Nat.not_lt_zero i)) (Nat.zero_le _) ?_ ?_
          all_goals (repeat' (first | exact trivial | exact Or.inl rfl | exact Or.inr rfl | refine And.intro ?_ ?_))
        · rintro ⟨l12, i13, i14⟩ h
          replace h := hI l12 i13 i14 h
          cbv
          have c19 := h.1
          refine ⟨c19, ?_⟩
          replace h := h.2
          refine ⟨hb18, ?_⟩
          refine ⟨fun hb20 => ?_, fun hb20 => ?_⟩
          · replace h := h.t hb20
            refine ⟨c19, ?_⟩
            have c21 := h.1
            refine ⟨c21, ?_⟩
            replace h := h.2
            have c22 := h.1
            refine ⟨c22, ?_⟩
            replace h := h.2
            refine ⟨c19, ?_⟩
            refine ⟨c21, ?_⟩
            refine ⟨(_, _, _), h.1, GSt.ren [0, 3] rfl rfl rfl (fun i hi => absurd hi (Nat.not_lt_zero i)) (Nat.zero_le _) ?_ ?_, h.2⟩
            all_goals (repeat' (first | exact trivial | exact Or.inl rfl | exact Or.inr rfl | refine And.intro ?_ ?_))
          · replace h := h.f hb20
            refine ⟨(_, _, _), h.1, GSt.ren [0, 1] rfl rfl rfl (fun i hi => absurd hi (Nat.not_lt_zero i)) (Nat.zero_le _) ?_ ?_, h.2⟩
            all_goals (repeat' (first | exact trivial | exact Or.inl rfl | exact Or.inr rfl | refine And.intro ?_ ?_))
      · replace h := h.f hb18
        have h : _ = row := h
        subst h
        repeat' (first | exact trivial | exact rfl | refine And.intro ?_ ?_)
def vc22 (E : Env) (x1 : Int) (x2 : Int) (x3 : Int) (x4 : Int) (x5 : List (List C)) (x6 : List (List C)) (Q : List C → Prop) : Prop :=
  (E.pok 37 [(false, [.int .i64])] [.agg [.c (.int .i64 x1), .c (.int .i64 x2), .c (.int .i64 x3), .c (.int .i64 x4), .c (.sl [.int .i64] x5)], .c (.sl [.int .i64] x6)]) ∧ (∀ r7 : Nat → C, r7 = E.res 37 [.agg [.c (.int .i64 x1), .c (.int .i64 x2), .c (.int .i64 x3), .c (.int .i64 x4), .c (.sl [.int .i64] x5)], .c (.sl [.int .i64] x6)] → 
  (Br (E.not (E.eq (E.gi (r7 0)) 0))
  (Q [.int .i64 0, .int .i64 (E.gi (r7 0))])
  ((E.pok 38 [(false, [.int .i64])] [.agg [.c (.int .i64 x1), .c (.int .i64 x2), .c (.int .i64 x3), .c (.int .i64 x4), .c (.sl [.int .i64] x5)]]) ∧ (∀ r8 : Nat → C, r8 = E.res 38 [.agg [.c (.int .i64 x1), .c (.int .i64 x2), .c (.int .i64 x3), .c (.int .i64 x4), .c (.sl [.int .i64] x5)]] → 
    (LoopP2 (fun (i9 : Int) (i10 : Int) (K11 : (Int) → (Int) → Prop) =>
    Br (E.lt i10 (E.len x6))
      (((E.le 0 i10) = true) ∧ 
        (((E.lt i10 (E.len x5)) = true) ∧ 
        (K11 ((E.sub .i64 i9 (E.mul .i64 (E.gi (E.cell x6 i10 0)) (E.gi (E.cell x5 i10 0))))) ((E.add .i64 i10 1)))))
      (Q [.int .i64 i9, .int .i64 0]))
    ((E.gi (r8 0))) (0))))))
theorem w22 {P : Program} {tbl : FuncId → List A → List C}  {x1 : Int} {x2 : Int} {x3 : Int} {x4 : Int} {x5 : List (List C)} {x6 : List (List C)} {row : List C} (h : vc22 (stdE P tbl) x1 x2 x3 x4 x5 x6 fun c => c = row) : WPg P tbl rf22 [(false, [.int .i64]), (false, [.int .i64])] row [.agg [.c (.int .i64 x1), .c (.int .i64 x2), .c (.int .i64 x3), .c (.int .i64 x4), .c (.sl [.int .i64] x5)], .c (.sl [.int .i64] x6)] := by
  refine ⟨?_⟩
  revert h
  generalize hE : stdE P tbl = E
  intro h
  unfold vc22 at h
  cbv
  have c12 := h.1
  refine ⟨c12, ?_⟩
  replace h := h.2 _ rfl
  refine ⟨fun hb13 => ?_, fun hb13 => ?_⟩
  · replace h := h.t hb13
    have h : _ = row := h
    subst h
    repeat' (first | exact trivial | exact rfl | refine And.intro ?_ ?_)
  · replace h := h.f hb13
    have c14 := h.1
    refine ⟨c14, ?_⟩
    replace h := h.2 _ rfl
    obtain ⟨I, μ, h0, hI⟩ := h
    refine LoopW.inv (fun R R' s h k => RCode.wp_mono _ R R' s h k) (fun p : Int × Int => (fun (i9 : Int) (i10 : Int) => (⟨[.u, .c (.sl [.int .i64] x6), .ptr 0 0, .u, .u, .u, .u, .c (.int .i64 i9), .c (.int .i64 i10), .u, .u, .u, .u, .u, .u, .u, .u, .u, .u, .u, .u, .u, .u, .u, .u, .u, .u, .u, .u, .u, .u, .u, .u, .u, .u, .u], [.box 24 [.c (.int .i64 x1), .c (.int .i64 x2), .c (.int .i64 x3), .c (.int .i64 x4), .c (.sl [.int .i64] x5)]]⟩ : St)) p.1 p.2) (fun p => I p.1 p.2) (fun p => μ p.1 p.2) (_, _) h0 ?_ ?_
    · refine GSt.ren [0] rfl rfl rfl (fun i hi => absurd hi (Nat.not_lt_zero i)) (Nat.zero_le _) ?_ ?_
      all_goals (repeat' (first | exact trivial | exact Or.inl rfl | exact Or.inr rfl | refine And.intro ?_ ?_))
    · rintro ⟨i9, i10⟩ h
      replace h := hI i9 i10 h
      cbv
      refine ⟨fun hb15 => ?_, fun hb15 => ?_⟩
      · replace h := h.t hb15
        have c16 := h.1
        refine ⟨c16, ?_⟩
        replace h := h.2
        refine ⟨hb15, ?_⟩
        refine ⟨c16, ?_⟩
        have c17 := h.1
        refine ⟨c17, ?_⟩
        replace h := h.2
        refine ⟨(_, _), h.1, GSt.ren [0] rfl rfl rfl (fun i hi => absurd hi (Nat.not_lt_zero i)) (Nat.zero_le _) ?_ ?_, h.2⟩
        all_goals (repeat' (first | exact trivial | exact Or.inl rfl | exact Or.inr rfl | refine And.intro ?_ ?_))
      · replace h := h.f hb15
        have h : _ = row := h
        subst h
        repeat' (first | exact trivial | exact rfl | refine And.intro ?_ ?_)
end Go.Proofs.Ytjmgphobpgajbaa.V
