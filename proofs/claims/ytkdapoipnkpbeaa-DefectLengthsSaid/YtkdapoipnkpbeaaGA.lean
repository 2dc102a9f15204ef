/- Rectangles and spans: the walks of their functions (1 of 3). No conditions. -/
import Derived.Test.YtkdapoipnkpbeaaClips
set_option linter.unusedVariables false
set_option linter.unusedSimpArgs false
namespace Go.Proofs.Ytkdapoipnkpbeaa.R
open Go Go.Eng
set_option maxRecDepth 1000000
set_option maxHeartbeats 1000000
/-- papermill papermillref15.Cover -/
def rf44 : RFn := ⟨(.seq (.ops 0 [⟨(some 2), (.v (.mv (.k (.c (.int .i64 0))))), none, []⟩, ⟨(some 3), (.v (.mv (.k (.c (.int .i64 0))))), none, []⟩]) (.seq (.seq (.ops 0 [⟨(some 5), (.v (.mv (.t 0))), none, []⟩, ⟨(some 6), (.v (.det 55 [⟨false, [(.int .i64)]⟩] [(.t 5)])), none, []⟩, ⟨(some 4), (.v (.mv (.t 6))), none, []⟩]) (.seq (.ops 0 [⟨(some 7), (.v (.mv (.t 4))), none, []⟩, ⟨(some 8), (.v (.bin .neq (.t 7) (.k (.c (.int .i64 0))))), none, []⟩]) (.cond (.t 8) (.seq (.ops 0 [⟨(some 9), (.v (.mv (.t 4))), none, []⟩, ⟨(some 2), (.v (.mv (.k (.c (.int .i64 0))))), none, []⟩, ⟨(some 3), (.v (.mv (.t 9))), none, []⟩]) .ret) .skip))) (.seq (.ops 0 [⟨(some 10), (.v (.mv (.t 0))), none, []⟩, ⟨(some 11), (.v (.det 56 [⟨false, [(.int .i64)]⟩] [(.t 10)])), none, []⟩, ⟨(some 2), (.v (.mv (.t 11))), none, []⟩, ⟨(some 3), (.v (.mv (.k (.c (.int .i64 0))))), none, []⟩]) .ret))), 12, [(.t 2), (.t 3)]⟩
theorem h44 : fnR Try.prog DD 44 = some rf44 := by kernel_rfl
/-- papermill papermillref15.cover -/
def rf56 : RFn := ⟨(.seq (.ops 0 [⟨(some 2), (.v (.mv (.k (.c (.int .i64 0))))), none, []⟩]) (.seq (.ops 0 [⟨(some 3), (.v (.mv (.k (.c (.int .i64 0))))), none, []⟩]) (.seq (.seq (.ops 0 [⟨(some 4), (.v (.mv (.k (.c (.int .i64 0))))), none, []⟩]) (.block 0 (.loop (.seq (.seq (.ops 0 [⟨(some 9), (.v (.mv (.t 4))), none, []⟩, ⟨(some 10), (.v (.bin .lss (.t 9) (.k (.c (.int .i64 17179869184))))), none, []⟩]) (.cond (.t 10) .skip (.exit 0))) (.block 1 (.seq (.ops 0 [⟨(some 11), (.v (.mv (.t 0))), none, []⟩, ⟨(some 12), (.v (.mv (.t 4))), none, []⟩, ⟨(some 13), (.v (.det 71 [⟨false, [(.int .i64)]⟩] [(.t 11), (.k (.c (.bool true))), (.t 12)])), none, []⟩, ⟨(some 5), (.v (.mv (.t 13))), none, []⟩]) (.seq (.ops 0 [⟨(some 6), (.v (.mv (.k (.c (.int .i64 0))))), none, []⟩]) (.seq (.seq (.ops 0 [⟨(some 7), (.v (.mv (.k (.c (.int .i64 0))))), none, []⟩]) (.block 2 (.loop (.seq (.seq (.ops 0 [⟨(some 14), (.v (.mv (.t 7))), none, []⟩, ⟨(some 15), (.v (.bin .lss (.t 14) (.k (.c (.int .i64 12000))))), none, []⟩]) (.cond (.t 15) .skip (.exit 2))) (.block 3 (.seq (.ops 0 [⟨(some 16), (.v (.mv (.t 0))), none, []⟩, ⟨(some 17), (.v (.mv (.t 7))), none, []⟩, ⟨(some 18), (.v (.det 71 [⟨false, [(.int .i64)]⟩] [(.t 16), (.k (.c (.bool false))), (.t 17)])), none, []⟩, ⟨(some 19), (.v (.min (.t 18) [(.k (.c (.int .i64 12000)))])), none, []⟩, ⟨(some 8), (.v (.mv (.t 19))), none, []⟩]) (.seq (.seq (.ops 0 [⟨(some 20), (.v (.mv (.t 0))), none, []⟩, ⟨(some 21), (.v (.mv (.t 7))), none, []⟩, ⟨(some 22), (.v (.mv (.t 4))), none, []⟩, ⟨(some 23), (.v (.det 72 [⟨false, [.bool]⟩] [(.t 20), (.t 21), (.t 22)])), none, []⟩]) (.cond (.t 23) (.ops 0 [⟨(some 24), (.v (.mv (.t 6))), none, []⟩, ⟨(some 25), (.v (.mv (.t 8))), none, []⟩, ⟨(some 26), (.v (.bin .add (.t 24) (.t 25))), none, []⟩, ⟨(some 27), (.v (.mv (.t 7))), none, []⟩, ⟨(some 28), (.v (.bin .sub (.t 26) (.t 27))), none, []⟩, ⟨(some 6), (.v (.mv (.t 28))), none, []⟩]) .skip)) (.ops 0 [⟨(some 29), (.v (.mv (.t 8))), none, []⟩, ⟨(some 7), (.v (.mv (.t 29))), none, []⟩])))))))) (.seq (.ops 0 [⟨(some 30), (.v (.mv (.t 3))), none, []⟩, ⟨(some 31), (.v (.mv (.t 6))), none, []⟩, ⟨(some 32), (.v (.mv (.t 5))), none, []⟩, ⟨(some 33), (.v (.mv (.t 4))), none, []⟩, ⟨(some 34), (.v (.bin .sub (.t 32) (.t 33))), none, []⟩, ⟨(some 35), (.v (.bin .mul (.t 31) (.t 34))), none, []⟩, ⟨(some 36), (.v (.bin .add (.t 30) (.t 35))), none, []⟩, ⟨(some 3), (.v (.mv (.t 36))), none, []⟩]) (.ops 0 [⟨(some 37), (.v (.mv (.t 5))), none, []⟩, ⟨(some 4), (.v (.mv (.t 37))), none, []⟩])))))))))) (.seq (.ops 0 [⟨(some 38), (.v (.mv (.t 3))), none, []⟩, ⟨(some 2), (.v (.mv (.t 38))), none, []⟩]) .ret)))), 39, [(.t 2)]⟩
theorem h56 : fnR Try.prog DD 56 = some rf56 := by kernel_rfl
/-- papermill papermillref15.next -/
def rf71 : RFn := ⟨(.seq (.ops 0 [⟨(some 6), (.v (.mv (.k (.c (.int .i64 0))))), none, []⟩]) (.seq (.ops 0 [⟨(some 7), (.v (.mv (.k (.c (.int .i64 17179869184))))), none, []⟩]) (.seq (.seq (.ops 0 [⟨(some 8), (.v (.mv (.k (.c (.int .i64 0))))), none, []⟩]) (.block 0 (.loop (.seq (.seq (.ops 0 [⟨(some 11), (.v (.mv (.t 8))), none, []⟩, ⟨(some 12), (.v (.mv (.t 0))), none, []⟩, ⟨(some 13), (.v (.lenS (.t 12))), none, []⟩, ⟨(some 14), (.v (.bin .lss (.t 11) (.t 13))), none, []⟩]) (.cond (.t 14) .skip (.exit 0))) (.seq (.block 1 (.seq (.any 0 [⟨0, ⟨[], ⟨(some 17), (.v (.mv (.t 0))), none, []⟩⟩⟩, ⟨1, ⟨[], ⟨(some 18), (.v (.mv (.t 8))), none, []⟩⟩⟩, ⟨2, ⟨[0, 1], ⟨(some 19), (.v (.ia 4 (.t 17) (.t 18))), none, []⟩⟩⟩, ⟨3, ⟨[2, 0, 1], ⟨(some 20), (.v (.fa 0 (.t 19))), none, []⟩⟩⟩, ⟨4, ⟨[3, 2, 0, 1], ⟨(some 21), (.v (.ld (.t 20))), none, []⟩⟩⟩, ⟨5, ⟨[], ⟨(some 22), (.v (.mv (.t 0))), none, []⟩⟩⟩, ⟨6, ⟨[], ⟨(some 23), (.v (.mv (.t 8))), none, []⟩⟩⟩, ⟨7, ⟨[5, 6], ⟨(some 24), (.v (.ia 4 (.t 22) (.t 23))), none, []⟩⟩⟩, ⟨8, ⟨[7, 5, 6], ⟨(some 25), (.v (.fa 1 (.t 24))), none, []⟩⟩⟩, ⟨9, ⟨[8, 7, 5, 6], ⟨(some 26), (.v (.ld (.t 25))), none, []⟩⟩⟩, ⟨10, ⟨[4, 3, 2, 0, 1], ⟨(some 9), (.v (.mv (.t 21))), none, []⟩⟩⟩, ⟨11, ⟨[9, 8, 7, 5, 6, 10, 4, 3, 2, 0, 1], ⟨(some 10), (.v (.mv (.t 26))), none, []⟩⟩⟩]) (.seq (.seq (.ops 0 [⟨(some 27), (.v (.mv (.t 1))), none, []⟩]) (.cond (.t 27) (.any 0 [⟨0, ⟨[], ⟨(some 28), (.v (.mv (.t 0))), none, []⟩⟩⟩, ⟨1, ⟨[], ⟨(some 29), (.v (.mv (.t 8))), none, []⟩⟩⟩, ⟨2, ⟨[0, 1], ⟨(some 30), (.v (.ia 4 (.t 28) (.t 29))), none, []⟩⟩⟩, ⟨3, ⟨[2, 0, 1], ⟨(some 31), (.v (.fa 2 (.t 30))), none, []⟩⟩⟩, ⟨4, ⟨[3, 2, 0, 1], ⟨(some 32), (.v (.ld (.t 31))), none, []⟩⟩⟩, ⟨5, ⟨[], ⟨(some 33), (.v (.mv (.t 0))), none, []⟩⟩⟩, ⟨6, ⟨[], ⟨(some 34), (.v (.mv (.t 8))), none, []⟩⟩⟩, ⟨7, ⟨[5, 6], ⟨(some 35), (.v (.ia 4 (.t 33) (.t 34))), none, []⟩⟩⟩, ⟨8, ⟨[7, 5, 6], ⟨(some 36), (.v (.fa 3 (.t 35))), none, []⟩⟩⟩, ⟨9, ⟨[8, 7, 5, 6], ⟨(some 37), (.v (.ld (.t 36))), none, []⟩⟩⟩, ⟨10, ⟨[4, 3, 2, 0, 1], ⟨(some 9), (.v (.mv (.t 32))), none, []⟩⟩⟩, ⟨11, ⟨[9, 8, 7, 5, 6, 10, 4, 3, 2, 0, 1], ⟨(some 10), (.v (.mv (.t 37))), none, []⟩⟩⟩]) .skip)) (.seq (.seq (.ops 0 [⟨(some 38), (.v (.mv (.t 9))), none, []⟩, ⟨(some 39), (.v (.mv (.t 2))), none, []⟩, ⟨(some 40), (.v (.bin .gtr (.t 38) (.t 39))), none, []⟩]) (.cond (.t 40) (.ops 0 [⟨(some 41), (.v (.mv (.t 7))), none, []⟩, ⟨(some 42), (.v (.mv (.t 9))), none, []⟩, ⟨(some 43), (.v (.min (.t 41) [(.t 42)])), none, []⟩, ⟨(some 7), (.v (.mv (.t 43))), none, []⟩]) .skip)) (.seq (.ops 0 [⟨(some 44), (.v (.mv (.t 10))), none, []⟩, ⟨(some 45), (.v (.mv (.t 2))), none, []⟩, ⟨(some 46), (.v (.bin .gtr (.t 44) (.t 45))), none, []⟩]) (.cond (.t 46) (.ops 0 [⟨(some 47), (.v (.mv (.t 7))), none, []⟩, ⟨(some 48), (.v (.mv (.t 10))), none, []⟩, ⟨(some 49), (.v (.min (.t 47) [(.t 48)])), none, []⟩, ⟨(some 7), (.v (.mv (.t 49))), none, []⟩]) .skip)))))) (.ops 0 [⟨(some 15), (.v (.mv (.t 8))), none, []⟩, ⟨(some 16), (.v (.bin .add (.t 15) (.k (.c (.int .i64 1))))), none, []⟩, ⟨(some 8), (.v (.mv (.t 16))), none, []⟩])))))) (.seq (.ops 0 [⟨(some 50), (.v (.mv (.t 7))), none, []⟩, ⟨(some 6), (.v (.mv (.t 50))), none, []⟩]) .ret)))), 51, [(.t 6)]⟩
theorem h71 : fnR Try.prog DD 71 = some rf71 := by kernel_rfl
/-- papermill papermillref15.in -/
def rf72 : RFn := ⟨(.seq (.ops 0 [⟨(some 6), (.v (.mv (.k (.c (.bool false))))), none, []⟩]) (.seq (.seq (.ops 0 [⟨(some 7), (.v (.mv (.k (.c (.int .i64 0))))), none, []⟩]) (.block 0 (.loop (.seq (.seq (.ops 0 [⟨(some 8), (.v (.mv (.t 7))), none, []⟩, ⟨(some 9), (.v (.mv (.t 0))), none, []⟩, ⟨(some 10), (.v (.lenS (.t 9))), none, []⟩, ⟨(some 11), (.v (.bin .lss (.t 8) (.t 10))), none, []⟩]) (.cond (.t 11) .skip (.exit 0))) (.seq (.block 1 (.seq (.ops 0 [⟨(some 14), (.v (.mv (.t 0))), none, []⟩, ⟨(some 15), (.v (.mv (.t 7))), none, []⟩, ⟨(some 16), (.v (.ia 4 (.t 14) (.t 15))), none, []⟩, ⟨(some 17), (.v (.fa 0 (.t 16))), none, []⟩, ⟨(some 18), (.v (.ld (.t 17))), none, []⟩, ⟨(some 19), (.v (.mv (.t 1))), none, []⟩, ⟨(some 20), (.v (.bin .leq (.t 18) (.t 19))), none, []⟩, ⟨(some 21), (.v (.mv (.t 20))), none, []⟩, ⟨(some 22), (.v (.mv (.t 1))), (some ⟨21, true⟩), [(.t 1)]⟩, ⟨(some 23), (.v (.mv (.t 0))), (some ⟨21, true⟩), [(.t 0)]⟩, ⟨(some 24), (.v (.mv (.t 7))), (some ⟨21, true⟩), [(.t 7)]⟩, ⟨(some 25), (.v (.ia 4 (.t 23) (.t 24))), (some ⟨21, true⟩), [(.t 23), (.t 24)]⟩, ⟨(some 26), (.v (.fa 1 (.t 25))), (some ⟨21, true⟩), [(.t 25)]⟩, ⟨(some 27), (.v (.ld (.t 26))), (some ⟨21, true⟩), [(.t 26)]⟩, ⟨(some 28), (.v (.bin .lss (.t 22) (.t 27))), (some ⟨21, true⟩), [(.t 22), (.t 27)]⟩, ⟨(some 29), (.v (.pick (.t 21) (.t 28) (.k (.c (.bool false))))), none, []⟩, ⟨(some 30), (.v (.mv (.t 29))), none, []⟩, ⟨(some 31), (.v (.mv (.t 0))), (some ⟨30, true⟩), [(.t 0)]⟩, ⟨(some 32), (.v (.mv (.t 7))), (some ⟨30, true⟩), [(.t 7)]⟩, ⟨(some 33), (.v (.ia 4 (.t 31) (.t 32))), (some ⟨30, true⟩), [(.t 31), (.t 32)]⟩, ⟨(some 34), (.v (.fa 2 (.t 33))), (some ⟨30, true⟩), [(.t 33)]⟩, ⟨(some 35), (.v (.ld (.t 34))), (some ⟨30, true⟩), [(.t 34)]⟩, ⟨(some 36), (.v (.mv (.t 2))), (some ⟨30, true⟩), [(.t 2)]⟩, ⟨(some 37), (.v (.bin .leq (.t 35) (.t 36))), (some ⟨30, true⟩), [(.t 35), (.t 36)]⟩, ⟨(some 38), (.v (.pick (.t 30) (.t 37) (.k (.c (.bool false))))), none, []⟩, ⟨(some 39), (.v (.mv (.t 38))), none, []⟩, ⟨(some 40), (.v (.mv (.t 2))), (some ⟨39, true⟩), [(.t 2)]⟩, ⟨(some 41), (.v (.mv (.t 0))), (some ⟨39, true⟩), [(.t 0)]⟩, ⟨(some 42), (.v (.mv (.t 7))), (some ⟨39, true⟩), [(.t 7)]⟩, ⟨(some 43), (.v (.ia 4 (.t 41) (.t 42))), (some ⟨39, true⟩), [(.t 41), (.t 42)]⟩, ⟨(some 44), (.v (.fa 3 (.t 43))), (some ⟨39, true⟩), [(.t 43)]⟩, ⟨(some 45), (.v (.ld (.t 44))), (some ⟨39, true⟩), [(.t 44)]⟩, ⟨(some 46), (.v (.bin .lss (.t 40) (.t 45))), (some ⟨39, true⟩), [(.t 40), (.t 45)]⟩, ⟨(some 47), (.v (.pick (.t 39) (.t 46) (.k (.c (.bool false))))), none, []⟩]) (.cond (.t 47) (.seq (.ops 0 [⟨(some 6), (.v (.mv (.k (.c (.bool true))))), none, []⟩]) .ret) .skip))) (.ops 0 [⟨(some 12), (.v (.mv (.t 7))), none, []⟩, ⟨(some 13), (.v (.bin .add (.t 12) (.k (.c (.int .i64 1))))), none, []⟩, ⟨(some 7), (.v (.mv (.t 13))), none, []⟩])))))) (.seq (.ops 0 [⟨(some 6), (.v (.mv (.k (.c (.bool false))))), none, []⟩]) .ret))), 48, [(.t 6)]⟩
theorem h72 : fnR Try.prog DD 72 = some rf72 := by kernel_rfl
def vc44 (E : Env) (x1 : List (List C)) (Q : List C → Prop) : Prop :=
  (E.pok 55 [(false, [.int .i64])] [.c (.sl [.int .i64, .int .i64, .int .i64, .int .i64] x1)]) ∧ (∀ r2 : Nat → C, r2 = E.res 55 [.c (.sl [.int .i64, .int .i64, .int .i64, .int .i64] x1)] → 
  (Br (E.not (E.eq (E.gi (r2 0)) 0))
  (Q [.int .i64 0, .int .i64 (E.gi (r2 0))])
  ((E.pok 56 [(false, [.int .i64])] [.c (.sl [.int .i64, .int .i64, .int .i64, .int .i64] x1)]) ∧ (∀ r3 : Nat → C, r3 = E.res 56 [.c (.sl [.int .i64, .int .i64, .int .i64, .int .i64] x1)] → 
    (Q [.int .i64 (E.gi (r3 0)), .int .i64 0])))))
theorem w44 {P : Program} {tbl : FuncId → List A → List C}  {x1 : List (List C)} {row : List C} (h : vc44 (stdE P tbl) x1 fun c => c = row) : WPg P tbl rf44 [(false, [.int .i64]), (false, [.int .i64])] row [.c (.sl [.int .i64, .int .i64, .int .i64, .int .i64] x1)] := by
  refine ⟨?_⟩
  revert h
  generalize hE : stdE P tbl = E
  intro h
  unfold vc44 at h
  cbv
  have c4 := h.1
  refine ⟨c4, ?_⟩
  replace h := h.2 _ rfl
  refine ⟨fun hb5 => ?_, fun hb5 => ?_⟩
  · replace h := h.t hb5
    have h : _ = row := h
    subst h
    repeat' (first | exact trivial | exact rfl | refine And.intro ?_ ?_)
  · replace h := h.f hb5
    have c6 := h.1
    refine ⟨c6, ?_⟩
    replace h := h.2 _ rfl
    have h : _ = row := h
    subst h
    repeat' (first | exact trivial | exact rfl | refine And.intro ?_ ?_)
def vc56 (E : Env) (x1 : List (List C)) (Q : List C → Prop) : Prop :=
  LoopP2 (fun (i2 : Int) (i3 : Int) (K4 : (Int) → (Int) → Prop) =>
  Br (E.lt i3 17179869184)
    ((E.pok 71 [(false, [.int .i64])] [.c (.sl [.int .i64, .int .i64, .int .i64, .int .i64] x1), .c (.bool true), .c (.int .i64 i3)]) ∧ (∀ r5 : Nat → C, r5 = E.res 71 [.c (.sl [.int .i64, .int .i64, .int .i64, .int .i64] x1), .c (.bool true), .c (.int .i64 i3)] → 
      (LoopP2 (fun (i6 : Int) (i7 : Int) (K8 : (Int) → (Int) → Prop) =>
      Br (E.lt i7 12000)
        ((E.pok 71 [(false, [.int .i64])] [.c (.sl [.int .i64, .int .i64, .int .i64, .int .i64] x1), .c (.bool false), .c (.int .i64 i7)]) ∧ (∀ r9 : Nat → C, r9 = E.res 71 [.c (.sl [.int .i64, .int .i64, .int .i64, .int .i64] x1), .c (.bool false), .c (.int .i64 i7)] → 
          ((E.pok 72 [(false, [.bool])] [.c (.sl [.int .i64, .int .i64, .int .i64, .int .i64] x1), .c (.int .i64 i7), .c (.int .i64 i3)]) ∧ (∀ r10 : Nat → C, r10 = E.res 72 [.c (.sl [.int .i64, .int .i64, .int .i64, .int .i64] x1), .c (.int .i64 i7), .c (.int .i64 i3)] → 
          (Br (E.gb (r10 0))
          (K8 ((E.sub .i64 (E.add .i64 i6 (E.min (E.gi (r9 0)) 12000)) i7)) ((E.min (E.gi (r9 0)) 12000)))
          (K8 (i6) ((E.min (E.gi (r9 0)) 12000))))))))
        (K4 ((E.add .i64 i2 (E.mul .i64 i6 (E.sub .i64 (E.gi (r5 0)) i3)))) ((E.gi (r5 0)))))
      (0) (0))))
    (Q [.int .i64 i2]))
  (0) (0)
theorem w56 {P : Program} {tbl : FuncId → List A → List C}  {x1 : List (List C)} {row : List C} (h : vc56 (stdE P tbl) x1 fun c => c = row) : WPg P tbl rf56 [(false, [.int .i64])] row [.c (.sl [.int .i64, .int .i64, .int .i64, .int .i64] x1)] := by
  refine ⟨?_⟩
  revert h
  generalize hE : stdE P tbl = E
  intro h
  unfold vc56 at h
  cbv
  obtain ⟨I, μ, h0, hI⟩ := h
  refine LoopW.inv (fun R R' s h k => RCode.wp_mono _ R R' s h k) (fun p : Int × Int => (fun (i2 : Int) (i3 : Int) => (⟨[.c (.sl [.int .i64, .int .i64, .int .i64, .int .i64] x1), .u, .u, .c (.int .i64 i2), .c (.int .i64 i3), .u, .u, .u, .u, .u, .u, .u, .u, .u, .u, .u, .u, .u, .u, .u, .u, .u, .u, .u, .u, .u, .u, .u, .u, .u, .u, .u, .u, .u, .u, .u, .u, .u, .u], []⟩ : St)) p.1 p.2) (fun p => I p.1 p.2) (fun p => μ p.1 p.2) (_, _) h0 ?_ ?_
  · refine GSt.ren [] rfl rfl rfl (fun i hi => absurd hi (Nat.not_lt_zero i)) (Nat.zero_le _) ?_ ?_
    all_goals (repeat' (first | exact trivial | exact Or.inl rfl | exact Or.inr rfl | refine And.intro ?_ ?_))
  · rintro ⟨i2, i3⟩ h
    replace h := hI i2 i3 h
    cbv
    refine ⟨fun hb11 => ?_, fun hb11 => ?_⟩
    · replace h := h.t hb11
      have c12 := h.1
      refine ⟨c12, ?_⟩
      replace h := h.2 _ rfl
      obtain ⟨I, μ, h0, hI⟩ := h
      refine LoopW.inv (fun R R' s h k => RCode.wp_mono _ R R' s h k) (fun p : Int × Int => (fun (i6 : Int) (i7 : Int) => (⟨[.c (.sl [.int .i64, .int .i64, .int .i64, .int .i64] x1), .u, .u, .c (.int .i64 i2), .c (.int .i64 i3), .c (.int .i64 (E.gi ((E.res 71 [.c (.sl [.int .i64, .int .i64, .int .i64, .int .i64] x1), .c (.bool true), .c (.int .i64 i3)]) 0))), .c (.int .i64 i6), .c (.int .i64 i7), .u, .u, .u, .u, .u, .u, .u, .u, .u, .u, .u, .u, .u, .u, .u, .u, .u, .u, .u, .u, .u, .u, .u, .u, .u, .u, .u, .u, .u, .u, .u], []⟩ : St)) p.1 p.2) (fun p => I p.1 p.2) (fun p => μ p.1 p.2) (_, _) h0 ?_ ?_
      · refine GSt.ren [] rfl rfl rfl (fun i hi => absurd hi (Nat.not_lt_zero i)) (Nat.zero_le _) ?_ ?_
        all_goals (repeat' (first | exact trivial | exact Or.inl rfl | exact Or.inr rfl | refine And.intro ?_ ?_))
      · rintro ⟨i6, i7⟩ h
        replace h := hI i6 i7 h
        cbv
        refine ⟨fun hb13 => ?_, fun hb13 => ?_⟩
        · replace h := h.t hb13
          have c14 := h.1
          refine ⟨c14, ?_⟩
          replace h := h.2 _ rfl
          have c15 := h.1
          refine ⟨c15, ?_⟩
          replace h := h.2 _ rfl
          refine ⟨fun hb16 => ?_, fun hb16 => ?_⟩
          · replace h := h.t hb16
            refine ⟨(_, _), h.1, GSt.ren [] rfl rfl rfl (fun i hi => absurd hi (Nat.not_lt_zero i)) (Nat.zero_le _) ?_ ?_, h.2⟩
            all_goals (repeat' (first | exact trivial | exact Or.inl rfl | exact Or.inr rfl | refine And.intro ?_ ?_))
          · replace h := h.f hb16
            refine ⟨(_, _), h.1, GSt.ren [] rfl rfl rfl (fun i hi => absurd hi (Nat.not_lt_zero i)) (Nat.zero_le _) ?_ ?_, h.2⟩
            all_goals (repeat' (first | exact trivial | exact Or.inl rfl | exact Or.inr rfl | refine And.intro ?_ ?_))
        · replace h := h.f hb13
          refine ⟨(_, _), h.1, GSt.ren [] rfl rfl rfl (fun i hi => absurd hi (Nat.not_lt_zero i)) (Nat.zero_le _) ?_ ?_, h.2⟩
          all_goals (repeat' (first | exact trivial | exact Or.inl rfl | exact Or.inr rfl | refine And.intro ?_ ?_))
    · replace h := h.f hb11
      have h : _ = row := h
      subst h
      repeat' (first | exact trivial | exact rfl | refine And.intro ?_ ?_)
def vc71 (E : Env) (x1 : List (List C)) (x2 : Bool) (x3 : Int) (Q : List C → Prop) : Prop :=
  LoopP2 (fun (i4 : Int) (i5 : Int) (K6 : (Int) → (Int) → Prop) =>
  Br (E.lt i5 (E.len x1))
    (((E.le 0 i5) = true) ∧ 
      (Br x2
      (Br (E.lt x3 (E.gi (E.cell x1 i5 2)))
        (Br (E.lt x3 (E.gi (E.cell x1 i5 3)))
          (K6 ((E.min (E.min i4 (E.gi (E.cell x1 i5 2))) (E.gi (E.cell x1 i5 3)))) ((E.add .i64 i5 1)))
          (K6 ((E.min i4 (E.gi (E.cell x1 i5 2)))) ((E.add .i64 i5 1))))
        (Br (E.lt x3 (E.gi (E.cell x1 i5 3)))
          (K6 ((E.min i4 (E.gi (E.cell x1 i5 3)))) ((E.add .i64 i5 1)))
          (K6 (i4) ((E.add .i64 i5 1)))))
      (Br (E.lt x3 (E.gi (E.cell x1 i5 0)))
        (Br (E.lt x3 (E.gi (E.cell x1 i5 1)))
          (K6 ((E.min (E.min i4 (E.gi (E.cell x1 i5 0))) (E.gi (E.cell x1 i5 1)))) ((E.add .i64 i5 1)))
          (K6 ((E.min i4 (E.gi (E.cell x1 i5 0)))) ((E.add .i64 i5 1))))
        (Br (E.lt x3 (E.gi (E.cell x1 i5 1)))
          (K6 ((E.min i4 (E.gi (E.cell x1 i5 1)))) ((E.add .i64 i5 1)))
          (K6 (i4) ((E.add .i64 i5 1)))))))
    (Q [.int .i64 i4]))
  (17179869184) (0)
theorem w71 {P : Program} {tbl : FuncId → List A → List C}  {x1 : List (List C)} {x2 : Bool} {x3 : Int} {row : List C} (h : vc71 (stdE P tbl) x1 x2 x3 fun c => c = row) : WPg P tbl rf71 [(false, [.int .i64])] row [.c (.sl [.int .i64, .int .i64, .int .i64, .int .i64] x1), .c (.bool x2), .c (.int .i64 x3)] := by
  refine ⟨?_⟩
  revert h
  generalize hE : stdE P tbl = E
  intro h
  unfold vc71 at h
  cbv
  obtain ⟨I, μ, h0, hI⟩ := h
  refine LoopW.inv (fun R R' s h k => RCode.wp_mono _ R R' s h k) (fun p : Int × Int => (fun (i4 : Int) (i5 : Int) => (⟨[.c (.sl [.int .i64, .int .i64, .int .i64, .int .i64] x1), .c (.bool x2), .c (.int .i64 x3), .u, .u, .u, .u, .c (.int .i64 i4), .c (.int .i64 i5), .u, .u, .u, .u, .u, .u, .u, .u, .u, .u, .u, .u, .u, .u, .u, .u, .u, .u, .u, .u, .u, .u, .u, .u, .u, .u, .u, .u, .u, .u, .u, .u, .u, .u, .u, .u, .u, .u, .u, .u, .u, .u], []⟩ : St)) p.1 p.2) (fun p => I p.1 p.2) (fun p => μ p.1 p.2) (_, _) h0 ?_ ?_
  · refine GSt.ren [] rfl rfl rfl (fun i hi => absurd hi (Nat.not_lt_zero i)) (Nat.zero_le _) ?_ ?_
    all_goals (repeat' (first | exact trivial | exact Or.inl rfl | exact Or.inr rfl | refine And.intro ?_ ?_))
  · rintro ⟨i4, i5⟩ h
    replace h := hI i4 i5 h
    cbv
    refine ⟨fun hb7 => ?_, fun hb7 => ?_⟩
    · replace h := h.t hb7
      have c8 := h.1
      refine ⟨c8, ?_⟩
      replace h := h.2
      refine ⟨hb7, ?_⟩
      refine ⟨c8, ?_⟩
      refine ⟨hb7, ?_⟩
      refine ⟨fun hb9 => ?_, fun hb9 => ?_⟩
      · replace h := h.t hb9
        refine ⟨c8, ?_⟩
        refine ⟨hb7, ?_⟩
        refine ⟨c8, ?_⟩
        refine ⟨hb7, ?_⟩
        refine ⟨fun hb10 => ?_, fun hb10 => ?_⟩
        · replace h := h.t hb10
          refine ⟨fun hb11 => ?_, fun hb11 => ?_⟩
          · replace h := h.t hb11
            refine ⟨(_, _), h.1, GSt.ren [] rfl rfl rfl (fun i hi => absurd hi (Nat.not_lt_zero i)) (Nat.zero_le _) ?_ ?_, h.2⟩
            all_goals (repeat' (first | exact trivial | exact Or.inl rfl | exact Or.inr rfl | refine And.intro ?_ ?_))
          · replace h := h.f hb11
            refine ⟨(_, _), h.1, GSt.ren [] rfl rfl rfl (fun i hi => absurd hi (Nat.not_lt_zero i)) (Nat.zero_le _) ?_ ?_, h.2⟩
            all_goals (repeat' (first | exact trivial | exact Or.inl rfl | exact Or.inr rfl | refine And.intro ?_ ?_))
        · replace h := h.f hb10
          refine ⟨fun hb12 => ?_, fun hb12 => ?_⟩
          · replace h := h.t hb12
            refine ⟨(_, _), h.1, GSt.ren [] rfl rfl rfl (fun i hi => absurd hi (Nat.not_lt_zero i)) (Nat.zero_le _) ?_ ?_, h.2⟩
            all_goals (repeat' (first | exact trivial | exact Or.inl rfl | exact Or.inr rfl | refine And.intro ?_ ?_))
          · replace h := h.f hb12
            refine ⟨(_, _), h.1, GSt.ren [] rfl rfl rfl (fun i hi => absurd hi (Nat.not_lt_zero i)) (Nat.zero_le _) ?_ ?_, h.2⟩
            all_goals (repeat' (first | exact trivial | exact Or.inl rfl | exact Or.inr rfl | refine And.intro ?_ ?_))
      · replace h := h.f hb9
        refine ⟨fun hb13 => ?_, fun hb13 => ?_⟩
        · replace h := h.t hb13
          refine ⟨fun hb14 => ?_, fun hb14 => ?_⟩
          · replace h := h.t hb14
            refine ⟨(_, _), h.1, GSt.ren [] rfl rfl rfl (fun i hi => absurd hi (Nat.not_lt_zero i)) (Nat.zero_le _) ?_ ?_, h.2⟩
            all_goals (repeat' (first | exact trivial | exact Or.inl rfl | exact Or.inr rfl | refine And.intro ?_ ?_))
          · replace h := h.f hb14
            refine ⟨(_, _), h.1, GSt.ren [] rfl rfl rfl (fun i hi => absurd hi (Nat.not_lt_zero i)) (Nat.zero_le _) ?_ ?_, h.2⟩
            all_goals (repeat' (first | exact trivial | exact Or.inl rfl | exact Or.inr rfl | refine And.intro ?_ ?_))
        · replace h := h.f hb13
          refine ⟨fun hb15 => ?_, fun hb15 => ?_⟩
          · replace h := h.t hb15
            refine ⟨(_, _), h.1, GSt.ren [] rfl rfl rfl (fun i hi => absurd hi (Nat.not_lt_zero i)) (Nat.zero_le _) ?_ ?_, h.2⟩
            all_goals (repeat' (first | exact trivial | exact Or.inl rfl | exact Or.inr rfl | refine And.intro ?_ ?_))
          · replace h := h.f hb15
            refine ⟨(_, _), h.1, GSt.ren [] rfl rfl rfl (fun i hi => absurd hi (Nat.not_lt_zero i)) (Nat.zero_le _) ?_ ?_, h.2⟩
            all_goals (repeat' (first | exact trivial | exact Or.inl rfl | exact Or.inr rfl | refine And.intro ?_ ?_))
    · replace h := h.f hb7
      have h : _ = row := h
      subst h
      repeat' (first | exact trivial | exact rfl | refine And.intro ?_ ?_)
def vc72 (E : Env) (x1 : List (List C)) (x2 : Int) (x3 : Int) (Q : List C → Prop) : Prop :=
  LoopP1 (fun (i4 : Int) (K5 : (Int) → Prop) =>
  Br (E.lt i4 (E.len x1))
    (((E.le 0 i4) = true) ∧ 
      (Br (E.bite (E.bite (E.bite (E.le (E.gi (E.cell x1 i4 0)) x2) (E.lt x2 (E.gi (E.cell x1 i4 1))) false) (E.le (E.gi (E.cell x1 i4 2)) x3) false) (E.lt x3 (E.gi (E.cell x1 i4 3))) false)
      (Q [.bool true])
      (K5 ((E.add .i64 i4 1)))))
    (Q [.bool false]))
  (0)
theorem w72 {P : Program} {tbl : FuncId → List A → List C}  {x1 : List (List C)} {x2 : Int} {x3 : Int} {row : List C} (h : vc72 (stdE P tbl) x1 x2 x3 fun c => c = row) : WPg P tbl rf72 [(false, [.bool])] row [.c (.sl [.int .i64, .int .i64, .int .i64, .int .i64] x1), .c (.int .i64 x2), .c (.int .i64 x3)] := by
  refine ⟨?_⟩
  revert h
  generalize hE : stdE P tbl = E
  intro h
  unfold vc72 at h
  cbv
  obtain ⟨I, μ, h0, hI⟩ := h
  refine LoopW.inv (fun R R' s h k => RCode.wp_mono _ R R' s h k) (fun p : Int => (fun (i4 : Int) => (⟨[.c (.sl [.int .i64, .int .i64, .int .i64, .int .i64] x1), .c (.int .i64 x2), .c (.int .i64 x3), .u, .u, .u, .u, .c (.int .i64 i4), .u, .u, .u, .u, .u, .u, .u, .u, .u, .u, .u, .u, .u, .u, .u, .u, .u, .u, .u, .u, .u, .u, .u, .u, .u, .u, .u, .u, .u, .u, .u, .u, .u, .u, .u, .u, .u, .u, .u, .u], []⟩ : St)) p) (fun p => I p) (fun p => μ p) _ h0 ?_ ?_
  · refine GSt.ren [] rfl rfl rfl (fun i hi => absurd hi (Nat.not_lt_zero i)) (Nat.zero_le _) ?_ ?_
    all_goals (repeat' (first | exact trivial | exact Or.inl rfl | exact Or.inr rfl | refine And.intro ?_ ?_))
  · rintro i4 h
    replace h := hI i4 h
    cbv
    refine ⟨fun hb6 => ?_, fun hb6 => ?_⟩
    · replace h := h.t hb6
      have c7 := h.1
      refine ⟨c7, ?_⟩
      replace h := h.2
      refine ⟨hb6, ?_⟩
      refine ⟨⟨fun hh => hh⟩, ?_⟩
      refine ⟨⟨fun hh => hh⟩, ?_⟩
      refine ⟨⟨fun _ => c7⟩, ?_⟩
      refine ⟨⟨fun _ => hb6⟩, ?_⟩
      refine ⟨⟨fun hh => hh⟩, ?_⟩
      refine ⟨⟨fun hh => hh⟩, ?_⟩
      refine ⟨⟨fun hh => hh⟩, ?_⟩
      refine ⟨⟨fun hh => hh⟩, ?_⟩
      refine ⟨⟨fun hh => hh⟩, ?_⟩
      refine ⟨⟨fun hh => hh⟩, ?_⟩
      refine ⟨⟨fun hh => hh⟩, ?_⟩
      refine ⟨⟨fun _ => c7⟩, ?_⟩
      refine ⟨⟨fun _ => hb6⟩, ?_⟩
      refine ⟨⟨fun hh => hh⟩, ?_⟩
      refine ⟨⟨fun hh => hh⟩, ?_⟩
      refine ⟨⟨fun hh => hh⟩, ?_⟩
      refine ⟨⟨fun hh => hh⟩, ?_⟩
      refine ⟨⟨fun hh => hh⟩, ?_⟩
      refine ⟨⟨fun hh => hh⟩, ?_⟩
      refine ⟨⟨fun hh => hh⟩, ?_⟩
      refine ⟨⟨fun _ => c7⟩, ?_⟩
      refine ⟨⟨fun _ => hb6⟩, ?_⟩
      refine ⟨⟨fun hh => hh⟩, ?_⟩
      refine ⟨⟨fun hh => hh⟩, ?_⟩
      refine ⟨⟨fun hh => hh⟩, ?_⟩
      refine ⟨⟨fun hh => hh⟩, ?_⟩
      refine ⟨⟨fun hh => hh⟩, ?_⟩
      refine ⟨fun hb8 => ?_, fun hb8 => ?_⟩
      · replace h := h.t hb8
        have h : _ = row := h
        subst h
        repeat' (first | exact trivial | exact rfl | refine And.intro ?_ ?_)
      · replace h := h.f hb8
        refine ⟨_, h.1, GSt.ren [] rfl rfl rfl (fun i hi => absurd hi (Nat.not_lt_zero i)) (Nat.zero_le _) ?_ ?_, h.2⟩
        all_goals (repeat' (first | exact trivial | exact Or.inl rfl | exact Or.inr rfl | refine And.intro ?_ ?_))
    · replace h := h.f hb6
      have h : _ = row := h
      subst h
      repeat' (first | exact trivial | exact rfl | refine And.intro ?_ ?_)
end Go.Proofs.Ytkdapoipnkpbeaa.R
