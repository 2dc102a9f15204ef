/- Defects: the walks of what checks and compares them. No conditions. -/
import Derived.Test.YtkdapoipnkpbeaaPairs
set_option linter.unusedVariables false
set_option linter.unusedSimpArgs false
namespace Go.Proofs.Ytkdapoipnkpbeaa.V
open Go Go.Eng
set_option maxRecDepth 1000000
set_option maxHeartbeats 1000000
/-- papermill papermillref36.Check -/
def rf14 : RFn := ⟨(.seq (.ops 0 [⟨(some 2), (.v (.mv (.k (.c (.int .i64 0))))), none, []⟩]) (.seq (.seq (.ops 0 [⟨(some 5), (.v (.mv (.t 0))), none, []⟩, ⟨(some 6), (.v (.lenS (.t 5))), none, []⟩, ⟨(some 7), (.v (.bin .gtr (.t 6) (.k (.c (.int .i64 128))))), none, []⟩]) (.cond (.t 7) (.seq (.ops 0 [⟨(some 2), (.v (.mv (.k (.c (.int .i64 8))))), none, []⟩]) .ret) .skip)) (.seq (.seq (.ops 0 [⟨(some 3), (.v (.mv (.k (.c (.int .i64 0))))), none, []⟩]) (.block 0 (.loop (.seq (.seq (.ops 0 [⟨(some 8), (.v (.mv (.t 3))), none, []⟩, ⟨(some 9), (.v (.mv (.t 0))), none, []⟩, ⟨(some 10), (.v (.lenS (.t 9))), none, []⟩, ⟨(some 11), (.v (.bin .lss (.t 8) (.t 10))), none, []⟩]) (.cond (.t 11) .skip (.exit 0))) (.seq (.block 1 (.seq (.seq (.ops 0 [⟨(some 14), (.v (.mv (.t 0))), none, []⟩, ⟨(some 15), (.v (.mv (.t 3))), none, []⟩, ⟨(some 16), (.v (.ia 6 (.t 14) (.t 15))), none, []⟩, ⟨(some 17), (.v (.fa 0 (.t 16))), none, []⟩, ⟨(some 18), (.v (.lda 4 (.t 17))), none, []⟩, ⟨(some 19), (.v (.det 38 [⟨false, [(.int .i64)]⟩] [(.t 18)])), none, []⟩, ⟨(some 4), (.v (.mv (.t 19))), none, []⟩]) (.seq (.ops 0 [⟨(some 20), (.v (.mv (.t 4))), none, []⟩, ⟨(some 21), (.v (.bin .neq (.t 20) (.k (.c (.int .i64 0))))), none, []⟩]) (.cond (.t 21) (.seq (.ops 0 [⟨(some 22), (.v (.mv (.t 4))), none, []⟩, ⟨(some 2), (.v (.mv (.t 22))), none, []⟩]) .ret) .skip))) (.seq (.seq (.any 0 [⟨0, ⟨[], ⟨(some 23), (.v (.mv (.t 0))), none, []⟩⟩⟩, ⟨1, ⟨[], ⟨(some 24), (.v (.mv (.t 3))), none, []⟩⟩⟩, ⟨2, ⟨[0, 1], ⟨(some 25), (.v (.ia 6 (.t 23) (.t 24))), none, []⟩⟩⟩, ⟨3, ⟨[2, 0, 1], ⟨(some 26), (.v (.fa 0 (.t 25))), none, []⟩⟩⟩, ⟨4, ⟨[3, 2, 0, 1], ⟨(some 27), (.v (.fa 0 (.t 26))), none, []⟩⟩⟩, ⟨5, ⟨[4, 3, 2, 0, 1], ⟨(some 28), (.v (.ld (.t 27))), none, []⟩⟩⟩, ⟨6, ⟨[], ⟨(some 29), (.v (.mv (.t 0))), none, []⟩⟩⟩, ⟨7, ⟨[], ⟨(some 30), (.v (.mv (.t 3))), none, []⟩⟩⟩, ⟨8, ⟨[6, 7], ⟨(some 31), (.v (.ia 6 (.t 29) (.t 30))), none, []⟩⟩⟩, ⟨9, ⟨[8, 6, 7], ⟨(some 32), (.v (.fa 0 (.t 31))), none, []⟩⟩⟩, ⟨10, ⟨[9, 8, 6, 7], ⟨(some 33), (.v (.fa 1 (.t 32))), none, []⟩⟩⟩, ⟨11, ⟨[10, 9, 8, 6, 7], ⟨(some 34), (.v (.ld (.t 33))), none, []⟩⟩⟩, ⟨12, ⟨[5, 4, 3, 2, 0, 1, 11, 10, 9, 8, 6, 7], ⟨(some 35), (.v (.bin .eql (.t 28) (.t 34))), none, []⟩⟩⟩, ⟨13, ⟨[12, 5, 4, 3, 2, 0, 1, 11, 10, 9, 8, 6, 7], ⟨(some 36), (.v (.mv (.t 35))), none, []⟩⟩⟩, ⟨14, ⟨[13, 12, 5, 4, 3, 2, 0, 1, 11, 10, 9, 8, 6, 7], ⟨(some 37), (.v (.mv (.t 0))), (some ⟨36, false⟩), [(.t 0)]⟩⟩⟩, ⟨15, ⟨[13, 12, 5, 4, 3, 2, 0, 1, 11, 10, 9, 8, 6, 7], ⟨(some 38), (.v (.mv (.t 3))), (some ⟨36, false⟩), [(.t 3)]⟩⟩⟩, ⟨16, ⟨[14, 15, 13, 12, 5, 4, 3, 2, 0, 1, 11, 10, 9, 8, 6, 7], ⟨(some 39), (.v (.ia 6 (.t 37) (.t 38))), (some ⟨36, false⟩), [(.t 37), (.t 38)]⟩⟩⟩, ⟨17, ⟨[16, 14, 15, 13, 12, 5, 4, 3, 2, 0, 1, 11, 10, 9, 8, 6, 7], ⟨(some 40), (.v (.fa 0 (.t 39))), (some ⟨36, false⟩), [(.t 39)]⟩⟩⟩, ⟨18, ⟨[17, 16, 14, 15, 13, 12, 5, 4, 3, 2, 0, 1, 11, 10, 9, 8, 6, 7], ⟨(some 41), (.v (.fa 2 (.t 40))), (some ⟨36, false⟩), [(.t 40)]⟩⟩⟩, ⟨19, ⟨[18, 17, 16, 14, 15, 13, 12, 5, 4, 3, 2, 0, 1, 11, 10, 9, 8, 6, 7], ⟨(some 42), (.v (.ld (.t 41))), (some ⟨36, false⟩), [(.t 41)]⟩⟩⟩, ⟨20, ⟨[13, 12, 5, 4, 3, 2, 0, 1, 11, 10, 9, 8, 6, 7], ⟨(some 43), (.v (.mv (.t 0))), (some ⟨36, false⟩), [(.t 0)]⟩⟩⟩, ⟨21, ⟨[13, 12, 5, 4, 3, 2, 0, 1, 11, 10, 9, 8, 6, 7], ⟨(some 44), (.v (.mv (.t 3))), (some ⟨36, false⟩), [(.t 3)]⟩⟩⟩, ⟨22, ⟨[20, 21, 13, 12, 5, 4, 3, 2, 0, 1, 11, 10, 9, 8, 6, 7], ⟨(some 45), (.v (.ia 6 (.t 43) (.t 44))), (some ⟨36, false⟩), [(.t 43), (.t 44)]⟩⟩⟩, ⟨23, ⟨[22, 20, 21, 13, 12, 5, 4, 3, 2, 0, 1, 11, 10, 9, 8, 6, 7], ⟨(some 46), (.v (.fa 0 (.t 45))), (some ⟨36, false⟩), [(.t 45)]⟩⟩⟩, ⟨24, ⟨[23, 22, 20, 21, 13, 12, 5, 4, 3, 2, 0, 1, 11, 10, 9, 8, 6, 7], ⟨(some 47), (.v (.fa 3 (.t 46))), (some ⟨36, false⟩), [(.t 46)]⟩⟩⟩, ⟨25, ⟨[24, 23, 22, 20, 21, 13, 12, 5, 4, 3, 2, 0, 1, 11, 10, 9, 8, 6, 7], ⟨(some 48), (.v (.ld (.t 47))), (some ⟨36, false⟩), [(.t 47)]⟩⟩⟩, ⟨26, ⟨[19, 18, 17, 16, 14, 15, 25, 24, 23, 22, 20, 21, 13, 12, 5, 4, 3, 2, 0, 1, 11, 10, 9, 8, 6, 7], ⟨(some 49), (.v (.bin .eql (.t 42) (.t 48))), (some ⟨36, false⟩), [(.t 42), (.t 48)]⟩⟩⟩, ⟨27, ⟨[26, 19, 18, 17, 16, 14, 15, 25, 24, 23, 22, 20, 21, 13, 12, 5, 4, 3, 2, 0, 1, 11, 10, 9, 8, 6, 7], ⟨(some 50), (.v (.pick (.t 36) (.k (.c (.bool true))) (.t 49))), none, []⟩⟩⟩]) (.cond (.t 50) (.seq (.ops 0 [⟨(some 2), (.v (.mv (.k (.c (.int .i64 10))))), none, []⟩]) .ret) .skip)) (.seq (.ops 0 [⟨(some 51), (.v (.mv (.t 0))), none, []⟩, ⟨(some 52), (.v (.mv (.t 3))), none, []⟩, ⟨(some 53), (.v (.ia 6 (.t 51) (.t 52))), none, []⟩, ⟨(some 54), (.v (.fa 4 (.t 53))), none, []⟩, ⟨(some 55), (.v (.ld (.t 54))), none, []⟩, ⟨(some 56), (.v (.bin .lss (.t 55) (.k (.c (.int .i64 1))))), none, []⟩, ⟨(some 57), (.v (.mv (.t 56))), none, []⟩, ⟨(some 58), (.v (.mv (.t 0))), (some ⟨57, false⟩), [(.t 0)]⟩, ⟨(some 59), (.v (.mv (.t 3))), (some ⟨57, false⟩), [(.t 3)]⟩, ⟨(some 60), (.v (.ia 6 (.t 58) (.t 59))), (some ⟨57, false⟩), [(.t 58), (.t 59)]⟩, ⟨(some 61), (.v (.fa 4 (.t 60))), (some ⟨57, false⟩), [(.t 60)]⟩, ⟨(some 62), (.v (.ld (.t 61))), (some ⟨57, false⟩), [(.t 61)]⟩, ⟨(some 63), (.v (.bin .gtr (.t 62) (.k (.c (.int .i64 16))))), (some ⟨57, false⟩), [(.t 62), (.k (.c (.int .i64 16)))]⟩, ⟨(some 64), (.v (.pick (.t 57) (.k (.c (.bool true))) (.t 63))), none, []⟩, ⟨(some 65), (.v (.mv (.t 64))), none, []⟩, ⟨(some 66), (.v (.mv (.t 0))), (some ⟨65, false⟩), [(.t 0)]⟩, ⟨(some 67), (.v (.mv (.t 3))), (some ⟨65, false⟩), [(.t 3)]⟩, ⟨(some 68), (.v (.ia 6 (.t 66) (.t 67))), (some ⟨65, false⟩), [(.t 66), (.t 67)]⟩, ⟨(some 69), (.v (.fa 5 (.t 68))), (some ⟨65, false⟩), [(.t 68)]⟩, ⟨(some 70), (.v (.ld (.t 69))), (some ⟨65, false⟩), [(.t 69)]⟩, ⟨(some 71), (.v (.bin .lss (.t 70) (.k (.c (.int .i64 1))))), (some ⟨65, false⟩), [(.t 70), (.k (.c (.int .i64 1)))]⟩, ⟨(some 72), (.v (.pick (.t 65) (.k (.c (.bool true))) (.t 71))), none, []⟩, ⟨(some 73), (.v (.mv (.t 72))), none, []⟩, ⟨(some 74), (.v (.mv (.t 0))), (some ⟨73, false⟩), [(.t 0)]⟩, ⟨(some 75), (.v (.mv (.t 3))), (some ⟨73, false⟩), [(.t 3)]⟩, ⟨(some 76), (.v (.ia 6 (.t 74) (.t 75))), (some ⟨73, false⟩), [(.t 74), (.t 75)]⟩, ⟨(some 77), (.v (.fa 5 (.t 76))), (some ⟨73, false⟩), [(.t 76)]⟩, ⟨(some 78), (.v (.ld (.t 77))), (some ⟨73, false⟩), [(.t 77)]⟩, ⟨(some 79), (.v (.bin .gtr (.t 78) (.k (.c (.int .i64 100))))), (some ⟨73, false⟩), [(.t 78), (.k (.c (.int .i64 100)))]⟩, ⟨(some 80), (.v (.pick (.t 73) (.k (.c (.bool true))) (.t 79))), none, []⟩]) (.cond (.t 80) (.seq (.ops 0 [⟨(some 2), (.v (.mv (.k (.c (.int .i64 1))))), none, []⟩]) .ret) .skip))))) (.ops 0 [⟨(some 12), (.v (.mv (.t 3))), none, []⟩, ⟨(some 13), (.v (.bin .add (.t 12) (.k (.c (.int .i64 1))))), none, []⟩, ⟨(some 3), (.v (.mv (.t 13))), none, []⟩])))))) (.seq (.ops 0 [⟨(some 2), (.v (.mv (.k (.c (.int .i64 0))))), none, []⟩]) .ret)))), 81, [(.t 2)]⟩
theorem h14 : fnR Try.prog DD 14 = some rf14 := by kernel_rfl
def vc13 (E : Env) (x1 : List (List C)) (Q : List C → Prop) : Prop :=
  Br (E.lt 128 (E.len x1))
  (Q [.int .i64 8])
  (LoopP1 (fun (i2 : Int) (K3 : (Int) → Prop) =>
    Br (E.lt i2 (E.len x1))
      (((E.le 0 i2) = true) ∧ 
        ((E.pok 37 [(false, [.int .i64])] [.agg [.c (.int .i64 (E.gi (E.cell x1 i2 0))), .c (.int .i64 (E.gi (E.cell x1 i2 1))), .c (.int .i64 (E.gi (E.cell x1 i2 2))), .c (.int .i64 (E.gi (E.cell x1 i2 3)))]]) ∧ (∀ r4 : Nat → C, r4 = E.res 37 [.agg [.c (.int .i64 (E.gi (E.cell x1 i2 0))), .c (.int .i64 (E.gi (E.cell x1 i2 1))), .c (.int .i64 (E.gi (E.cell x1 i2 2))), .c (.int .i64 (E.gi (E.cell x1 i2 3)))]] → 
        (Br (E.not (E.eq (E.gi (r4 0)) 0))
        (Q [.int .i64 (E.gi (r4 0))])
        (Br (E.bite (E.eq (E.gi (E.cell x1 i2 0)) (E.gi (E.cell x1 i2 1))) true (E.eq (E.gi (E.cell x1 i2 2)) (E.gi (E.cell x1 i2 3))))
          (Q [.int .i64 10])
          (Br (E.bite (E.bite (E.bite (E.lt (E.gi (E.cell x1 i2 4)) 1) true (E.lt 16 (E.gi (E.cell x1 i2 4)))) true (E.lt (E.gi (E.cell x1 i2 5)) 1)) true (E.lt 100 (E.gi (E.cell x1 i2 5))))
            (Q [.int .i64 1])
            (K3 ((E.add .i64 i2 1)))))))))
      (Q [.int .i64 0]))
    (0))
theorem w13 {P : Program} {tbl : FuncId → List A → List C}  {x1 : List (List C)} {row : List C} (h : vc13 (stdE P tbl) x1 fun c => c = row) : WPg P tbl rf13 [(false, [.int .i64])] row [.c (.sl [.int .i64, .int .i64, .int .i64, .int .i64, .int .i64, .int .i64] x1)] := by
  refine ⟨?_⟩
  revert h
  generalize hE : stdE P tbl = E
  intro h
  unfold vc13 at h
  cbv
  refine ⟨fun hb5 => ?_, fun hb5 => ?_⟩
  · replace h := h.t hb5
    have h : _ = row := h
    subst h
    repeat' (first | exact trivial | exact rfl | refine And.intro ?_ ?_)
  · replace h := h.f hb5
    obtain ⟨I, μ, h0, hI⟩ := h
    refine LoopW.inv (fun R R' s h k => RCode.wp_mono _ R R' s h k) (fun p : Int => (fun (i2 : Int) => (⟨[.u, .u, .u, .u, .u, .u, .u, .u, .u, .c (.sl [.int .i64, .int .i64, .int .i64, .int .i64, .int .i64, .int .i64] x1), .c (.int .i64 (E.len x1)), .c (.int .i64 i2), .u, .u, .u, .u, .u, .u, .u, .u, .u, .u, .u, .u, .u, .u, .u, .u, .u, .u, .u, .u, .u, .u, .u, .u, .u, .u, .u, .u, .u, .u, .u, .u, .u, .u, .u, .u, .u, .u, .u, .u, .u, .u, .u, .u, .u, .u], []⟩ : St)) p) (fun p => I p) (fun p => μ p) _ h0 ?_ ?_
    · refine GSt.ren [] rfl rfl rfl (fun i hi => absurd hi (Nat.not_lt_zero i)) (Nat.zero_le _) ?_ ?_
      all_goals (repeat' (first | exact trivial | exact Or.inl rfl | exact Or.inr rfl | refine And.intro ?_ ?_))
    · rintro i2 h
      replace h := hI i2 h
      cbv
      refine ⟨fun hb6 => ?_, fun hb6 => ?_⟩
      · replace h := h.t hb6
        have c7 := h.1
        refine ⟨c7, ?_⟩
        replace h := h.2
        refine ⟨hb6, ?_⟩
        have c8 := h.1
        refine ⟨c8, ?_⟩
        replace h := h.2 _ rfl
        refine ⟨fun hb9 => ?_, fun hb9 => ?_⟩
        · replace h := h.t hb9
          have h : _ = row := h
          subst h
          repeat' (first | exact trivial | exact rfl | refine And.intro ?_ ?_)
        · replace h := h.f hb9
          refine ⟨⟨fun hh => hh⟩, ?_⟩
          refine ⟨⟨fun hh => hh⟩, ?_⟩
          refine ⟨⟨fun hh => hh⟩, ?_⟩
          refine ⟨⟨fun hh => hh⟩, ?_⟩
          refine ⟨⟨fun hh => hh⟩, ?_⟩
          refine ⟨⟨fun hh => hh⟩, ?_⟩
          refine ⟨⟨fun hh => hh⟩, ?_⟩
          refine ⟨fun hb10 => ?_, fun hb10 => ?_⟩
          · replace h := h.t hb10
            have h : _ = row := h
            subst h
            repeat' (first | exact trivial | exact rfl | refine And.intro ?_ ?_)
          · replace h := h.f hb10
            refine ⟨⟨fun hh => hh⟩, ?_⟩
            refine ⟨⟨fun hh => hh⟩, ?_⟩
            refine ⟨⟨fun hh => hh⟩, ?_⟩
            refine ⟨⟨fun hh => hh⟩, ?_⟩
            refine ⟨⟨fun hh => hh⟩, ?_⟩
            refine ⟨⟨fun hh => hh⟩, ?_⟩
            refine ⟨⟨fun hh => hh⟩, ?_⟩
            refine ⟨⟨fun hh => hh⟩, ?_⟩
            refine ⟨⟨fun hh => hh⟩, ?_⟩
            refine ⟨fun hb11 => ?_, fun hb11 => ?_⟩
            · replace h := h.t hb11
              have h : _ = row := h
              subst h
              repeat' (first | exact trivial | exact rfl | refine And.intro ?_ ?_)
            · replace h := h.f hb11
              refine ⟨_, h.1, GSt.ren [] rfl rfl rfl (fun i hi => absurd hi (Nat.not_lt_zero i)) (Nat.zero_le _) ?_ ?_, h.2⟩
              all_goals (repeat' (first | exact trivial | exact Or.inl rfl | exact Or.inr rfl | refine And.intro ?_ ?_))
      · replace h := h.f hb6
        have h : _ = row := h
        subst h
        repeat' (first | exact trivial | exact rfl | refine And.intro ?_ ?_)
def vc14 (E : Env) (x1 : List (List C)) (Q : List C → Prop) : Prop :=
  Br (E.lt 128 (E.len x1))
  (Q [.int .i64 8])
  (LoopP1 (fun (i2 : Int) (K3 : (Int) → Prop) =>
    Br (E.lt i2 (E.len x1))
      (((E.le 0 i2) = true) ∧ 
        ((E.pok 38 [(false, [.int .i64])] [.agg [.c (.int .i64 (E.gi (E.cell x1 i2 0))), .c (.int .i64 (E.gi (E.cell x1 i2 1))), .c (.int .i64 (E.gi (E.cell x1 i2 2))), .c (.int .i64 (E.gi (E.cell x1 i2 3)))]]) ∧ (∀ r4 : Nat → C, r4 = E.res 38 [.agg [.c (.int .i64 (E.gi (E.cell x1 i2 0))), .c (.int .i64 (E.gi (E.cell x1 i2 1))), .c (.int .i64 (E.gi (E.cell x1 i2 2))), .c (.int .i64 (E.gi (E.cell x1 i2 3)))]] → 
        (Br (E.not (E.eq (E.gi (r4 0)) 0))
        (Q [.int .i64 (E.gi (r4 0))])
        (Br (E.bite (E.eq (E.gi (E.cell x1 i2 0)) (E.gi (E.cell x1 i2 1))) true (E.eq (E.gi (E.cell x1 i2 2)) (E.gi (E.cell x1 i2 3))))
          (Q [.int .i64 10])
          (Br (E.bite (E.bite (E.bite (E.lt (E.gi (E.cell x1 i2 4)) 1) true (E.lt 16 (E.gi (E.cell x1 i2 4)))) true (E.lt (E.gi (E.cell x1 i2 5)) 1)) true (E.lt 100 (E.gi (E.cell x1 i2 5))))
            (Q [.int .i64 1])
            (K3 ((E.add .i64 i2 1)))))))))
      (Q [.int .i64 0]))
    (0))
theorem w14 {P : Program} {tbl : FuncId → List A → List C}  {x1 : List (List C)} {row : List C} (h : vc14 (stdE P tbl) x1 fun c => c = row) : WPg P tbl rf14 [(false, [.int .i64])] row [.c (.sl [.int .i64, .int .i64, .int .i64, .int .i64, .int .i64, .int .i64] x1)] := by
  refine ⟨?_⟩
  revert h
  generalize hE : stdE P tbl = E
  intro h
  unfold vc14 at h
  cbv
  refine ⟨fun hb5 => ?_, fun hb5 => ?_⟩
  · replace h := h.t hb5
    have h : _ = row := h
    subst h
    repeat' (first | exact trivial | exact rfl | refine And.intro ?_ ?_)
  · replace h := h.f hb5
    obtain ⟨I, μ, h0, hI⟩ := h
    refine LoopW.inv (fun R R' s h k => RCode.wp_mono _ R R' s h k) (fun p : Int => (fun (i2 : Int) => (⟨[.c (.sl [.int .i64, .int .i64, .int .i64, .int .i64, .int .i64, .int .i64] x1), .u, .u, .c (.int .i64 i2), .u, .u, .u, .u, .u, .u, .u, .u, .u, .u, .u, .u, .u, .u, .u, .u, .u, .u, .u, .u, .u, .u, .u, .u, .u, .u, .u, .u, .u, .u, .u, .u, .u, .u, .u, .u, .u, .u, .u, .u, .u, .u, .u, .u, .u, .u, .u, .u, .u, .u, .u, .u, .u, .u, .u, .u, .u, .u, .u, .u, .u, .u, .u, .u, .u, .u, .u, .u, .u, .u, .u, .u, .u, .u, .u, .u, .u], []⟩ : St)) p) (fun p => I p) (fun p => μ p) _ h0 ?_ ?_
    · refine GSt.ren [] rfl rfl rfl (fun i hi => absurd hi (Nat.not_lt_zero i)) (Nat.zero_le _) ?_ ?_
      all_goals (repeat' (first | exact trivial | exact Or.inl rfl | exact Or.inr rfl | refine And.intro ?_ ?_))
    · rintro i2 h
      replace h := hI i2 h
      cbv
      refine ⟨fun hb6 => ?_, fun hb6 => ?_⟩
      · replace h := h.t hb6
        have c7 := h.1
        refine ⟨c7, ?_⟩
        replace h := h.2
        refine ⟨hb6, ?_⟩
        have c8 := h.1
        refine ⟨c8, ?_⟩
        replace h := h.2 _ rfl
        refine ⟨fun hb9 => ?_, fun hb9 => ?_⟩
        · replace h := h.t hb9
          have h : _ = row := h
          subst h
          repeat' (first | exact trivial | exact rfl | refine And.intro ?_ ?_)
        · replace h := h.f hb9
          refine ⟨c7, ?_⟩
          refine ⟨hb6, ?_⟩
          refine ⟨c7, ?_⟩
          refine ⟨hb6, ?_⟩
          refine ⟨⟨fun hh => hh⟩, ?_⟩
          refine ⟨⟨fun hh => hh⟩, ?_⟩
          refine ⟨⟨fun _ => c7⟩, ?_⟩
          refine ⟨⟨fun _ => hb6⟩, ?_⟩
          refine ⟨⟨fun hh => hh⟩, ?_⟩
          refine ⟨⟨fun hh => hh⟩, ?_⟩
          refine ⟨⟨fun hh => hh⟩, ?_⟩
          refine ⟨⟨fun hh => hh⟩, ?_⟩
          refine ⟨⟨fun hh => hh⟩, ?_⟩
          refine ⟨⟨fun _ => c7⟩, ?_⟩
          refine ⟨⟨fun _ => hb6⟩, ?_⟩
          refine ⟨⟨fun hh => hh⟩, ?_⟩
          refine ⟨⟨fun hh => hh⟩, ?_⟩
          refine ⟨⟨fun hh => hh⟩, ?_⟩
          refine ⟨⟨fun hh => hh⟩, ?_⟩
          refine ⟨⟨fun hh => hh⟩, ?_⟩
          refine ⟨⟨fun hh => hh⟩, ?_⟩
          refine ⟨fun hb10 => ?_, fun hb10 => ?_⟩
          · replace h := h.t hb10
            have h : _ = row := h
            subst h
            repeat' (first | exact trivial | exact rfl | refine And.intro ?_ ?_)
          · replace h := h.f hb10
            refine ⟨c7, ?_⟩
            refine ⟨hb6, ?_⟩
            refine ⟨⟨fun hh => hh⟩, ?_⟩
            refine ⟨⟨fun hh => hh⟩, ?_⟩
            refine ⟨⟨fun _ => c7⟩, ?_⟩
            refine ⟨⟨fun _ => hb6⟩, ?_⟩
            refine ⟨⟨fun hh => hh⟩, ?_⟩
            refine ⟨⟨fun hh => hh⟩, ?_⟩
            refine ⟨⟨fun hh => hh⟩, ?_⟩
            refine ⟨⟨fun hh => hh⟩, ?_⟩
            refine ⟨⟨fun hh => hh⟩, ?_⟩
            refine ⟨⟨fun hh => hh⟩, ?_⟩
            refine ⟨⟨fun _ => c7⟩, ?_⟩
            refine ⟨⟨fun _ => hb6⟩, ?_⟩
            refine ⟨⟨fun hh => hh⟩, ?_⟩
            refine ⟨⟨fun hh => hh⟩, ?_⟩
            refine ⟨⟨fun hh => hh⟩, ?_⟩
            refine ⟨⟨fun hh => hh⟩, ?_⟩
            refine ⟨⟨fun hh => hh⟩, ?_⟩
            refine ⟨⟨fun hh => hh⟩, ?_⟩
            refine ⟨⟨fun _ => c7⟩, ?_⟩
            refine ⟨⟨fun _ => hb6⟩, ?_⟩
            refine ⟨⟨fun hh => hh⟩, ?_⟩
            refine ⟨⟨fun hh => hh⟩, ?_⟩
            refine ⟨⟨fun hh => hh⟩, ?_⟩
            refine ⟨⟨fun hh => hh⟩, ?_⟩
            refine ⟨fun hb11 => ?_, fun hb11 => ?_⟩
            · replace h := h.t hb11
              have h : _ = row := h
              subst h
              repeat' (first | exact trivial | exact rfl | refine And.intro ?_ ?_)
            · replace h := h.f hb11
              refine ⟨_, h.1, GSt.ren [] rfl rfl rfl (fun i hi => absurd hi (Nat.not_lt_zero i)) (Nat.zero_le _) ?_ ?_, h.2⟩
              all_goals (repeat' (first | exact trivial | exact Or.inl rfl | exact Or.inr rfl | refine And.intro ?_ ?_))
      · replace h := h.f hb6
        have h : _ = row := h
        subst h
        repeat' (first | exact trivial | exact rfl | refine And.intro ?_ ?_)
def vc15 (E : Env) (x1 : List (List C)) (x2 : List (List C)) (Q : List C → Prop) : Prop :=
  Br (E.not (E.eq (E.len x1) (E.len x2)))
  (Q [.bool false])
  (LoopP1 (fun (i3 : Int) (K4 : (Int) → Prop) =>
    Br (E.lt i3 (E.len x1))
      (((E.le 0 i3) = true) ∧ 
        (((E.lt i3 (E.len x2)) = true) ∧ 
        (Br (E.not (E.and (E.eq (E.gi (E.cell x1 i3 0)) (E.gi (E.cell x2 i3 0))) (E.and (E.eq (E.gi (E.cell x1 i3 1)) (E.gi (E.cell x2 i3 1))) (E.and (E.eq (E.gi (E.cell x1 i3 2)) (E.gi (E.cell x2 i3 2))) (E.and (E.eq (E.gi (E.cell x1 i3 3)) (E.gi (E.cell x2 i3 3))) (E.and (E.eq (E.gi (E.cell x1 i3 4)) (E.gi (E.cell x2 i3 4))) (E.and (E.eq (E.gi (E.cell x1 i3 5)) (E.gi (E.cell x2 i3 5))) true)))))))
        (Q [.bool false])
        (K4 ((E.add .i64 i3 1))))))
      (Q [.bool true]))
    (0))
theorem w15 {P : Program} {tbl : FuncId → List A → List C}  {x1 : List (List C)} {x2 : List (List C)} {row : List C} (h : vc15 (stdE P tbl) x1 x2 fun c => c = row) : WPg P tbl rf15 [(false, [.bool])] row [.c (.sl [.int .i64, .int .i64, .int .i64, .int .i64, .int .i64, .int .i64] x1), .c (.sl [.int .i64, .int .i64, .int .i64, .int .i64, .int .i64, .int .i64] x2)] := by
  refine ⟨?_⟩
  revert h
  generalize hE : stdE P tbl = E
  intro h
  unfold vc15 at h
  cbv
  refine ⟨fun hb5 => ?_, fun hb5 => ?_⟩
  · replace h := h.t hb5
    have h : _ = row := h
    subst h
    repeat' (first | exact trivial | exact rfl | refine And.intro ?_ ?_)
  · replace h := h.f hb5
    obtain ⟨I, μ, h0, hI⟩ := h
    refine LoopW.inv (fun R R' s h k => RCode.wp_mono _ R R' s h k) (fun p : Int => (fun (i3 : Int) => (⟨[.c (.sl [.int .i64, .int .i64, .int .i64, .int .i64, .int .i64, .int .i64] x1), .c (.sl [.int .i64, .int .i64, .int .i64, .int .i64, .int .i64, .int .i64] x2), .u, .u, .u, .c (.int .i64 i3), .u, .u, .u, .u, .u, .u, .u, .u, .u, .u, .u, .u, .u, .u, .u, .u, .u, .u, .u, .u], []⟩ : St)) p) (fun p => I p) (fun p => μ p) _ h0 ?_ ?_
    · refine GSt.ren [] rfl rfl rfl (fun i hi => absurd hi (Nat.not_lt_zero i)) (Nat.zero_le _) ?_ ?_
      all_goals (repeat' (first | exact trivial | exact Or.inl rfl | exact Or.inr rfl | refine And.intro ?_ ?_))
    · rintro i3 h
      replace h := hI i3 h
      cbv
      refine ⟨fun hb6 => ?_, fun hb6 => ?_⟩
      · replace h := h.t hb6
        have c7 := h.1
        refine ⟨c7, ?_⟩
        replace h := h.2
        refine ⟨hb6, ?_⟩
        refine ⟨c7, ?_⟩
        have c8 := h.1
        refine ⟨c8, ?_⟩
        replace h := h.2
        refine ⟨fun hb9 => ?_, fun hb9 => ?_⟩
        · replace h := h.t hb9
          have h : _ = row := h
          subst h
          repeat' (first | exact trivial | exact rfl | refine And.intro ?_ ?_)
        · replace h := h.f hb9
          refine ⟨_, h.1, GSt.ren [] rfl rfl rfl (fun i hi => absurd hi (Nat.not_lt_zero i)) (Nat.zero_le _) ?_ ?_, h.2⟩
          all_goals (repeat' (first | exact trivial | exact Or.inl rfl | exact Or.inr rfl | refine And.intro ?_ ?_))
      · replace h := h.f hb6
        have h : _ = row := h
        subst h
        repeat' (first | exact trivial | exact rfl | refine And.intro ?_ ?_)
end Go.Proofs.Ytkdapoipnkpbeaa.V
