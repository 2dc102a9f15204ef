/- Defects: the walks of what finds the worst. No conditions. -/
import Derived.Test.YtkdapoipnkpbeaaPairs
set_option linter.unusedVariables false
set_option linter.unusedSimpArgs false
namespace Go.Proofs.Ytkdapoipnkpbeaa.V
open Go Go.Eng
set_option maxRecDepth 1000000
set_option maxHeartbeats 1000000
/-- papermill papermillref36.Worst -/
def rf21 : RFn := ⟨(.seq (.ops 0 [⟨(some 2), (.v (.mv (.k (.c (.int .i64 0))))), none, []⟩, ⟨(some 3), (.v (.mv (.k (.c (.int .i64 0))))), none, []⟩]) (.seq (.seq (.ops 0 [⟨(some 7), (.v (.mv (.t 0))), none, []⟩, ⟨(some 8), (.v (.det 14 [⟨false, [(.int .i64)]⟩] [(.t 7)])), none, []⟩, ⟨(some 4), (.v (.mv (.t 8))), none, []⟩]) (.seq (.ops 0 [⟨(some 9), (.v (.mv (.t 4))), none, []⟩, ⟨(some 10), (.v (.bin .neq (.t 9) (.k (.c (.int .i64 0))))), none, []⟩]) (.cond (.t 10) (.seq (.ops 0 [⟨(some 11), (.v (.mv (.t 4))), none, []⟩, ⟨(some 2), (.v (.mv (.k (.c (.int .i64 0))))), none, []⟩, ⟨(some 3), (.v (.mv (.t 11))), none, []⟩]) .ret) .skip))) (.seq (.ops 0 [⟨(some 5), (.v (.mv (.k (.c (.int .i64 0))))), none, []⟩]) (.seq (.seq (.ops 0 [⟨(some 6), (.v (.mv (.k (.c (.int .i64 0))))), none, []⟩]) (.block 0 (.loop (.seq (.seq (.ops 0 [⟨(some 12), (.v (.mv (.t 6))), none, []⟩, ⟨(some 13), (.v (.mv (.t 0))), none, []⟩, ⟨(some 14), (.v (.lenS (.t 13))), none, []⟩, ⟨(some 15), (.v (.bin .lss (.t 12) (.t 14))), none, []⟩]) (.cond (.t 15) .skip (.exit 0))) (.seq (.block 1 (.ops 0 [⟨(some 18), (.v (.mv (.t 5))), none, []⟩, ⟨(some 19), (.v (.mv (.t 0))), none, []⟩, ⟨(some 20), (.v (.mv (.t 6))), none, []⟩, ⟨(some 21), (.v (.ia 6 (.t 19) (.t 20))), none, []⟩, ⟨(some 22), (.v (.fa 5 (.t 21))), none, []⟩, ⟨(some 23), (.v (.ld (.t 22))), none, []⟩, ⟨(some 24), (.v (.max (.t 18) [(.t 23)])), none, []⟩, ⟨(some 5), (.v (.mv (.t 24))), none, []⟩])) (.ops 0 [⟨(some 16), (.v (.mv (.t 6))), none, []⟩, ⟨(some 17), (.v (.bin .add (.t 16) (.k (.c (.int .i64 1))))), none, []⟩, ⟨(some 6), (.v (.mv (.t 17))), none, []⟩])))))) (.seq (.ops 0 [⟨(some 25), (.v (.mv (.t 5))), none, []⟩, ⟨(some 2), (.v (.mv (.t 25))), none, []⟩, ⟨(some 3), (.v (.mv (.k (.c (.int .i64 0))))), none, []⟩]) .ret))))), 26, [(.t 2), (.t 3)]⟩
theorem h21 : fnR Try.prog DD 21 = some rf21 := by kernel_rfl
def vc20 (E : Env) (x1 : List (List C)) (Q : List C → Prop) : Prop :=
  (E.pok 13 [(false, [.int .i64])] [.c (.sl [.int .i64, .int .i64, .int .i64, .int .i64, .int .i64, .int .i64] x1)]) ∧ (∀ r2 : Nat → C, r2 = E.res 13 [.c (.sl [.int .i64, .int .i64, .int .i64, .int .i64, .int .i64, .int .i64] x1)] → 
  (Br (E.not (E.eq (E.gi (r2 0)) 0))
  (Q [.int .i64 0, .int .i64 (E.gi (r2 0))])
  (LoopP2 (fun (i3 : Int) (i4 : Int) (K5 : (Int) → (Int) → Prop) =>
    Br (E.lt i4 (E.len x1))
      (((E.le 0 i4) = true) ∧ 
        (K5 ((E.max i3 (E.gi (E.cell x1 i4 5)))) ((E.add .i64 i4 1))))
      (Q [.int .i64 i3, .int .i64 0]))
    (0) (0))))
theorem w20 {P : Program} {tbl : FuncId → List A → List C}  {x1 : List (List C)} {row : List C} (h : vc20 (stdE P tbl) x1 fun c => c = row) : WPg P tbl rf20 [(false, [.int .i64]), (false, [.int .i64])] row [.c (.sl [.int .i64, .int .i64, .int .i64, .int .i64, .int .i64, .int .i64] x1)] := by
  refine ⟨?_⟩
  revert h
  generalize hE : stdE P tbl = E
  intro h
  unfold vc20 at h
  cbv
  have c6 := h.1
  refine ⟨c6, ?_⟩
  replace h := h.2 _ rfl
  refine ⟨fun hb7 => ?_, fun hb7 => ?_⟩
  · replace h := h.t hb7
    have h : _ = row := h
    subst h
    repeat' (first | exact trivial | exact rfl | refine And.intro ?_ ?_)
  · replace h := h.f hb7
    obtain ⟨I, μ, h0, hI⟩ := h
    refine LoopW.inv (fun R R' s h k => RCode.wp_mono _ R R' s h k) (fun p : Int × Int => (fun (i3 : Int) (i4 : Int) => (⟨[.u, .u, .u, .u, .u, .c (.int .i64 i3), .u, .u, .u, .u, .u, .u, .u, .c (.sl [.int .i64, .int .i64, .int .i64, .int .i64, .int .i64, .int .i64] x1), .c (.int .i64 (E.len x1)), .c (.int .i64 i4), .u, .u, .u, .u, .u, .u, .u, .u, .u], []⟩ : St)) p.1 p.2) (fun p => I p.1 p.2) (fun p => μ p.1 p.2) (_, _) h0 ?_ ?_
    · refine GSt.ren [] rfl rfl rfl (fun i hi => absurd hi (Nat.not_lt_zero i)) (Nat.zero_le _) ?_ ?_
      all_goals (repeat' (first | exact trivial | exact Or.inl rfl | exact Or.inr rfl | refine And.intro ?_ ?_))
    · rintro ⟨i3, i4⟩ h
      replace h := hI i3 i4 h
      cbv
      refine ⟨fun hb8 => ?_, fun hb8 => ?_⟩
      · replace h := h.t hb8
        have c9 := h.1
        refine ⟨c9, ?_⟩
        replace h := h.2
        refine ⟨hb8, ?_⟩
        refine ⟨(_, _), h.1, GSt.ren [] rfl rfl rfl (fun i hi => absurd hi (Nat.not_lt_zero i)) (Nat.zero_le _) ?_ ?_, h.2⟩
        all_goals (repeat' (first | exact trivial | exact Or.inl rfl | exact Or.inr rfl | refine And.intro ?_ ?_))
      · replace h := h.f hb8
        have h : _ = row := h
        subst h
        repeat' (first | exact trivial | exact rfl | refine And.intro ?_ ?_)
def vc21 (E : Env) (x1 : List (List C)) (Q : List C → Prop) : Prop :=
  (E.pok 14 [(false, [.int .i64])] [.c (.sl [.int .i64, .int .i64, .int .i64, .int .i64, .int .i64, .int .i64] x1)]) ∧ (∀ r2 : Nat → C, r2 = E.res 14 [.c (.sl [.int .i64, .int .i64, .int .i64, .int .i64, .int .i64, .int .i64] x1)] → 
  (Br (E.not (E.eq (E.gi (r2 0)) 0))
  (Q [.int .i64 0, .int .i64 (E.gi (r2 0))])
  (LoopP2 (fun (i3 : Int) (i4 : Int) (K5 : (Int) → (Int) → Prop) =>
    Br (E.lt i4 (E.len x1))
      (((E.le 0 i4) = true) ∧ 
        (K5 ((E.max i3 (E.gi (E.cell x1 i4 5)))) ((E.add .i64 i4 1))))
      (Q [.int .i64 i3, .int .i64 0]))
    (0) (0))))
theorem w21 {P : Program} {tbl : FuncId → List A → List C}  {x1 : List (List C)} {row : List C} (h : vc21 (stdE P tbl) x1 fun c => c = row) : WPg P tbl rf21 [(false, [.int .i64]), (false, [.int .i64])] row [.c (.sl [.int .i64, .int .i64, .int .i64, .int .i64, .int .i64, .int .i64] x1)] := by
  refine ⟨?_⟩
  revert h
  generalize hE : stdE P tbl = E
  intro h
  unfold vc21 at h
  cbv
  have c6 := h.1
  refine ⟨c6, ?_⟩
  replace h := h.2 _ rfl
  refine ⟨fun hb7 => ?_, fun hb7 => ?_⟩
  · replace h := h.t hb7
    have h : _ = row := h
    subst h
    repeat' (first | exact trivial | exact rfl | refine And.intro ?_ ?_)
  · replace h := h.f hb7
    obtain ⟨I, μ, h0, hI⟩ := h
    refine LoopW.inv (fun R R' s h k => RCode.wp_mono _ R R' s h k) (fun p : Int × Int => (fun (i3 : Int) (i4 : Int) => (⟨[.c (.sl [.int .i64, .int .i64, .int .i64, .int .i64, .int .i64, .int .i64] x1), .u, .u, .u, .u, .c (.int .i64 i3), .c (.int .i64 i4), .u, .u, .u, .u, .u, .u, .u, .u, .u, .u, .u, .u, .u, .u, .u, .u, .u, .u, .u], []⟩ : St)) p.1 p.2) (fun p => I p.1 p.2) (fun p => μ p.1 p.2) (_, _) h0 ?_ ?_
    · refine GSt.ren [] rfl rfl rfl (fun i hi => absurd hi (Nat.not_lt_zero i)) (Nat.zero_le _) ?_ ?_
      all_goals (repeat' (first | exact trivial | exact Or.inl rfl | exact Or.inr rfl | refine And.intro ?_ ?_))
    · rintro ⟨i3, i4⟩ h
      replace h := hI i3 i4 h
      cbv
      refine ⟨fun hb8 => ?_, fun hb8 => ?_⟩
      · replace h := h.t hb8
        have c9 := h.1
        refine ⟨c9, ?_⟩
        replace h := h.2
        refine ⟨hb8, ?_⟩
        refine ⟨(_, _), h.1, GSt.ren [] rfl rfl rfl (fun i hi => absurd hi (Nat.not_lt_zero i)) (Nat.zero_le _) ?_ ?_, h.2⟩
        all_goals (repeat' (first | exact trivial | exact Or.inl rfl | exact Or.inr rfl | refine And.intro ?_ ?_))
      · replace h := h.f hb8
        have h : _ = row := h
        subst h
        repeat' (first | exact trivial | exact rfl | refine And.intro ?_ ?_)
end Go.Proofs.Ytkdapoipnkpbeaa.V
