/- Warehouses: the walks of the functions that change one. No conditions. -/
import Derived.Test.YtniijahjfbgfpaaGA
set_option linter.unusedVariables false
set_option linter.unusedSimpArgs false
namespace Go.Proofs.Ytniijahjfbgfpaa.V
open Go Go.Eng
set_option maxRecDepth 1000000
set_option maxHeartbeats 4000000
def vc43 (E : Env) (x1 : List (List C)) (x2 : List (Int × List C)) (x3 : Int) (x4 : Int) (x5 : Int) (x6 : Int) (x7 : Int) (x8 : Int) (Q0 : (Int) → (Int) → (List (Int × List C)) → (Int) → Prop) : Prop :=
  Br (E.lt x8 x4)
  (Q0 (x3) (x4) (x2) (9))
  ((E.pok 32 [(false, [.int .i64])] [.el [.sl [.int .i64, .int .i64], .mp .i64 true [.int .i64, .int .i64, .int .i64, .int .i64, .int .i64], .int .i64, .int .i64] [[.sl [.int .i64, .int .i64] x1, .mp .i64 true [.int .i64, .int .i64, .int .i64, .int .i64, .int .i64] x2, .int .i64 x3, .int .i64 x4]] 0 0, .c (.int .i64 x7)]) ∧ (∀ r5 : Nat → C, r5 = E.res 32 [.el [.sl [.int .i64, .int .i64], .mp .i64 true [.int .i64, .int .i64, .int .i64, .int .i64, .int .i64], .int .i64, .int .i64] [[.sl [.int .i64, .int .i64] x1, .mp .i64 true [.int .i64, .int .i64, .int .i64, .int .i64, .int .i64] x2, .int .i64 x3, .int .i64 x4]] 0 0, .c (.int .i64 x7)] → 
    (((E.le 0 x7) = true) ∧ ((E.lt x7 (E.len x1)) = true) ∧ 
    (Br (E.le (E.gi (E.cell x1 x7 0)) (E.gi (r5 0)))
    (Q0 (x3) (x4) (x2) (8))
    (Q0 ((E.add .i64 x3 1)) (x8) ((E.mset x2 x5 [.int .i64 x5, .int .i64 x7, .int .i64 x8, .int .i64 x6, .int .i64 (E.add .i64 x3 1)])) (0))))))
theorem w43 {P : Program} {tbl : FuncId → List A → List C} {x1 : List (List C)} {x2 : List (Int × List C)} {x3 : Int} {x4 : Int} {x5 : Int} {x6 : Int} {x7 : Int} {x8 : Int}  {Q0 : (Int) → (Int) → (List (Int × List C)) → (Int) → Prop} (h : vc43 (stdE P tbl) x1 x2 x3 x4 x5 x6 x7 x8 Q0) : WEg P tbl rf43 (fun r H' => (∃ i1 : Int, ∃ i2 : Int, ∃ m3 : List (Int × List C), ∃ i4 : Int, Q0 i1 i2 m3 i4 ∧ r = .c (.int .i64 i4) ∧ H' = [.box 64 [.c (.sl [.int .i64, .int .i64] x1), .map 1, .c (.int .i64 i1), .c (.int .i64 i2)], .mp .i64 true [.int .i64, .int .i64, .int .i64, .int .i64, .int .i64] m3])) [.ptr 0 0, .c (.int .i64 x5), .c (.int .i64 x6), .c (.int .i64 x7), .c (.int .i64 x8)] [.box 64 [.c (.sl [.int .i64, .int .i64] x1), .map 1, .c (.int .i64 x3), .c (.int .i64 x4)], .mp .i64 true [.int .i64, .int .i64, .int .i64, .int .i64, .int .i64] x2] := by
  refine ⟨?_⟩
  revert h
  generalize hE : stdE P tbl = E
  intro h
  unfold vc43 at h
  cbv
  refine ⟨fun hb6 => ?_, fun hb6 => ?_⟩
  · replace h := h.t hb6
    refine ⟨_, _, GFin.of (GSt.ren [0, 1] rfl rfl rfl (by decide) (Nat.le_add_left _ _) ?_ ?_), ⟨_, _, _, _, h, rfl, rfl⟩⟩
    all_goals (repeat' (first | exact trivial | exact Or.inl rfl | exact Or.inr rfl | refine And.intro ?_ ?_))
  · replace h := h.f hb6
    have c7 := h.1
    refine ⟨c7, ?_⟩
    replace h := h.2 _ rfl
    have c8 := h.1
    refine ⟨c8, ?_⟩
    replace h := h.2
    have c9 := h.1
    refine ⟨c9, ?_⟩
    replace h := h.2
    refine ⟨fun hb10 => ?_, fun hb10 => ?_⟩
    · replace h := h.t hb10
      refine ⟨_, _, GFin.of (GSt.ren [0, 1] rfl rfl rfl (by decide) (Nat.le_add_left _ _) ?_ ?_), ⟨_, _, _, _, h, rfl, rfl⟩⟩
      all_goals (repeat' (first | exact trivial | exact Or.inl rfl | exact Or.inr rfl | refine And.intro ?_ ?_))
    · replace h := h.f hb10
      refine ⟨_, _, GFin.of (GSt.ren [0, 1] rfl rfl rfl (by decide) (Nat.le_add_left _ _) ?_ ?_), ⟨_, _, _, _, h, rfl, rfl⟩⟩
      all_goals (repeat' (first | exact trivial | exact Or.inl rfl | exact Or.inr rfl | refine And.intro ?_ ?_))
def vc26 (E : Env) (x1 : List (List C)) (x2 : List (Int × List C)) (x3 : Int) (x4 : Int) (x5 : Int) (x6 : Int) (x7 : Int) (x8 : Int) (Q0 : (Int) → (Int) → (List (Int × List C)) → (Int) → Prop) : Prop :=
  (false = false) ∧ 
  ((Imp (E.not (E.bite (E.bite (E.bite (E.lt x5 1) true (E.lt 1000000 x5)) true (E.lt x6 1)) true (E.lt 12000 x6))) (E.pok 42 [(false, [.bool])] [.c (.int .i64 x8)])) ∧ (∀ r5 : Nat → C, r5 = E.res 42 [.c (.int .i64 x8)] → 
  (Br (E.bite (E.bite (E.bite (E.bite (E.lt x5 1) true (E.lt 1000000 x5)) true (E.lt x6 1)) true (E.lt 12000 x6)) true (E.not (E.gb (r5 0))))
  (Q0 (x3) (x4) (x2) (1))
  (Br (E.mhas x2 x5)
    (Q0 (x3) (x4) (x2) (6))
    ((E.pok 34 [(false, [.bool])] [.el [.sl [.int .i64, .int .i64], .mp .i64 true [.int .i64, .int .i64, .int .i64, .int .i64, .int .i64], .int .i64, .int .i64] [[.sl [.int .i64, .int .i64] x1, .mp .i64 true [.int .i64, .int .i64, .int .i64, .int .i64, .int .i64] x2, .int .i64 x3, .int .i64 x4]] 0 0, .c (.int .i64 x7)]) ∧ (∀ r6 : Nat → C, r6 = E.res 34 [.el [.sl [.int .i64, .int .i64], .mp .i64 true [.int .i64, .int .i64, .int .i64, .int .i64, .int .i64], .int .i64, .int .i64] [[.sl [.int .i64, .int .i64] x1, .mp .i64 true [.int .i64, .int .i64, .int .i64, .int .i64, .int .i64] x2, .int .i64 x3, .int .i64 x4]] 0 0, .c (.int .i64 x7)] → 
      (Br (E.not (E.gb (r6 0)))
      (Q0 (x3) (x4) (x2) (7))
      (((E.le 0 x7) = true) ∧ ((E.lt x7 (E.len x1)) = true) ∧ 
        (Br (E.lt (E.gi (E.cell x1 x7 1)) x6)
        (Q0 (x3) (x4) (x2) (20))
        (spEnter (x1) (x2) (x3) (x4) (x5) (x6) (x7) (x8) (fun (m7 : List (Int × List C)) (i8 : Int) (i9 : Int) (i10 : Int) => 
          Q0 (i8) (i9) (m7) (i10))))))))))))
theorem w26 {P : Program} {tbl : FuncId → List A → List C} {x1 : List (List C)} {x2 : List (Int × List C)} {x3 : Int} {x4 : Int} {x5 : Int} {x6 : Int} {x7 : Int} {x8 : Int} (ce43 : EnterC P 43) {Q0 : (Int) → (Int) → (List (Int × List C)) → (Int) → Prop} (h : vc26 (stdE P tbl) x1 x2 x3 x4 x5 x6 x7 x8 Q0) : WEg P tbl rf26 (fun r H' => (∃ i1 : Int, ∃ i2 : Int, ∃ m3 : List (Int × List C), ∃ i4 : Int, Q0 i1 i2 m3 i4 ∧ r = .c (.int .i64 i4) ∧ H' = [.box 64 [.c (.sl [.int .i64, .int .i64] x1), .map 1, .c (.int .i64 i1), .c (.int .i64 i2)], .mp .i64 true [.int .i64, .int .i64, .int .i64, .int .i64, .int .i64] m3])) [.ptr 0 0, .c (.int .i64 x5), .c (.int .i64 x6), .c (.int .i64 x7), .c (.int .i64 x8)] [.box 64 [.c (.sl [.int .i64, .int .i64] x1), .map 1, .c (.int .i64 x3), .c (.int .i64 x4)], .mp .i64 true [.int .i64, .int .i64, .int .i64, .int .i64, .int .i64] x2] := by
  refine ⟨?_⟩
  revert h
  generalize hE : stdE P tbl = E
  intro h
  unfold vc26 at h
  cbv
  have hb11 := h.1
  refine ⟨fun hb => absurd (hb11.symm.trans hb) Bool.false_ne_true, fun _ => ?_⟩
  replace h := h.2
  refine ⟨⟨fun hh => hh⟩, ?_⟩
  refine ⟨⟨fun hh => hh⟩, ?_⟩
  refine ⟨⟨fun hh => hh⟩, ?_⟩
  refine ⟨⟨fun hh => hh⟩, ?_⟩
  refine ⟨⟨fun hh => hh⟩, ?_⟩
  refine ⟨⟨fun hh => hh⟩, ?_⟩
  refine ⟨⟨fun hh => hh⟩, ?_⟩
  have c12 := h.1
  refine ⟨c12, ?_⟩
  replace h := h.2 _ rfl
  refine ⟨⟨fun hh => hh⟩, ?_⟩
  refine ⟨⟨fun hh => hh⟩, ?_⟩
  refine ⟨fun hb13 => ?_, fun hb13 => ?_⟩
  · replace h := h.t hb13
    refine ⟨_, _, GFin.of (GSt.ren [0, 1] rfl rfl rfl (by decide) (Nat.le_add_left _ _) ?_ ?_), ⟨_, _, _, _, h, rfl, rfl⟩⟩
    all_goals (repeat' (first | exact trivial | exact Or.inl rfl | exact Or.inr rfl | refine And.intro ?_ ?_))
  · replace h := h.f hb13
    refine ⟨fun hb14 => ?_, fun hb14 => ?_⟩
    · replace h := h.t hb14
      refine ⟨_, _, GFin.of (GSt.ren [0, 1] rfl rfl rfl (by decide) (Nat.le_add_left _ _) ?_ ?_), ⟨_, _, _, _, h, rfl, rfl⟩⟩
      all_goals (repeat' (first | exact trivial | exact Or.inl rfl | exact Or.inr rfl | refine And.intro ?_ ?_))
    · replace h := h.f hb14
      have c15 := h.1
      refine ⟨c15, ?_⟩
      replace h := h.2 _ rfl
      refine ⟨fun hb16 => ?_, fun hb16 => ?_⟩
      · replace h := h.t hb16
        refine ⟨_, _, GFin.of (GSt.ren [0, 1] rfl rfl rfl (by decide) (Nat.le_add_left _ _) ?_ ?_), ⟨_, _, _, _, h, rfl, rfl⟩⟩
        all_goals (repeat' (first | exact trivial | exact Or.inl rfl | exact Or.inr rfl | refine And.intro ?_ ?_))
      · replace h := h.f hb16
        have c17 := h.1
        refine ⟨c17, ?_⟩
        replace h := h.2
        have c18 := h.1
        refine ⟨c18, ?_⟩
        replace h := h.2
        refine ⟨fun hb19 => ?_, fun hb19 => ?_⟩
        · replace h := h.t hb19
          refine ⟨_, _, GFin.of (GSt.ren [0, 1] rfl rfl rfl (by decide) (Nat.le_add_left _ _) ?_ ?_), ⟨_, _, _, _, h, rfl, rfl⟩⟩
          all_goals (repeat' (first | exact trivial | exact Or.inl rfl | exact Or.inr rfl | refine And.intro ?_ ?_))
        · replace h := h.f hb19
          refine HCall.mk ce43.1 ((ACalls.frame (ce43.2 _ _ _ _ _ _ _ _ _ h) (H := _) (tgt := [0, 1]) rfl (by decide) ?_).mono fun r H' hq => ?_)
          · intro i o ho
            match i, ho with
            | 0, ho => cases ho; rfl
            | 1, ho => cases ho; rfl
          obtain ⟨r1, H1', ⟨m7, i8, i9, i10, h, rfl, rfl⟩, _, rfl, rfl⟩ := hq
          cbv
          refine ⟨_, _, GFin.of (GSt.ren [0, 1] rfl rfl rfl (by decide) (Nat.le_add_left _ _) ?_ ?_), ⟨_, _, _, _, h, rfl, rfl⟩⟩
          all_goals (repeat' (first | exact trivial | exact Or.inl rfl | exact Or.inr rfl | refine And.intro ?_ ?_))
def vc27 (E : Env) (x1 : List (List C)) (x2 : List (Int × List C)) (x3 : Int) (x4 : Int) (x5 : Int) (x6 : Int) (x7 : Int) (Q0 : (Int) → (Int) → (List (Int × List C)) → (Int) → Prop) : Prop :=
  (false = false) ∧ 
  ((Imp (E.not (E.not (E.mhas x2 x5))) (E.pok 34 [(false, [.bool])] [.el [.sl [.int .i64, .int .i64], .mp .i64 true [.int .i64, .int .i64, .int .i64, .int .i64, .int .i64], .int .i64, .int .i64] [[.sl [.int .i64, .int .i64] x1, .mp .i64 true [.int .i64, .int .i64, .int .i64, .int .i64, .int .i64] x2, .int .i64 x3, .int .i64 x4]] 0 0, .c (.int .i64 x6)])) ∧ (∀ r5 : Nat → C, r5 = E.res 34 [.el [.sl [.int .i64, .int .i64], .mp .i64 true [.int .i64, .int .i64, .int .i64, .int .i64, .int .i64], .int .i64, .int .i64] [[.sl [.int .i64, .int .i64] x1, .mp .i64 true [.int .i64, .int .i64, .int .i64, .int .i64, .int .i64] x2, .int .i64 x3, .int .i64 x4]] 0 0, .c (.int .i64 x6)] → 
  (Br (E.bite (E.not (E.mhas x2 x5)) true (E.not (E.gb (r5 0))))
  (Q0 (x3) (x4) (x2) (7))
  (Br (E.eq (E.gi (E.mlk x2 x5 1 (.int .i64 0))) x6)
    (Q0 (x3) (x4) (x2) (6))
    (((E.le 0 x6) = true) ∧ ((E.lt x6 (E.len x1)) = true) ∧ 
      (Br (E.lt (E.gi (E.cell x1 x6 1)) (E.gi (E.mlk x2 x5 3 (.int .i64 0))))
      (Q0 (x3) (x4) (x2) (20))
      ((E.pok 42 [(false, [.bool])] [.c (.int .i64 x7)]) ∧ (∀ r6 : Nat → C, r6 = E.res 42 [.c (.int .i64 x7)] → 
        (Br (E.not (E.gb (r6 0)))
        (Q0 (x3) (x4) (x2) (1))
        (spEnter (x1) (x2) (x3) (x4) (x5) ((E.gi (E.mlk x2 x5 3 (.int .i64 0)))) (x6) (x7) (fun (m7 : List (Int × List C)) (i8 : Int) (i9 : Int) (i10 : Int) => 
          Q0 (i8) (i9) (m7) (i10))))))))))))
theorem w27 {P : Program} {tbl : FuncId → List A → List C} {x1 : List (List C)} {x2 : List (Int × List C)} {x3 : Int} {x4 : Int} {x5 : Int} {x6 : Int} {x7 : Int} (ce43 : EnterC P 43) {Q0 : (Int) → (Int) → (List (Int × List C)) → (Int) → Prop} (h : vc27 (stdE P tbl) x1 x2 x3 x4 x5 x6 x7 Q0) : WEg P tbl rf27 (fun r H' => (∃ i1 : Int, ∃ i2 : Int, ∃ m3 : List (Int × List C), ∃ i4 : Int, Q0 i1 i2 m3 i4 ∧ r = .c (.int .i64 i4) ∧ H' = [.box 64 [.c (.sl [.int .i64, .int .i64] x1), .map 1, .c (.int .i64 i1), .c (.int .i64 i2)], .mp .i64 true [.int .i64, .int .i64, .int .i64, .int .i64, .int .i64] m3])) [.ptr 0 0, .c (.int .i64 x5), .c (.int .i64 x6), .c (.int .i64 x7)] [.box 64 [.c (.sl [.int .i64, .int .i64] x1), .map 1, .c (.int .i64 x3), .c (.int .i64 x4)], .mp .i64 true [.int .i64, .int .i64, .int .i64, .int .i64, .int .i64] x2] := by
  refine ⟨?_⟩
  revert h
  generalize hE : stdE P tbl = E
  intro h
  unfold vc27 at h
  cbv
  have hb11 := h.1
  refine ⟨fun hb => absurd (hb11.symm.trans hb) Bool.false_ne_true, fun _ => ?_⟩
  replace h := h.2
  refine ⟨⟨fun hh => hh⟩, ?_⟩
  refine ⟨⟨fun hh => hh⟩, ?_⟩
  have c12 := h.1
  refine ⟨c12, ?_⟩
  replace h := h.2 _ rfl
  refine ⟨⟨fun hh => hh⟩, ?_⟩
  refine ⟨⟨fun hh => hh⟩, ?_⟩
  refine ⟨fun hb13 => ?_, fun hb13 => ?_⟩
  · replace h := h.t hb13
    refine ⟨_, _, GFin.of (GSt.ren [0, 1] rfl rfl rfl (by decide) (Nat.le_add_left _ _) ?_ ?_), ⟨_, _, _, _, h, rfl, rfl⟩⟩
    all_goals (repeat' (first | exact trivial | exact Or.inl rfl | exact Or.inr rfl | refine And.intro ?_ ?_))
  · replace h := h.f hb13
    refine ⟨fun hb14 => ?_, fun hb14 => ?_⟩
    · replace h := h.t hb14
      refine ⟨_, _, GFin.of (GSt.ren [0, 1] rfl rfl rfl (by decide) (Nat.le_add_left _ _) ?_ ?_), ⟨_, _, _, _, h, rfl, rfl⟩⟩
      all_goals (repeat' (first | exact trivial | exact Or.inl rfl | exact Or.inr rfl | refine And.intro ?_ ?_))
    · replace h := h.f hb14
      have c15 := h.1
      refine ⟨c15, ?_⟩
      replace h := h.2
      have c16 := h.1
      refine ⟨c16, ?_⟩
      replace h := h.2
      refine ⟨fun hb17 => ?_, fun hb17 => ?_⟩
      · replace h := h.t hb17
        refine ⟨_, _, GFin.of (GSt.ren [0, 1] rfl rfl rfl (by decide) (Nat.le_add_left _ _) ?_ ?_), ⟨_, _, _, _, h, rfl, rfl⟩⟩
        all_goals (repeat' (first | exact trivial | exact Or.inl rfl | exact Or.inr rfl | refine And.intro ?_ ?_))
      · replace h := h.f hb17
        have c18 := h.1
        refine ⟨c18, ?_⟩
        replace h := h.2 _ rfl
        refine ⟨fun hb19 => ?_, fun hb19 => ?_⟩
        · replace h := h.t hb19
          refine ⟨_, _, GFin.of (GSt.ren [0, 1] rfl rfl rfl (by decide) (Nat.le_add_left _ _) ?_ ?_), ⟨_, _, _, _, h, rfl, rfl⟩⟩
          all_goals (repeat' (first | exact trivial | exact Or.inl rfl | exact Or.inr rfl | refine And.intro ?_ ?_))
        · replace h := h.f hb19
          refine HCall.mk ce43.1 ((ACalls.frame (ce43.2 _ _ _ _ _ _ _ _ _ h) (H := _) (tgt := [0, 1]) rfl (by decide) ?_).mono fun r H' hq => ?_)
          · intro i o ho
            match i, ho with
            | 0, ho => cases ho; rfl
            | 1, ho => cases ho; rfl
          obtain ⟨r1, H1', ⟨m7, i8, i9, i10, h, rfl, rfl⟩, _, rfl, rfl⟩ := hq
          cbv
          refine ⟨_, _, GFin.of (GSt.ren [0, 1] rfl rfl rfl (by decide) (Nat.le_add_left _ _) ?_ ?_), ⟨_, _, _, _, h, rfl, rfl⟩⟩
          all_goals (repeat' (first | exact trivial | exact Or.inl rfl | exact Or.inr rfl | refine And.intro ?_ ?_))
def vc25 (E : Env) (x1 : List (List C)) (x2 : List (Int × List C)) (x3 : Int) (x4 : Int) (x5 : Int) (Q0 : (List (Int × List C)) → (Int) → (Int) → Prop) : Prop :=
  (false = false) ∧ 
  (Br (E.not (E.mhas x2 x5))
  (Q0 (x2) (0) (7))
  (Q0 ((E.mdel x2 x5)) ((E.gi (E.mlk x2 x5 1 (.int .i64 0)))) (0)))
theorem w25 {P : Program} {tbl : FuncId → List A → List C} {x1 : List (List C)} {x2 : List (Int × List C)} {x3 : Int} {x4 : Int} {x5 : Int}  {Q0 : (List (Int × List C)) → (Int) → (Int) → Prop} (h : vc25 (stdE P tbl) x1 x2 x3 x4 x5 Q0) : WEg P tbl rf25 (fun r H' => (∃ m1 : List (Int × List C), ∃ i2 : Int, ∃ i3 : Int, Q0 m1 i2 i3 ∧ r = .tup [.c (.int .i64 i2), .c (.int .i64 i3)] ∧ H' = [.box 64 [.c (.sl [.int .i64, .int .i64] x1), .map 1, .c (.int .i64 x3), .c (.int .i64 x4)], .mp .i64 true [.int .i64, .int .i64, .int .i64, .int .i64, .int .i64] m1])) [.ptr 0 0, .c (.int .i64 x5)] [.box 64 [.c (.sl [.int .i64, .int .i64] x1), .map 1, .c (.int .i64 x3), .c (.int .i64 x4)], .mp .i64 true [.int .i64, .int .i64, .int .i64, .int .i64, .int .i64] x2] := by
  refine ⟨?_⟩
  revert h
  generalize hE : stdE P tbl = E
  intro h
  unfold vc25 at h
  cbv
  have hb4 := h.1
  refine ⟨fun hb => absurd (hb4.symm.trans hb) Bool.false_ne_true, fun _ => ?_⟩
  replace h := h.2
  refine ⟨fun hb5 => ?_, fun hb5 => ?_⟩
  · replace h := h.t hb5
    refine ⟨_, _, GFin.of (GSt.ren [0, 1] rfl rfl rfl (by decide) (Nat.le_add_left _ _) ?_ ?_), ⟨_, _, _, h, rfl, rfl⟩⟩
    all_goals (repeat' (first | exact trivial | exact Or.inl rfl | exact Or.inr rfl | refine And.intro ?_ ?_))
  · replace h := h.f hb5
    refine ⟨_, _, GFin.of (GSt.ren [0, 1] rfl rfl rfl (by decide) (Nat.le_add_left _ _) ?_ ?_), ⟨_, _, _, h, rfl, rfl⟩⟩
    all_goals (repeat' (first | exact trivial | exact Or.inl rfl | exact Or.inr rfl | refine And.intro ?_ ?_))
def vc26N (E : Env) (x5 : Int) (x6 : Int) (x7 : Int) (x8 : Int) (Q0 : Prop) : Prop :=
  (true = true) ∧ 
  (Q0 )
theorem w26N {P : Program} {tbl : FuncId → List A → List C} {x5 : Int} {x6 : Int} {x7 : Int} {x8 : Int}  {Q0 : Prop} (h : vc26N (stdE P tbl) x5 x6 x7 x8 Q0) : WEg P tbl rf26 (fun r H' => (Q0  ∧ r = .c (.int .i64 14) ∧ H' = [])) [.np, .c (.int .i64 x5), .c (.int .i64 x6), .c (.int .i64 x7), .c (.int .i64 x8)] [] := by
  refine ⟨?_⟩
  revert h
  generalize hE : stdE P tbl = E
  intro h
  unfold vc26N at h
  cbv
  have hb1 := h.1
  refine ⟨fun _ => ?_, fun hb => absurd (hb.symm.trans hb1) Bool.false_ne_true⟩
  replace h := h.2
  refine ⟨_, _, GFin.of (GSt.ren [] rfl rfl rfl (fun i hi => absurd hi (Nat.not_lt_zero i)) (Nat.zero_le _) ?_ ?_), ⟨h, rfl, rfl⟩⟩
  all_goals (repeat' (first | exact trivial | exact Or.inl rfl | exact Or.inr rfl | refine And.intro ?_ ?_))
def vc27N (E : Env) (x5 : Int) (x6 : Int) (x7 : Int) (Q0 : Prop) : Prop :=
  (true = true) ∧ 
  (Q0 )
theorem w27N {P : Program} {tbl : FuncId → List A → List C} {x5 : Int} {x6 : Int} {x7 : Int}  {Q0 : Prop} (h : vc27N (stdE P tbl) x5 x6 x7 Q0) : WEg P tbl rf27 (fun r H' => (Q0  ∧ r = .c (.int .i64 14) ∧ H' = [])) [.np, .c (.int .i64 x5), .c (.int .i64 x6), .c (.int .i64 x7)] [] := by
  refine ⟨?_⟩
  revert h
  generalize hE : stdE P tbl = E
  intro h
  unfold vc27N at h
  cbv
  have hb1 := h.1
  refine ⟨fun _ => ?_, fun hb => absurd (hb.symm.trans hb1) Bool.false_ne_true⟩
  replace h := h.2
  refine ⟨_, _, GFin.of (GSt.ren [] rfl rfl rfl (fun i hi => absurd hi (Nat.not_lt_zero i)) (Nat.zero_le _) ?_ ?_), ⟨h, rfl, rfl⟩⟩
  all_goals (repeat' (first | exact trivial | exact Or.inl rfl | exact Or.inr rfl | refine And.intro ?_ ?_))
def vc25N (E : Env) (x5 : Int) (Q0 : Prop) : Prop :=
  (true = true) ∧ 
  (Q0 )
theorem w25N {P : Program} {tbl : FuncId → List A → List C} {x5 : Int}  {Q0 : Prop} (h : vc25N (stdE P tbl) x5 Q0) : WEg P tbl rf25 (fun r H' => (Q0  ∧ r = .tup [.c (.int .i64 0), .c (.int .i64 14)] ∧ H' = [])) [.np, .c (.int .i64 x5)] [] := by
  refine ⟨?_⟩
  revert h
  generalize hE : stdE P tbl = E
  intro h
  unfold vc25N at h
  cbv
  have hb1 := h.1
  refine ⟨fun _ => ?_, fun hb => absurd (hb.symm.trans hb1) Bool.false_ne_true⟩
  replace h := h.2
  refine ⟨_, _, GFin.of (GSt.ren [] rfl rfl rfl (fun i hi => absurd hi (Nat.not_lt_zero i)) (Nat.zero_le _) ?_ ?_), ⟨h, rfl, rfl⟩⟩
  all_goals (repeat' (first | exact trivial | exact Or.inl rfl | exact Or.inr rfl | refine And.intro ?_ ?_))
def vc29 (E : Env) (x1 : List (List C)) (x2 : List (List C)) (x3 : Int) (x5 : Int) (x6 : Int) (x7 : Int) (x8 : Int) (Q0 : (List (List C)) → (List (List C)) → (Int) → (Int) → Prop) : Prop :=
  (false = false) ∧ 
  ((E.pok 44 [(true, [.sl [.int .i64, .int .i64], .sl [.int .i64, .int .i64, .int .i64, .int .i64], .int .i64]), (false, [.int .i64])] [.agg [.c (.sl [.int .i64, .int .i64] x1), .c (.sl [.int .i64, .int .i64, .int .i64, .int .i64] x2), .c (.int .i64 x3)], .c (.int .i64 x5), .c (.int .i64 x6), .c (.int .i64 x7), .c (.int .i64 x8)]) ∧ (∀ r5 : Nat → C, r5 = E.res 44 [.agg [.c (.sl [.int .i64, .int .i64] x1), .c (.sl [.int .i64, .int .i64, .int .i64, .int .i64] x2), .c (.int .i64 x3)], .c (.int .i64 x5), .c (.int .i64 x6), .c (.int .i64 x7), .c (.int .i64 x8)] → 
  (Q0 ((E.gl (r5 0))) ((E.gl (r5 1))) ((E.gi (r5 2))) ((E.gi (r5 3))))))
theorem w29 {P : Program} {tbl : FuncId → List A → List C} {x1 : List (List C)} {x2 : List (List C)} {x3 : Int} {x5 : Int} {x6 : Int} {x7 : Int} {x8 : Int}  {Q0 : (List (List C)) → (List (List C)) → (Int) → (Int) → Prop} (h : vc29 (stdE P tbl) x1 x2 x3 x5 x6 x7 x8 Q0) : WEg P tbl rf29 (fun r H' => (∃ l1 : List (List C), ∃ l2 : List (List C), ∃ i3 : Int, ∃ i4 : Int, Q0 l1 l2 i3 i4 ∧ r = .c (.int .i64 i4) ∧ H' = [.box 68 [.c (.sl [.int .i64, .int .i64] l1), .c (.sl [.int .i64, .int .i64, .int .i64, .int .i64] l2), .c (.int .i64 i3)]])) [.ptr 0 0, .c (.int .i64 x5), .c (.int .i64 x6), .c (.int .i64 x7), .c (.int .i64 x8)] [.box 68 [.c (.sl [.int .i64, .int .i64] x1), .c (.sl [.int .i64, .int .i64, .int .i64, .int .i64] x2), .c (.int .i64 x3)]] := by
  refine ⟨?_⟩
  revert h
  generalize hE : stdE P tbl = E
  intro h
  unfold vc29 at h
  cbv
  have hb6 := h.1
  refine ⟨fun hb => absurd (hb6.symm.trans hb) Bool.false_ne_true, fun _ => ?_⟩
  replace h := h.2
  have c7 := h.1
  refine ⟨c7, ?_⟩
  replace h := h.2 _ rfl
  refine ⟨_, _, GFin.of (GSt.ren [0] rfl rfl rfl (by decide) (Nat.le_add_left _ _) ?_ ?_), ⟨_, _, _, _, h, rfl, rfl⟩⟩
  all_goals (repeat' (first | exact trivial | exact Or.inl rfl | exact Or.inr rfl | refine And.intro ?_ ?_))
def vc30 (E : Env) (x1 : List (List C)) (x2 : List (List C)) (x3 : Int) (x5 : Int) (x6 : Int) (x7 : Int) (Q0 : (List (List C)) → (List (List C)) → (Int) → (Int) → Prop) : Prop :=
  (false = false) ∧ 
  ((E.pok 45 [(true, [.sl [.int .i64, .int .i64], .sl [.int .i64, .int .i64, .int .i64, .int .i64], .int .i64]), (false, [.int .i64])] [.agg [.c (.sl [.int .i64, .int .i64] x1), .c (.sl [.int .i64, .int .i64, .int .i64, .int .i64] x2), .c (.int .i64 x3)], .c (.int .i64 x5), .c (.int .i64 x6), .c (.int .i64 x7)]) ∧ (∀ r5 : Nat → C, r5 = E.res 45 [.agg [.c (.sl [.int .i64, .int .i64] x1), .c (.sl [.int .i64, .int .i64, .int .i64, .int .i64] x2), .c (.int .i64 x3)], .c (.int .i64 x5), .c (.int .i64 x6), .c (.int .i64 x7)] → 
  (Q0 ((E.gl (r5 0))) ((E.gl (r5 1))) ((E.gi (r5 2))) ((E.gi (r5 3))))))
theorem w30 {P : Program} {tbl : FuncId → List A → List C} {x1 : List (List C)} {x2 : List (List C)} {x3 : Int} {x5 : Int} {x6 : Int} {x7 : Int}  {Q0 : (List (List C)) → (List (List C)) → (Int) → (Int) → Prop} (h : vc30 (stdE P tbl) x1 x2 x3 x5 x6 x7 Q0) : WEg P tbl rf30 (fun r H' => (∃ l1 : List (List C), ∃ l2 : List (List C), ∃ i3 : Int, ∃ i4 : Int, Q0 l1 l2 i3 i4 ∧ r = .c (.int .i64 i4) ∧ H' = [.box 68 [.c (.sl [.int .i64, .int .i64] l1), .c (.sl [.int .i64, .int .i64, .int .i64, .int .i64] l2), .c (.int .i64 i3)]])) [.ptr 0 0, .c (.int .i64 x5), .c (.int .i64 x6), .c (.int .i64 x7)] [.box 68 [.c (.sl [.int .i64, .int .i64] x1), .c (.sl [.int .i64, .int .i64, .int .i64, .int .i64] x2), .c (.int .i64 x3)]] := by
  refine ⟨?_⟩
  revert h
  generalize hE : stdE P tbl = E
  intro h
  unfold vc30 at h
  cbv
  have hb6 := h.1
  refine ⟨fun hb => absurd (hb6.symm.trans hb) Bool.false_ne_true, fun _ => ?_⟩
  replace h := h.2
  have c7 := h.1
  refine ⟨c7, ?_⟩
  replace h := h.2 _ rfl
  refine ⟨_, _, GFin.of (GSt.ren [0] rfl rfl rfl (by decide) (Nat.le_add_left _ _) ?_ ?_), ⟨_, _, _, _, h, rfl, rfl⟩⟩
  all_goals (repeat' (first | exact trivial | exact Or.inl rfl | exact Or.inr rfl | refine And.intro ?_ ?_))
def vc31 (E : Env) (x1 : List (List C)) (x2 : List (List C)) (x3 : Int) (x5 : Int) (Q0 : (List (List C)) → (List (List C)) → (Int) → (Int) → (Int) → Prop) : Prop :=
  (false = false) ∧ 
  ((E.pok 46 [(true, [.sl [.int .i64, .int .i64], .sl [.int .i64, .int .i64, .int .i64, .int .i64], .int .i64]), (false, [.int .i64]), (false, [.int .i64])] [.agg [.c (.sl [.int .i64, .int .i64] x1), .c (.sl [.int .i64, .int .i64, .int .i64, .int .i64] x2), .c (.int .i64 x3)], .c (.int .i64 x5)]) ∧ (∀ r6 : Nat → C, r6 = E.res 46 [.agg [.c (.sl [.int .i64, .int .i64] x1), .c (.sl [.int .i64, .int .i64, .int .i64, .int .i64] x2), .c (.int .i64 x3)], .c (.int .i64 x5)] → 
  (Q0 ((E.gl (r6 0))) ((E.gl (r6 1))) ((E.gi (r6 2))) ((E.gi (r6 3))) ((E.gi (r6 4))))))
theorem w31 {P : Program} {tbl : FuncId → List A → List C} {x1 : List (List C)} {x2 : List (List C)} {x3 : Int} {x5 : Int}  {Q0 : (List (List C)) → (List (List C)) → (Int) → (Int) → (Int) → Prop} (h : vc31 (stdE P tbl) x1 x2 x3 x5 Q0) : WEg P tbl rf31 (fun r H' => (∃ l1 : List (List C), ∃ l2 : List (List C), ∃ i3 : Int, ∃ i4 : Int, ∃ i5 : Int, Q0 l1 l2 i3 i4 i5 ∧ r = .tup [.c (.int .i64 i4), .c (.int .i64 i5)] ∧ H' = [.box 68 [.c (.sl [.int .i64, .int .i64] l1), .c (.sl [.int .i64, .int .i64, .int .i64, .int .i64] l2), .c (.int .i64 i3)]])) [.ptr 0 0, .c (.int .i64 x5)] [.box 68 [.c (.sl [.int .i64, .int .i64] x1), .c (.sl [.int .i64, .int .i64, .int .i64, .int .i64] x2), .c (.int .i64 x3)]] := by
  refine ⟨?_⟩
  revert h
  generalize hE : stdE P tbl = E
  intro h
  unfold vc31 at h
  cbv
  have hb7 := h.1
  refine ⟨fun hb => absurd (hb7.symm.trans hb) Bool.false_ne_true, fun _ => ?_⟩
  replace h := h.2
  have c8 := h.1
  refine ⟨c8, ?_⟩
  replace h := h.2 _ rfl
  refine ⟨_, _, GFin.of (GSt.ren [0] rfl rfl rfl (by decide) (Nat.le_add_left _ _) ?_ ?_), ⟨_, _, _, _, _, h, rfl, rfl⟩⟩
  all_goals (repeat' (first | exact trivial | exact Or.inl rfl | exact Or.inr rfl | refine And.intro ?_ ?_))
def vc12 (E : Env) (x1 : List (List C)) (x2 : List (Int × List C)) (x3 : Int) (x4 : Int) (x5 : Int) (x6 : Int) (x7 : Int) (x8 : Int) (x9 : Int) (Q0 : (Int) → (Int) → (List (Int × List C)) → (Int) → (Int) → Prop) : Prop :=
  Br (E.eq x5 0)
  (spPut (x1) (x2) (x3) (x4) (x6) (x7) (x8) (x9) (fun (m6 : List (Int × List C)) (i7 : Int) (i8 : Int) (i9 : Int) => 
    Q0 (i7) (i8) (m6) (0) (i9)))
  (Br (E.eq x5 1)
    (spMove (x1) (x2) (x3) (x4) (x6) (x8) (x9) (fun (m10 : List (Int × List C)) (i11 : Int) (i12 : Int) (i13 : Int) => 
      Q0 (i11) (i12) (m10) (0) (i13)))
    (spTake (x1) (x2) (x3) (x4) (x6) (fun (m14 : List (Int × List C)) (i15 : Int) (i16 : Int) (i17 : Int) (i18 : Int) => 
      Q0 (i15) (i16) (m14) (i17) (i18))))
theorem w12 {P : Program} {tbl : FuncId → List A → List C} {x1 : List (List C)} {x2 : List (Int × List C)} {x3 : Int} {x4 : Int} {x5 : Int} {x6 : Int} {x7 : Int} {x8 : Int} {x9 : Int} (ce25 : TakeC P 25) (ce26 : PutC P 26) (ce27 : MoveC P 27) {Q0 : (Int) → (Int) → (List (Int × List C)) → (Int) → (Int) → Prop} (h : vc12 (stdE P tbl) x1 x2 x3 x4 x5 x6 x7 x8 x9 Q0) : WEg P tbl rf12 (fun r H' => (∃ i1 : Int, ∃ i2 : Int, ∃ m3 : List (Int × List C), ∃ i4 : Int, ∃ i5 : Int, Q0 i1 i2 m3 i4 i5 ∧ r = .tup [.c (.int .i64 i4), .c (.int .i64 i5)] ∧ H' = [.box 64 [.c (.sl [.int .i64, .int .i64] x1), .map 1, .c (.int .i64 i1), .c (.int .i64 i2)], .mp .i64 true [.int .i64, .int .i64, .int .i64, .int .i64, .int .i64] m3])) [.ptr 0 0, .agg [.c (.int .i64 x5), .c (.int .i64 x6), .c (.int .i64 x7), .c (.int .i64 x8), .c (.int .i64 x9)]] [.box 64 [.c (.sl [.int .i64, .int .i64] x1), .map 1, .c (.int .i64 x3), .c (.int .i64 x4)], .mp .i64 true [.int .i64, .int .i64, .int .i64, .int .i64, .int .i64] x2] := by
  refine ⟨?_⟩
  revert h
  generalize hE : stdE P tbl = E
  intro h
  unfold vc12 at h
  cbv
  refine ⟨fun hb19 => ?_, fun hb19 => ?_⟩
  · replace h := h.t hb19
    refine HCall.mk ce26.1 ((ACalls.frame (ce26.2.1 _ _ _ _ _ _ _ _ _ h) (H := _) (tgt := [0, 1]) rfl (by decide) ?_).mono fun r H' hq => ?_)
    · intro i o ho
      match i, ho with
      | 0, ho => cases ho; rfl
      | 1, ho => cases ho; rfl
    obtain ⟨r1, H1', ⟨m6, i7, i8, i9, h, rfl, rfl⟩, _, rfl, rfl⟩ := hq
    cbv
    refine ⟨_, _, GFin.of (GSt.ren [0, 1] rfl rfl rfl (by decide) (Nat.le_add_left _ _) ?_ ?_), ⟨_, _, _, _, _, h, rfl, rfl⟩⟩
    all_goals (repeat' (first | exact trivial | exact Or.inl rfl | exact Or.inr rfl | refine And.intro ?_ ?_))
  · replace h := h.f hb19
    refine ⟨fun hb20 => ?_, fun hb20 => ?_⟩
    · replace h := h.t hb20
      refine HCall.mk ce27.1 ((ACalls.frame (ce27.2.1 _ _ _ _ _ _ _ _ h) (H := _) (tgt := [0, 1]) rfl (by decide) ?_).mono fun r H' hq => ?_)
      · intro i o ho
        match i, ho with
        | 0, ho => cases ho; rfl
        | 1, ho => cases ho; rfl
      obtain ⟨r1, H1', ⟨m10, i11, i12, i13, h, rfl, rfl⟩, _, rfl, rfl⟩ := hq
      cbv
      refine ⟨_, _, GFin.of (GSt.ren [0, 1] rfl rfl rfl (by decide) (Nat.le_add_left _ _) ?_ ?_), ⟨_, _, _, _, _, h, rfl, rfl⟩⟩
      all_goals (repeat' (first | exact trivial | exact Or.inl rfl | exact Or.inr rfl | refine And.intro ?_ ?_))
    · replace h := h.f hb20
      refine HCall.mk ce25.1 ((ACalls.frame (ce25.2.1 _ _ _ _ _ _ h) (H := _) (tgt := [0, 1]) rfl (by decide) ?_).mono fun r H' hq => ?_)
      · intro i o ho
        match i, ho with
        | 0, ho => cases ho; rfl
        | 1, ho => cases ho; rfl
      obtain ⟨r1, H1', ⟨m14, i15, i16, i17, i18, h, rfl, rfl⟩, _, rfl, rfl⟩ := hq
      cbv
      refine ⟨_, _, GFin.of (GSt.ren [0, 1] rfl rfl rfl (by decide) (Nat.le_add_left _ _) ?_ ?_), ⟨_, _, _, _, _, h, rfl, rfl⟩⟩
      all_goals (repeat' (first | exact trivial | exact Or.inl rfl | exact Or.inr rfl | refine And.intro ?_ ?_))
def vc12N (E : Env) (x5 : Int) (x6 : Int) (x7 : Int) (x8 : Int) (x9 : Int) (Q0 : Prop) : Prop :=
  Br (E.eq x5 0)
  (spNil4 (x6) (x7) (x8) (x9) (
    Q0 ))
  (Br (E.eq x5 1)
    (spNil3 (x6) (x8) (x9) (
      Q0 ))
    (spNil1 (x6) (
      Q0 )))
theorem w12N {P : Program} {tbl : FuncId → List A → List C} {x5 : Int} {x6 : Int} {x7 : Int} {x8 : Int} {x9 : Int} (ce25 : TakeC P 25) (ce26 : PutC P 26) (ce27 : MoveC P 27) {Q0 : Prop} (h : vc12N (stdE P tbl) x5 x6 x7 x8 x9 Q0) : WEg P tbl rf12 (fun r H' => (Q0  ∧ r = .tup [.c (.int .i64 0), .c (.int .i64 14)] ∧ H' = [])) [.np, .agg [.c (.int .i64 x5), .c (.int .i64 x6), .c (.int .i64 x7), .c (.int .i64 x8), .c (.int .i64 x9)]] [] := by
  refine ⟨?_⟩
  revert h
  generalize hE : stdE P tbl = E
  intro h
  unfold vc12N at h
  cbv
  refine ⟨fun hb1 => ?_, fun hb1 => ?_⟩
  · replace h := h.t hb1
    refine HCall.mk ce26.1 ((ACalls.frame (ce26.2.2 _ _ _ _ _ h) (H := _) (tgt := []) rfl (by decide) ?_).mono fun r H' hq => ?_)
    · intro i o ho
      cases ho
    obtain ⟨r1, H1', ⟨h, rfl, rfl⟩, _, rfl, rfl⟩ := hq
    cbv
    refine ⟨_, _, GFin.of (GSt.ren [] rfl rfl rfl (fun i hi => absurd hi (Nat.not_lt_zero i)) (Nat.zero_le _) ?_ ?_), ⟨h, rfl, rfl⟩⟩
    all_goals (repeat' (first | exact trivial | exact Or.inl rfl | exact Or.inr rfl | refine And.intro ?_ ?_))
  · replace h := h.f hb1
    refine ⟨fun hb2 => ?_, fun hb2 => ?_⟩
    · replace h := h.t hb2
      refine HCall.mk ce27.1 ((ACalls.frame (ce27.2.2 _ _ _ _ h) (H := _) (tgt := []) rfl (by decide) ?_).mono fun r H' hq => ?_)
      · intro i o ho
        cases ho
      obtain ⟨r1, H1', ⟨h, rfl, rfl⟩, _, rfl, rfl⟩ := hq
      cbv
      refine ⟨_, _, GFin.of (GSt.ren [] rfl rfl rfl (fun i hi => absurd hi (Nat.not_lt_zero i)) (Nat.zero_le _) ?_ ?_), ⟨h, rfl, rfl⟩⟩
      all_goals (repeat' (first | exact trivial | exact Or.inl rfl | exact Or.inr rfl | refine And.intro ?_ ?_))
    · replace h := h.f hb2
      refine HCall.mk ce25.1 ((ACalls.frame (ce25.2.2 _ _ h) (H := _) (tgt := []) rfl (by decide) ?_).mono fun r H' hq => ?_)
      · intro i o ho
        cases ho
      obtain ⟨r1, H1', ⟨h, rfl, rfl⟩, _, rfl, rfl⟩ := hq
      cbv
      refine ⟨_, _, GFin.of (GSt.ren [] rfl rfl rfl (fun i hi => absurd hi (Nat.not_lt_zero i)) (Nat.zero_le _) ?_ ?_), ⟨h, rfl, rfl⟩⟩
      all_goals (repeat' (first | exact trivial | exact Or.inl rfl | exact Or.inr rfl | refine And.intro ?_ ?_))
def vc13 (E : Env) (x1 : List (List C)) (x2 : List (List C)) (x3 : Int) (x5 : Int) (x6 : Int) (x7 : Int) (x8 : Int) (x9 : Int) (Q0 : (List (List C)) → (Int) → (Int) → (Int) → Prop) : Prop :=
  Br (E.eq x5 0)
  (spRPut (x1) (x2) (x3) (x6) (x7) (x8) (x9) (fun (l5 : List (List C)) (i6 : Int) (i7 : Int) => 
    Q0 (l5) (i6) (0) (i7)))
  (Br (E.eq x5 1)
    (spRMove (x1) (x2) (x3) (x6) (x8) (x9) (fun (l8 : List (List C)) (i9 : Int) (i10 : Int) => 
      Q0 (l8) (i9) (0) (i10)))
    (spRTake (x1) (x2) (x3) (x6) (fun (l11 : List (List C)) (i12 : Int) (i13 : Int) (i14 : Int) => 
      Q0 (l11) (i12) (i13) (i14))))
theorem w13 {P : Program} {tbl : FuncId → List A → List C} {x1 : List (List C)} {x2 : List (List C)} {x3 : Int} {x5 : Int} {x6 : Int} {x7 : Int} {x8 : Int} {x9 : Int} (ce29 : RPutC P 29) (ce30 : RMoveC P 30) (ce31 : RTakeC P 31) {Q0 : (List (List C)) → (Int) → (Int) → (Int) → Prop} (h : vc13 (stdE P tbl) x1 x2 x3 x5 x6 x7 x8 x9 Q0) : WEg P tbl rf13 (fun r H' => (∃ l1 : List (List C), ∃ i2 : Int, ∃ i3 : Int, ∃ i4 : Int, Q0 l1 i2 i3 i4 ∧ r = .tup [.c (.int .i64 i3), .c (.int .i64 i4)] ∧ H' = [.box 68 [.c (.sl [.int .i64, .int .i64] x1), .c (.sl [.int .i64, .int .i64, .int .i64, .int .i64] l1), .c (.int .i64 i2)]])) [.ptr 0 0, .agg [.c (.int .i64 x5), .c (.int .i64 x6), .c (.int .i64 x7), .c (.int .i64 x8), .c (.int .i64 x9)]] [.box 68 [.c (.sl [.int .i64, .int .i64] x1), .c (.sl [.int .i64, .int .i64, .int .i64, .int .i64] x2), .c (.int .i64 x3)]] := by
  refine ⟨?_⟩
  revert h
  generalize hE : stdE P tbl = E
  intro h
  unfold vc13 at h
  cbv
  refine ⟨fun hb15 => ?_, fun hb15 => ?_⟩
  · replace h := h.t hb15
    refine HCall.mk ce29.1 ((ACalls.frame (ce29.2 _ _ _ _ _ _ _ _ h) (H := _) (tgt := [0]) rfl (by decide) ?_).mono fun r H' hq => ?_)
    · intro i o ho
      match i, ho with
      | 0, ho => cases ho; rfl
    obtain ⟨r1, H1', ⟨l5, i6, i7, h, rfl, rfl⟩, _, rfl, rfl⟩ := hq
    cbv
    refine ⟨_, _, GFin.of (GSt.ren [0] rfl rfl rfl (by decide) (Nat.le_add_left _ _) ?_ ?_), ⟨_, _, _, _, h, rfl, rfl⟩⟩
    all_goals (repeat' (first | exact trivial | exact Or.inl rfl | exact Or.inr rfl | refine And.intro ?_ ?_))
  · replace h := h.f hb15
    refine ⟨fun hb16 => ?_, fun hb16 => ?_⟩
    · replace h := h.t hb16
      refine HCall.mk ce30.1 ((ACalls.frame (ce30.2 _ _ _ _ _ _ _ h) (H := _) (tgt := [0]) rfl (by decide) ?_).mono fun r H' hq => ?_)
      · intro i o ho
        match i, ho with
        | 0, ho => cases ho; rfl
      obtain ⟨r1, H1', ⟨l8, i9, i10, h, rfl, rfl⟩, _, rfl, rfl⟩ := hq
      cbv
      refine ⟨_, _, GFin.of (GSt.ren [0] rfl rfl rfl (by decide) (Nat.le_add_left _ _) ?_ ?_), ⟨_, _, _, _, h, rfl, rfl⟩⟩
      all_goals (repeat' (first | exact trivial | exact Or.inl rfl | exact Or.inr rfl | refine And.intro ?_ ?_))
    · replace h := h.f hb16
      refine HCall.mk ce31.1 ((ACalls.frame (ce31.2 _ _ _ _ _ h) (H := _) (tgt := [0]) rfl (by decide) ?_).mono fun r H' hq => ?_)
      · intro i o ho
        match i, ho with
        | 0, ho => cases ho; rfl
      obtain ⟨r1, H1', ⟨l11, i12, i13, i14, h, rfl, rfl⟩, _, rfl, rfl⟩ := hq
      cbv
      refine ⟨_, _, GFin.of (GSt.ren [0] rfl rfl rfl (by decide) (Nat.le_add_left _ _) ?_ ?_), ⟨_, _, _, _, h, rfl, rfl⟩⟩
      all_goals (repeat' (first | exact trivial | exact Or.inl rfl | exact Or.inr rfl | refine And.intro ?_ ?_))
def vc15 (E : Env) (x1 : List (List C)) (x2 : List (Int × List C)) (x3 : Int) (x4 : Int) (Q0 : (List (List C)) → Prop) : Prop :=
  (false = false) ∧ 
  (LoopP2 (fun (l2 : List (List C)) (i3 : Int) (K4 : (List (List C)) → (Int) → Prop) =>
  Br (E.lt i3 (E.len x1))
    (((E.le 0 i3) = true) ∧ 
      ((E.pok 32 [(false, [.int .i64])] [.el [.sl [.int .i64, .int .i64], .mp .i64 true [.int .i64, .int .i64, .int .i64, .int .i64, .int .i64], .int .i64, .int .i64] [[.sl [.int .i64, .int .i64] x1, .mp .i64 true [.int .i64, .int .i64, .int .i64, .int .i64, .int .i64] x2, .int .i64 x3, .int .i64 x4]] 0 0, .c (.int .i64 i3)]) ∧ (∀ r5 : Nat → C, r5 = E.res 32 [.el [.sl [.int .i64, .int .i64], .mp .i64 true [.int .i64, .int .i64, .int .i64, .int .i64, .int .i64], .int .i64, .int .i64] [[.sl [.int .i64, .int .i64] x1, .mp .i64 true [.int .i64, .int .i64, .int .i64, .int .i64, .int .i64] x2, .int .i64 x3, .int .i64 x4]] 0 0, .c (.int .i64 i3)] → 
      (((E.le (E.pl (E.len l2) (E.len [[.int .i64 (E.sub .i64 (E.gi (E.cell x1 i3 0)) (E.gi (r5 0)))]])) 17592186044416) = true) ∧ 
      (K4 ((E.cat l2 [[.int .i64 (E.sub .i64 (E.gi (E.cell x1 i3 0)) (E.gi (r5 0)))]])) ((E.add .i64 i3 1)))))))
    (Q0 (l2)))
  ([]) (0))
theorem w15 {P : Program} {tbl : FuncId → List A → List C} {x1 : List (List C)} {x2 : List (Int × List C)} {x3 : Int} {x4 : Int}  {Q0 : (List (List C)) → Prop} (h : vc15 (stdE P tbl) x1 x2 x3 x4 Q0) : WEg P tbl rf15 (fun r H' => (∃ l1 : List (List C), Q0 l1 ∧ r = .gr 2 ∧ H' = [.box 64 [.c (.sl [.int .i64, .int .i64] x1), .map 1, .c (.int .i64 x3), .c (.int .i64 x4)], .mp .i64 true [.int .i64, .int .i64, .int .i64, .int .i64, .int .i64] x2, .arr 3 [.int .i64] l1])) [.ptr 0 0] [.box 64 [.c (.sl [.int .i64, .int .i64] x1), .map 1, .c (.int .i64 x3), .c (.int .i64 x4)], .mp .i64 true [.int .i64, .int .i64, .int .i64, .int .i64, .int .i64] x2] := by
  refine ⟨?_⟩
  revert h
  generalize hE : stdE P tbl = E
  intro h
  unfold vc15 at h
  cbv
  have hb6 := h.1
  refine ⟨fun hb => absurd (hb6.symm.trans hb) Bool.false_ne_true, fun _ => ?_⟩
  replace h := h.2
  obtain ⟨I, μ, h0, hI⟩ := h
  refine LoopW.inv (fun R R' s h k => RCode.wp_mono _ R R' s h k) (fun p : List (List C) × Int => (fun (l2 : List (List C)) (i3 : Int) => (⟨[.ptr 0 0, .u, .u, .gr 2, .u, .u, .u, .u, .u, .u, .u, .c (.sl [.int .i64, .int .i64] x1), .c (.int .i64 (E.len x1)), .c (.int .i64 i3), .u, .u, .u, .u, .u, .u, .u, .u, .u, .u, .u, .u, .u, .u, .u], [.box 64 [.c (.sl [.int .i64, .int .i64] x1), .map 1, .c (.int .i64 x3), .c (.int .i64 x4)], .mp .i64 true [.int .i64, .int .i64, .int .i64, .int .i64, .int .i64] x2, .arr 3 [.int .i64] l2]⟩ : St)) p.1 p.2) (fun p => I p.1 p.2) (fun p => μ p.1 p.2) (_, _) h0 ?_ ?_
  · refine GSt.trans (GSt.nil 3 3 [.int .i64] rfl) (GSt.ren [0, 1, 2] rfl rfl rfl (by decide) (Nat.le_add_left _ _) ?_ ?_)
    all_goals (repeat' (first | exact trivial | exact Or.inl rfl | exact Or.inr rfl | refine And.intro ?_ ?_))
  · rintro ⟨l2, i3⟩ h
    replace h := hI l2 i3 h
    cbv
    refine ⟨fun hb7 => ?_, fun hb7 => ?_⟩
    · replace h := h.t hb7
      have c8 := h.1
      refine ⟨c8, ?_⟩
      replace h := h.2
      refine ⟨hb7, ?_⟩
      have c9 := h.1
      refine ⟨c9, ?_⟩
      replace h := h.2 _ rfl
      have c10 := h.1
      refine ⟨c10, ?_⟩
      replace h := h.2
      refine ⟨(_, _), h.1, GSt.ren [0, 1, 5] rfl rfl rfl (by decide) (Nat.le_add_left _ _) ?_ ?_, h.2⟩
      all_goals (repeat' (first | exact trivial | exact Or.inl rfl | exact Or.inr rfl | refine And.intro ?_ ?_))
    · replace h := h.f hb7
      refine ⟨_, _, GFin.of (GSt.ren [0, 1, 2] rfl rfl rfl (by decide) (Nat.le_add_left _ _) ?_ ?_), ⟨_, h, rfl, rfl⟩⟩
      all_goals (repeat' (first | exact trivial | exact Or.inl rfl | exact Or.inr rfl | refine And.intro ?_ ?_))
def vc15N (E : Env)  (Q0 : Prop) : Prop :=
  (true = true) ∧ 
  (Q0 )
theorem w15N {P : Program} {tbl : FuncId → List A → List C}   {Q0 : Prop} (h : vc15N (stdE P tbl)  Q0) : WEg P tbl rf15 (fun r H' => (Q0  ∧ r = .c (.nil) ∧ H' = [])) [.np] [] := by
  refine ⟨?_⟩
  revert h
  generalize hE : stdE P tbl = E
  intro h
  unfold vc15N at h
  cbv
  have hb1 := h.1
  refine ⟨fun _ => ?_, fun hb => absurd (hb.symm.trans hb1) Bool.false_ne_true⟩
  replace h := h.2
  refine ⟨_, _, GFin.of (GSt.ren [] rfl rfl rfl (fun i hi => absurd hi (Nat.not_lt_zero i)) (Nat.zero_le _) ?_ ?_), ⟨h, rfl, rfl⟩⟩
  all_goals (repeat' (first | exact trivial | exact Or.inl rfl | exact Or.inr rfl | refine And.intro ?_ ?_))
def vc16 (E : Env) (x1 : List (List C)) (x2 : List (List C)) (x3 : Int) (Q0 : (List (List C)) → Prop) : Prop :=
  (false = false) ∧ 
  (LoopP2 (fun (l2 : List (List C)) (i3 : Int) (K4 : (List (List C)) → (Int) → Prop) =>
  Br (E.lt i3 (E.len x1))
    (((E.le 0 i3) = true) ∧ 
      ((E.pok 33 [(false, [.int .i64])] [.agg [.c (.sl [.int .i64, .int .i64] x1), .c (.sl [.int .i64, .int .i64, .int .i64, .int .i64] x2), .c (.int .i64 x3)], .c (.int .i64 i3)]) ∧ (∀ r5 : Nat → C, r5 = E.res 33 [.agg [.c (.sl [.int .i64, .int .i64] x1), .c (.sl [.int .i64, .int .i64, .int .i64, .int .i64] x2), .c (.int .i64 x3)], .c (.int .i64 i3)] → 
      (((E.le (E.pl (E.len l2) (E.len [[.int .i64 (E.sub .i64 (E.gi (E.cell x1 i3 0)) (E.gi (r5 0)))]])) 17592186044416) = true) ∧ 
      (K4 ((E.cat l2 [[.int .i64 (E.sub .i64 (E.gi (E.cell x1 i3 0)) (E.gi (r5 0)))]])) ((E.add .i64 i3 1)))))))
    (Q0 (l2)))
  ([]) (0))
theorem w16 {P : Program} {tbl : FuncId → List A → List C} {x1 : List (List C)} {x2 : List (List C)} {x3 : Int}  {Q0 : (List (List C)) → Prop} (h : vc16 (stdE P tbl) x1 x2 x3 Q0) : WEg P tbl rf16 (fun r H' => (∃ l1 : List (List C), Q0 l1 ∧ r = .gr 1 ∧ H' = [.box 68 [.c (.sl [.int .i64, .int .i64] x1), .c (.sl [.int .i64, .int .i64, .int .i64, .int .i64] x2), .c (.int .i64 x3)], .arr 3 [.int .i64] l1])) [.ptr 0 0] [.box 68 [.c (.sl [.int .i64, .int .i64] x1), .c (.sl [.int .i64, .int .i64, .int .i64, .int .i64] x2), .c (.int .i64 x3)]] := by
  refine ⟨?_⟩
  revert h
  generalize hE : stdE P tbl = E
  intro h
  unfold vc16 at h
  cbv
  have hb6 := h.1
  refine ⟨fun hb => absurd (hb6.symm.trans hb) Bool.false_ne_true, fun _ => ?_⟩
  replace h := h.2
  obtain ⟨I, μ, h0, hI⟩ := h
  refine LoopW.inv (fun R R' s h k => RCode.wp_mono _ R R' s h k) (fun p : List (List C) × Int => (fun (l2 : List (List C)) (i3 : Int) => (⟨[.ptr 0 0, .u, .u, .gr 1, .c (.int .i64 i3), .u, .u, .u, .u, .u, .u, .u, .u, .u, .u, .u, .u, .u, .u, .u, .u, .u, .u, .u, .u, .u, .u, .u, .u, .u, .u, .u, .u, .u, .u], [.box 68 [.c (.sl [.int .i64, .int .i64] x1), .c (.sl [.int .i64, .int .i64, .int .i64, .int .i64] x2), .c (.int .i64 x3)], .arr 3 [.int .i64] l2]⟩ : St)) p.1 p.2) (fun p => I p.1 p.2) (fun p => μ p.1 p.2) (_, _) h0 ?_ ?_
  · refine GSt.trans (GSt.nil 3 3 [.int .i64] rfl) (GSt.ren [0, 1] rfl rfl rfl (by decide) (Nat.le_add_left _ _) ?_ ?_)
    all_goals (repeat' (first | exact trivial | exact Or.inl rfl | exact Or.inr rfl | refine And.intro ?_ ?_))
  · rintro ⟨l2, i3⟩ h
    replace h := hI l2 i3 h
    cbv
    refine ⟨fun hb7 => ?_, fun hb7 => ?_⟩
    · replace h := h.t hb7
      have c8 := h.1
      refine ⟨c8, ?_⟩
      replace h := h.2
      refine ⟨hb7, ?_⟩
      have c9 := h.1
      refine ⟨c9, ?_⟩
      replace h := h.2 _ rfl
      have c10 := h.1
      refine ⟨c10, ?_⟩
      replace h := h.2
      refine ⟨(_, _), h.1, GSt.ren [0, 3] rfl rfl rfl (by decide) (Nat.le_add_left _ _) ?_ ?_, h.2⟩
      all_goals (repeat' (first | exact trivial | exact Or.inl rfl | exact Or.inr rfl | refine And.intro ?_ ?_))
    · replace h := h.f hb7
      refine ⟨_, _, GFin.of (GSt.ren [0, 1] rfl rfl rfl (by decide) (Nat.le_add_left _ _) ?_ ?_), ⟨_, h, rfl, rfl⟩⟩
      all_goals (repeat' (first | exact trivial | exact Or.inl rfl | exact Or.inr rfl | refine And.intro ?_ ?_))
def vc17 (E : Env) (x1 : List (List C)) (x2 : List (Int × List C)) (x3 : Int) (x4 : Int) (x5 : Int) (Q0 : Prop) (Q1 : (List (List C)) → Prop) : Prop :=
  (false = false) ∧ 
  ((E.pok 34 [(false, [.bool])] [.el [.sl [.int .i64, .int .i64], .mp .i64 true [.int .i64, .int .i64, .int .i64, .int .i64, .int .i64], .int .i64, .int .i64] [[.sl [.int .i64, .int .i64] x1, .mp .i64 true [.int .i64, .int .i64, .int .i64, .int .i64, .int .i64] x2, .int .i64 x3, .int .i64 x4]] 0 0, .c (.int .i64 x5)]) ∧ (∀ r2 : Nat → C, r2 = E.res 34 [.el [.sl [.int .i64, .int .i64], .mp .i64 true [.int .i64, .int .i64, .int .i64, .int .i64, .int .i64], .int .i64, .int .i64] [[.sl [.int .i64, .int .i64] x1, .mp .i64 true [.int .i64, .int .i64, .int .i64, .int .i64, .int .i64] x2, .int .i64 x3, .int .i64 x4]] 0 0, .c (.int .i64 x5)] → 
  (Br (E.not (E.gb (r2 0)))
  (Q0 )
  (RngP1 (x2) (fun (i5 : Int) (q6 : List C) (l7 : List (List C)) (K8 : (List (List C)) → Prop) =>
    Br (E.eq (E.gi (E.cell [q6] 0 1)) x5)
      (((E.le (E.pl (E.len l7) (E.len [[.int .i64 (E.gi (E.cell [q6] 0 0)), .int .i64 (E.gi (E.cell [q6] 0 1)), .int .i64 (E.gi (E.cell [q6] 0 2)), .int .i64 (E.gi (E.cell [q6] 0 3)), .int .i64 (E.gi (E.cell [q6] 0 4))]])) 3518437208883) = true) ∧ 
        (K8 ((E.cat l7 [[.int .i64 (E.gi (E.cell [q6] 0 0)), .int .i64 (E.gi (E.cell [q6] 0 1)), .int .i64 (E.gi (E.cell [q6] 0 2)), .int .i64 (E.gi (E.cell [q6] 0 3)), .int .i64 (E.gi (E.cell [q6] 0 4))]]))))
      (K8 (l7)))
    (fun (l7 : List (List C)) =>
    spSort (l7) (fun (l9 : List (List C)) => 
      LoopP2 (fun (l10 : List (List C)) (i11 : Int) (K12 : (List (List C)) → (Int) → Prop) =>
        Br (E.lt i11 (E.len l9))
          (((E.le 0 i11) = true) ∧ 
            (((E.le (E.pl (E.len l10) (E.len [[.int .i64 (E.gi (E.cell l9 i11 0)), .int .i64 (E.gi (E.cell l9 i11 1)), .int .i64 (E.gi (E.cell l9 i11 2))]])) 5864062014805) = true) ∧ 
            (K12 ((E.cat l10 [[.int .i64 (E.gi (E.cell l9 i11 0)), .int .i64 (E.gi (E.cell l9 i11 1)), .int .i64 (E.gi (E.cell l9 i11 2))]])) ((E.add .i64 i11 1)))))
          (Q1 (l10)))
        ([]) (0)))
    ([])))))
theorem w17 {P : Program} {tbl : FuncId → List A → List C} {x1 : List (List C)} {x2 : List (Int × List C)} {x3 : Int} {x4 : Int} {x5 : Int} (ce35 : SortC P 35) {Q0 : Prop} {Q1 : (List (List C)) → Prop} (h : vc17 (stdE P tbl) x1 x2 x3 x4 x5 Q0 Q1) : WEg P tbl rf17 (fun r H' => (Q0  ∧ r = .tup [.c (.nil), .c (.int .i64 7)] ∧ H' = [.box 64 [.c (.sl [.int .i64, .int .i64] x1), .map 1, .c (.int .i64 x3), .c (.int .i64 x4)], .mp .i64 true [.int .i64, .int .i64, .int .i64, .int .i64, .int .i64] x2]) ∨ (∃ l1 : List (List C), Q1 l1 ∧ r = .tup [.gr 2, .c (.int .i64 0)] ∧ H' = [.box 64 [.c (.sl [.int .i64, .int .i64] x1), .map 1, .c (.int .i64 x3), .c (.int .i64 x4)], .mp .i64 true [.int .i64, .int .i64, .int .i64, .int .i64, .int .i64] x2, .arr 44 [.int .i64, .int .i64, .int .i64] l1])) [.ptr 0 0, .c (.int .i64 x5)] [.box 64 [.c (.sl [.int .i64, .int .i64] x1), .map 1, .c (.int .i64 x3), .c (.int .i64 x4)], .mp .i64 true [.int .i64, .int .i64, .int .i64, .int .i64, .int .i64] x2] := by
  refine ⟨?_⟩
  revert h
  generalize hE : stdE P tbl = E
  intro h
  unfold vc17 at h
  cbv
  have hb13 := h.1
  refine ⟨fun hb => absurd (hb13.symm.trans hb) Bool.false_ne_true, fun _ => ?_⟩
  replace h := h.2
  have c14 := h.1
  refine ⟨c14, ?_⟩
  replace h := h.2 _ rfl
  refine ⟨fun hb15 => ?_, fun hb15 => ?_⟩
  · replace h := h.t hb15
    refine ⟨_, _, GFin.of (GSt.ren [0, 1] rfl rfl rfl (by decide) (Nat.le_add_left _ _) ?_ ?_), .inl (⟨h, rfl, rfl⟩)⟩
    all_goals (repeat' (first | exact trivial | exact Or.inl rfl | exact Or.inr rfl | refine And.intro ?_ ?_))
  · replace h := h.f hb15
    intro v3 v4
    obtain ⟨I, h0, hf, hI⟩ := h
    refine RngW.inv rngRnd_mono2 (fun p : List (List C) => (fun (l7 : List (List C)) => (⟨[.u, .c (.int .i64 x5), .u, .u, .u, .u, .gr 2, .u, .u, .u, .u, .u, .u, .u, .u, .u, .u, .u, .u, .u, .u, .pin v4 (.map 1), .pin v3 (.u), .u, .u, .u, .u, .u, .u, .u, .u, .u, .u, .u, .u, .u, .u, .u, .u, .u, .u, .u, .u, .u, .u, .u, .u, .u, .u, .u, .u], [.box 64 [.c (.sl [.int .i64, .int .i64] x1), .map 1, .c (.int .i64 x3), .c (.int .i64 x4)], .dead, .arr 73 [.int .i64, .int .i64, .int .i64, .int .i64, .int .i64] l7]⟩ : St)) p) (fun left p => I left p) _ h0 ?_ (fun p => ⟨rfl, rfl, rfl⟩) ?_ ?_
    · refine GSt.trans (GSt.nil 6 73 [.int .i64, .int .i64, .int .i64, .int .i64, .int .i64] rfl) (GSt.ren [0, 1, 2] rfl rfl rfl (by decide) (Nat.le_add_left _ _) ?_ ?_)
      all_goals (repeat' (first | exact trivial | exact Or.inl rfl | exact Or.inr rfl | refine And.intro ?_ ?_))
    · rintro l7 h
      replace h := hf l7 h
      cbv
      try refine And.intro (rfl : (_ : Value) = _) ?_
      refine HCall.mk ce35.1 ((ACalls.frame (ce35.2 _ _ h) (H := _) (tgt := [2]) rfl (by decide) ?_).mono fun r H' hq => ?_)
      · intro i o ho
        match i, ho with
        | 0, ho => cases ho; rfl
      obtain ⟨r1, H1', ⟨l9, h, rfl, rfl⟩, _, rfl, rfl⟩ := hq
      cbv
      obtain ⟨I, μ, h0, hI⟩ := h
      refine LoopW.inv (fun R R' s h k => RCode.wp_mono _ R R' s h k) (fun p : List (List C) × Int => (fun (l10 : List (List C)) (i11 : Int) => (⟨[.u, .u, .u, .u, .u, .u, .u, .u, .u, .gr 2, .u, .u, .u, .u, .u, .u, .u, .u, .u, .u, .u, .u, .u, .u, .u, .u, .u, .u, .u, .u, .u, .u, .u, .u, .u, .u, .u, .u, .gr 3, .c (.int .i64 (E.len l9)), .c (.int .i64 i11), .u, .u, .u, .u, .u, .u, .u, .u, .u, .u], [.box 64 [.c (.sl [.int .i64, .int .i64] x1), .map 1, .c (.int .i64 x3), .c (.int .i64 x4)], .mp .i64 true [.int .i64, .int .i64, .int .i64, .int .i64, .int .i64] x2, .arr 44 [.int .i64, .int .i64, .int .i64] l10, .arr 73 [.int .i64, .int .i64, .int .i64, .int .i64, .int .i64] l9]⟩ : St)) p.1 p.2) (fun p => I p.1 p.2) (fun p => μ p.1 p.2) (_, _) h0 ?_ ?_
      · refine GSt.trans (GSt.nil 9 44 [.int .i64, .int .i64, .int .i64] rfl) (GSt.ren [0, 1, 3, 2] rfl rfl rfl (by decide) (Nat.le_add_left _ _) ?_ ?_)
        all_goals (repeat' (first | exact trivial | exact Or.inl rfl | exact Or.inr rfl | refine And.intro ?_ ?_))
      · rintro ⟨l10, i11⟩ h
        replace h := hI l10 i11 h
        cbv
        refine ⟨fun hb18 => ?_, fun hb18 => ?_⟩
        · replace h := h.t hb18
          have c19 := h.1
          refine ⟨c19, ?_⟩
          replace h := h.2
          refine ⟨hb18, ?_⟩
          have c20 := h.1
          refine ⟨c20, ?_⟩
          replace h := h.2
          refine ⟨(_, _), h.1, GSt.ren [0, 1, 6, 3] rfl rfl rfl (by decide) (Nat.le_add_left _ _) ?_ ?_, h.2⟩
          all_goals (repeat' (first | exact trivial | exact Or.inl rfl | exact Or.inr rfl | refine And.intro ?_ ?_))
        · replace h := h.f hb18
          refine ⟨_, _, GFin.of (GSt.ren [0, 1, 2] rfl rfl rfl (by decide) (Nat.le_add_left _ _) ?_ ?_), .inr ((⟨_, h, rfl, rfl⟩))⟩
          all_goals (repeat' (first | exact trivial | exact Or.inl rfl | exact Or.inr rfl | refine And.intro ?_ ?_))
    · rintro left l7 h i hi
      replace h := hI left l7 h i hi
      generalize left.eraseIdx i = left2 at h ⊢
      generalize left[i] = en at h ⊢
      obtain ⟨i5, q6⟩ := en
      cbv
      refine ⟨fun hb16 => ?_, fun hb16 => ?_⟩
      · replace h := h.t hb16
        have c17 := h.1
        refine ⟨c17, ?_⟩
        replace h := h.2
        refine ⟨_, h, GSt.ren [0, 1, 5] rfl rfl rfl (by decide) (Nat.le_add_left _ _) ?_ ?_⟩
        all_goals (repeat' (first | exact trivial | exact Or.inl rfl | exact Or.inr rfl | refine And.intro ?_ ?_))
      · replace h := h.f hb16
        refine ⟨_, h, GSt.ren [0, 1, 2] rfl rfl rfl (by decide) (Nat.le_add_left _ _) ?_ ?_⟩
        all_goals (repeat' (first | exact trivial | exact Or.inl rfl | exact Or.inr rfl | refine And.intro ?_ ?_))
def vc17N (E : Env) (x5 : Int) (Q0 : Prop) : Prop :=
  (true = true) ∧ 
  (Q0 )
theorem w17N {P : Program} {tbl : FuncId → List A → List C} {x5 : Int}  {Q0 : Prop} (h : vc17N (stdE P tbl) x5 Q0) : WEg P tbl rf17 (fun r H' => (Q0  ∧ r = .tup [.c (.nil), .c (.int .i64 14)] ∧ H' = [])) [.np, .c (.int .i64 x5)] [] := by
  refine ⟨?_⟩
  revert h
  generalize hE : stdE P tbl = E
  intro h
  unfold vc17N at h
  cbv
  have hb1 := h.1
  refine ⟨fun _ => ?_, fun hb => absurd (hb.symm.trans hb1) Bool.false_ne_true⟩
  replace h := h.2
  refine ⟨_, _, GFin.of (GSt.ren [] rfl rfl rfl (fun i hi => absurd hi (Nat.not_lt_zero i)) (Nat.zero_le _) ?_ ?_), ⟨h, rfl, rfl⟩⟩
  all_goals (repeat' (first | exact trivial | exact Or.inl rfl | exact Or.inr rfl | refine And.intro ?_ ?_))
def vc18 (E : Env) (x1 : List (List C)) (x2 : List (List C)) (x3 : Int) (x5 : Int) (Q0 : Prop) (Q1 : (List (List C)) → Prop) : Prop :=
  (false = false) ∧ 
  ((E.pok 38 [(false, [.bool])] [.agg [.c (.sl [.int .i64, .int .i64] x1), .c (.sl [.int .i64, .int .i64, .int .i64, .int .i64] x2), .c (.int .i64 x3)], .c (.int .i64 x5)]) ∧ (∀ r2 : Nat → C, r2 = E.res 38 [.agg [.c (.sl [.int .i64, .int .i64] x1), .c (.sl [.int .i64, .int .i64, .int .i64, .int .i64] x2), .c (.int .i64 x3)], .c (.int .i64 x5)] → 
  (Br (E.not (E.gb (r2 0)))
  (Q0 )
  (LoopP2 (fun (l3 : List (List C)) (i4 : Int) (K5 : (List (List C)) → (Int) → Prop) =>
    Br (E.lt i4 (E.len x2))
      (((E.le 0 i4) = true) ∧ 
        (Br (E.eq (E.gi (E.cell x2 i4 2)) x5)
        ((E.pok 39 [(true, [.int .i64, .int .i64, .int .i64])] [.agg [.c (.int .i64 (E.gi (E.cell x2 i4 0))), .c (.int .i64 (E.gi (E.cell x2 i4 1))), .c (.int .i64 (E.gi (E.cell x2 i4 2))), .c (.int .i64 (E.gi (E.cell x2 i4 3)))]]) ∧ (∀ r6 : Nat → C, r6 = E.res 39 [.agg [.c (.int .i64 (E.gi (E.cell x2 i4 0))), .c (.int .i64 (E.gi (E.cell x2 i4 1))), .c (.int .i64 (E.gi (E.cell x2 i4 2))), .c (.int .i64 (E.gi (E.cell x2 i4 3)))]] → 
          (((E.le (E.pl (E.len l3) (E.len [[.int .i64 (E.gi (r6 0)), .int .i64 (E.gi (r6 1)), .int .i64 (E.gi (r6 2))]])) 5864062014805) = true) ∧ 
          (K5 ((E.cat l3 [[.int .i64 (E.gi (r6 0)), .int .i64 (E.gi (r6 1)), .int .i64 (E.gi (r6 2))]])) ((E.add .i64 i4 1))))))
        (K5 (l3) ((E.add .i64 i4 1)))))
      (Q1 (l3)))
    ([]) (0)))))
theorem w18 {P : Program} {tbl : FuncId → List A → List C} {x1 : List (List C)} {x2 : List (List C)} {x3 : Int} {x5 : Int}  {Q0 : Prop} {Q1 : (List (List C)) → Prop} (h : vc18 (stdE P tbl) x1 x2 x3 x5 Q0 Q1) : WEg P tbl rf18 (fun r H' => (Q0  ∧ r = .tup [.c (.nil), .c (.int .i64 7)] ∧ H' = [.box 68 [.c (.sl [.int .i64, .int .i64] x1), .c (.sl [.int .i64, .int .i64, .int .i64, .int .i64] x2), .c (.int .i64 x3)]]) ∨ (∃ l1 : List (List C), Q1 l1 ∧ r = .tup [.gr 1, .c (.int .i64 0)] ∧ H' = [.box 68 [.c (.sl [.int .i64, .int .i64] x1), .c (.sl [.int .i64, .int .i64, .int .i64, .int .i64] x2), .c (.int .i64 x3)], .arr 44 [.int .i64, .int .i64, .int .i64] l1])) [.ptr 0 0, .c (.int .i64 x5)] [.box 68 [.c (.sl [.int .i64, .int .i64] x1), .c (.sl [.int .i64, .int .i64, .int .i64, .int .i64] x2), .c (.int .i64 x3)]] := by
  refine ⟨?_⟩
  revert h
  generalize hE : stdE P tbl = E
  intro h
  unfold vc18 at h
  cbv
  have hb7 := h.1
  refine ⟨fun hb => absurd (hb7.symm.trans hb) Bool.false_ne_true, fun _ => ?_⟩
  replace h := h.2
  have c8 := h.1
  refine ⟨c8, ?_⟩
  replace h := h.2 _ rfl
  refine ⟨fun hb9 => ?_, fun hb9 => ?_⟩
  · replace h := h.t hb9
    refine ⟨_, _, GFin.of (GSt.ren [0] rfl rfl rfl (by decide) (Nat.le_add_left _ _) ?_ ?_), .inl (⟨h, rfl, rfl⟩)⟩
    all_goals (repeat' (first | exact trivial | exact Or.inl rfl | exact Or.inr rfl | refine And.intro ?_ ?_))
  · replace h := h.f hb9
    obtain ⟨I, μ, h0, hI⟩ := h
    refine LoopW.inv (fun R R' s h k => RCode.wp_mono _ R R' s h k) (fun p : List (List C) × Int => (fun (l3 : List (List C)) (i4 : Int) => (⟨[.ptr 0 0, .c (.int .i64 x5), .u, .u, .u, .u, .gr 1, .c (.int .i64 i4), .u, .u, .u, .u, .u, .u, .u, .u, .u, .u, .u, .u, .u, .u, .u, .u, .u, .u, .u, .u, .u, .u, .u, .u, .u, .u, .u, .u, .u, .u, .u, .u, .u, .u, .u, .u, .u, .u, .u], [.box 68 [.c (.sl [.int .i64, .int .i64] x1), .c (.sl [.int .i64, .int .i64, .int .i64, .int .i64] x2), .c (.int .i64 x3)], .arr 44 [.int .i64, .int .i64, .int .i64] l3]⟩ : St)) p.1 p.2) (fun p => I p.1 p.2) (fun p => μ p.1 p.2) (_, _) h0 ?_ ?_
    · refine GSt.trans (GSt.nil 6 44 [.int .i64, .int .i64, .int .i64] rfl) (GSt.ren [0, 1] rfl rfl rfl (by decide) (Nat.le_add_left _ _) ?_ ?_)
      all_goals (repeat' (first | exact trivial | exact Or.inl rfl | exact Or.inr rfl | refine And.intro ?_ ?_))
    · rintro ⟨l3, i4⟩ h
      replace h := hI l3 i4 h
      cbv
      refine ⟨fun hb10 => ?_, fun hb10 => ?_⟩
      · replace h := h.t hb10
        have c11 := h.1
        refine ⟨c11, ?_⟩
        replace h := h.2
        refine ⟨hb10, ?_⟩
        refine ⟨fun hb12 => ?_, fun hb12 => ?_⟩
        · replace h := h.t hb12
          refine ⟨c11, ?_⟩
          refine ⟨hb10, ?_⟩
          have c13 := h.1
          refine ⟨c13, ?_⟩
          replace h := h.2 _ rfl
          have c14 := h.1
          refine ⟨c14, ?_⟩
          replace h := h.2
          refine ⟨(_, _), h.1, GSt.ren [0, 3] rfl rfl rfl (by decide) (Nat.le_add_left _ _) ?_ ?_, h.2⟩
          all_goals (repeat' (first | exact trivial | exact Or.inl rfl | exact Or.inr rfl | refine And.intro ?_ ?_))
        · replace h := h.f hb12
          refine ⟨(_, _), h.1, GSt.ren [0, 1] rfl rfl rfl (by decide) (Nat.le_add_left _ _) ?_ ?_, h.2⟩
          all_goals (repeat' (first | exact trivial | exact Or.inl rfl | exact Or.inr rfl | refine And.intro ?_ ?_))
      · replace h := h.f hb10
        refine ⟨_, _, GFin.of (GSt.ren [0, 1] rfl rfl rfl (by decide) (Nat.le_add_left _ _) ?_ ?_), .inr ((⟨_, h, rfl, rfl⟩))⟩
        all_goals (repeat' (first | exact trivial | exact Or.inl rfl | exact Or.inr rfl | refine And.intro ?_ ?_))
def vc24 (E : Env) (x1 : List (List C)) (Q0 : (Int) → Prop) (Q1 : Prop) : Prop :=
  Br (E.eq (E.len x1) 0)
  (Q0 (10))
  (Br (E.lt 32 (E.len x1))
    (Q0 (8))
    (LoopP1 (fun (i2 : Int) (K3 : (Int) → Prop) =>
      Br (E.lt i2 (E.len x1))
        (((E.le 0 i2) = true) ∧ 
          (Br (E.bite (E.bite (E.bite (E.lt (E.gi (E.cell x1 i2 0)) 1) true (E.lt 512 (E.gi (E.cell x1 i2 0)))) true (E.lt (E.gi (E.cell x1 i2 1)) 1)) true (E.lt 12000 (E.gi (E.cell x1 i2 1))))
          (Q0 (1))
          (K3 ((E.add .i64 i2 1)))))
        (spClone (x1) (
          Q1 )))
      (0)))
theorem w24 {P : Program} {tbl : FuncId → List A → List C} {x1 : List (List C)} (ce41 : CloneCO 52 [.int .i64, .int .i64] P 41) {Q0 : (Int) → Prop} {Q1 : Prop} (h : vc24 (stdE P tbl) x1 Q0 Q1) : WEg P tbl rf24 (fun r H' => (∃ i1 : Int, Q0 i1 ∧ r = .tup [.np, .c (.int .i64 i1)] ∧ H' = []) ∨ (Q1  ∧ r = .tup [.ptr 0 0, .c (.int .i64 0)] ∧ H' = [.box 64 [.c (.sl [.int .i64, .int .i64] x1), .map 1, .c (.int .i64 0), .c (.int .i64 0)], .mp .i64 true [.int .i64, .int .i64, .int .i64, .int .i64, .int .i64] []])) [.c (.sl [.int .i64, .int .i64] x1)] [] := by
  refine ⟨?_⟩
  revert h
  generalize hE : stdE P tbl = E
  intro h
  unfold vc24 at h
  cbv
  refine ⟨fun hb4 => ?_, fun hb4 => ?_⟩
  · replace h := h.t hb4
    refine ⟨_, _, GFin.of (GSt.ren [] rfl rfl rfl (fun i hi => absurd hi (Nat.not_lt_zero i)) (Nat.zero_le _) ?_ ?_), .inl (⟨_, h, rfl, rfl⟩)⟩
    all_goals (repeat' (first | exact trivial | exact Or.inl rfl | exact Or.inr rfl | refine And.intro ?_ ?_))
  · replace h := h.f hb4
    refine ⟨fun hb5 => ?_, fun hb5 => ?_⟩
    · replace h := h.t hb5
      refine ⟨_, _, GFin.of (GSt.ren [] rfl rfl rfl (fun i hi => absurd hi (Nat.not_lt_zero i)) (Nat.zero_le _) ?_ ?_), .inl (⟨_, h, rfl, rfl⟩)⟩
      all_goals (repeat' (first | exact trivial | exact Or.inl rfl | exact Or.inr rfl | refine And.intro ?_ ?_))
    · replace h := h.f hb5
      obtain ⟨I, μ, h0, hI⟩ := h
      refine LoopW.inv (fun R R' s h k => RCode.wp_mono _ R R' s h k) (fun p : Int => (fun (i2 : Int) => (⟨[.c (.sl [.int .i64, .int .i64] x1), .u, .u, .u, .u, .u, .u, .u, .u, .u, .u, .u, .c (.sl [.int .i64, .int .i64] x1), .c (.int .i64 (E.len x1)), .c (.int .i64 i2), .u, .u, .u, .u, .u, .u, .u, .u, .u, .u, .u, .u, .u, .u, .u, .u, .u, .u, .u, .u, .u, .u, .u, .u, .u, .u, .u], []⟩ : St)) p) (fun p => I p) (fun p => μ p) _ h0 ?_ ?_
      · refine GSt.ren [] rfl rfl rfl (fun i hi => absurd hi (Nat.not_lt_zero i)) (Nat.zero_le _) ?_ ?_
        all_goals (repeat' (first | exact trivial | exact Or.inl rfl | exact Or.inr rfl | refine And.intro ?_ ?_))
      · rintro i2 h
        replace h := hI i2 h
        cbv
        refine ⟨fun hb6 => ?_, fun hb6 => ?_⟩
        · replace h := h.t hb6
          have c7 := h.1
          refine ⟨c7, ?_⟩
          replace h := h.2
          refine ⟨hb6, ?_⟩
          refine ⟨⟨fun hh => hh⟩, ?_⟩
          refine ⟨⟨fun hh => hh⟩, ?_⟩
          refine ⟨⟨fun hh => hh⟩, ?_⟩
          refine ⟨⟨fun hh => hh⟩, ?_⟩
          refine ⟨⟨fun hh => hh⟩, ?_⟩
          refine ⟨⟨fun hh => hh⟩, ?_⟩
          refine ⟨⟨fun hh => hh⟩, ?_⟩
          refine ⟨⟨fun hh => hh⟩, ?_⟩
          refine ⟨⟨fun hh => hh⟩, ?_⟩
          refine ⟨fun hb8 => ?_, fun hb8 => ?_⟩
          · replace h := h.t hb8
            refine ⟨_, _, GFin.of (GSt.ren [] rfl rfl rfl (fun i hi => absurd hi (Nat.not_lt_zero i)) (Nat.zero_le _) ?_ ?_), .inl (⟨_, h, rfl, rfl⟩)⟩
            all_goals (repeat' (first | exact trivial | exact Or.inl rfl | exact Or.inr rfl | refine And.intro ?_ ?_))
          · replace h := h.f hb8
            refine ⟨_, h.1, GSt.ren [] rfl rfl rfl (fun i hi => absurd hi (Nat.not_lt_zero i)) (Nat.zero_le _) ?_ ?_, h.2⟩
            all_goals (repeat' (first | exact trivial | exact Or.inl rfl | exact Or.inr rfl | refine And.intro ?_ ?_))
        · replace h := h.f hb6
          refine HCall.mk ce41.1.1 ((ACalls.frame (ce41.1.2 _ _ h) (H := _) (tgt := []) rfl (by decide) ?_).mono fun r H' hq => ?_)
          · intro i o ho
            cases ho
          obtain ⟨r1, H1', ⟨h, rfl, rfl⟩, _, rfl, rfl⟩ := hq
          cbv
          refine ⟨_, _, GFin.of (GSt.trans (s' := (⟨[.tup [.ptr 1 0, .c (.int .i64 0)]], [.mp .i64 true [.int .i64, .int .i64, .int .i64, .int .i64, .int .i64] [], .box 64 [.c (.sl [.int .i64, .int .i64] x1), .map 0, .c (.int .i64 0), .c (.int .i64 0)], .frz [.int .i64, .int .i64] x1]⟩ : St)) (GSt.datBox 1 0 2 (Tb := 64) (T := 52) (cs := [.gr 2, .map 0, .c (.int .i64 0), .c (.int .i64 0)]) (lay := [.int .i64, .int .i64]) (xs := x1) rfl rfl rfl) (GSt.ren [1, 0] rfl rfl rfl (fun i hi => absurd hi (Nat.not_lt_zero i)) (Nat.zero_le _) ?_ ?_)), .inr ((⟨h, rfl, rfl⟩))⟩
          all_goals (repeat' (first | exact trivial | exact Or.inl rfl | exact Or.inr rfl | refine And.intro ?_ ?_))
def vc28 (E : Env) (x1 : List (List C)) (Q0 : (Int) → Prop) (Q1 : (List (List C)) → Prop) : Prop :=
  Br (E.eq (E.len x1) 0)
  (Q0 (10))
  (Br (E.lt 32 (E.len x1))
    (Q0 (8))
    (LoopP1 (fun (i3 : Int) (K4 : (Int) → Prop) =>
      Br (E.lt i3 (E.len x1))
        (((E.le 0 i3) = true) ∧ 
          (Br (E.bite (E.bite (E.bite (E.lt (E.gi (E.cell x1 i3 0)) 1) true (E.lt 512 (E.gi (E.cell x1 i3 0)))) true (E.lt (E.gi (E.cell x1 i3 1)) 1)) true (E.lt 12000 (E.gi (E.cell x1 i3 1))))
          (Q0 (1))
          (K4 ((E.add .i64 i3 1)))))
        (((E.le (E.pl (E.len []) (E.len x1)) 8796093022208) = true) ∧ 
          (Q1 ((E.cat [] x1)))))
      (0)))
theorem w28 {P : Program} {tbl : FuncId → List A → List C} {x1 : List (List C)}  {Q0 : (Int) → Prop} {Q1 : (List (List C)) → Prop} (h : vc28 (stdE P tbl) x1 Q0 Q1) : WEg P tbl rf28 (fun r H' => (∃ i1 : Int, Q0 i1 ∧ r = .tup [.np, .c (.int .i64 i1)] ∧ H' = []) ∨ (∃ l2 : List (List C), Q1 l2 ∧ r = .tup [.ptr 0 0, .c (.int .i64 0)] ∧ H' = [.box 68 [.c (.sl [.int .i64, .int .i64] l2), .c (.sl [.int .i64, .int .i64, .int .i64, .int .i64] []), .c (.int .i64 0)]])) [.c (.sl [.int .i64, .int .i64] x1)] [] := by
  refine ⟨?_⟩
  revert h
  generalize hE : stdE P tbl = E
  intro h
  unfold vc28 at h
  cbv
  refine ⟨fun hb5 => ?_, fun hb5 => ?_⟩
  · replace h := h.t hb5
    refine ⟨_, _, GFin.of (GSt.ren [] rfl rfl rfl (fun i hi => absurd hi (Nat.not_lt_zero i)) (Nat.zero_le _) ?_ ?_), .inl (⟨_, h, rfl, rfl⟩)⟩
    all_goals (repeat' (first | exact trivial | exact Or.inl rfl | exact Or.inr rfl | refine And.intro ?_ ?_))
  · replace h := h.f hb5
    refine ⟨fun hb6 => ?_, fun hb6 => ?_⟩
    · replace h := h.t hb6
      refine ⟨_, _, GFin.of (GSt.ren [] rfl rfl rfl (fun i hi => absurd hi (Nat.not_lt_zero i)) (Nat.zero_le _) ?_ ?_), .inl (⟨_, h, rfl, rfl⟩)⟩
      all_goals (repeat' (first | exact trivial | exact Or.inl rfl | exact Or.inr rfl | refine And.intro ?_ ?_))
    · replace h := h.f hb6
      obtain ⟨I, μ, h0, hI⟩ := h
      refine LoopW.inv (fun R R' s h k => RCode.wp_mono _ R R' s h k) (fun p : Int => (fun (i3 : Int) => (⟨[.c (.sl [.int .i64, .int .i64] x1), .u, .u, .u, .c (.int .i64 i3), .u, .u, .u, .u, .u, .u, .u, .u, .u, .u, .u, .u, .u, .u, .u, .u, .u, .u, .u, .u, .u, .u, .u, .u, .u, .u, .u, .u, .u, .u, .u, .u, .u, .u, .u, .u, .u, .u, .u, .u, .u, .u, .u, .u, .u, .u, .u], []⟩ : St)) p) (fun p => I p) (fun p => μ p) _ h0 ?_ ?_
      · refine GSt.ren [] rfl rfl rfl (fun i hi => absurd hi (Nat.not_lt_zero i)) (Nat.zero_le _) ?_ ?_
        all_goals (repeat' (first | exact trivial | exact Or.inl rfl | exact Or.inr rfl | refine And.intro ?_ ?_))
      · rintro i3 h
        replace h := hI i3 h
        cbv
        refine ⟨fun hb7 => ?_, fun hb7 => ?_⟩
        · replace h := h.t hb7
          have c8 := h.1
          refine ⟨c8, ?_⟩
          replace h := h.2
          refine ⟨hb7, ?_⟩
          refine ⟨⟨fun hh => hh⟩, ?_⟩
          refine ⟨⟨fun hh => hh⟩, ?_⟩
          refine ⟨⟨fun _ => c8⟩, ?_⟩
          refine ⟨⟨fun _ => hb7⟩, ?_⟩
          refine ⟨⟨fun hh => hh⟩, ?_⟩
          refine ⟨⟨fun hh => hh⟩, ?_⟩
          refine ⟨⟨fun hh => hh⟩, ?_⟩
          refine ⟨⟨fun hh => hh⟩, ?_⟩
          refine ⟨⟨fun hh => hh⟩, ?_⟩
          refine ⟨⟨fun hh => hh⟩, ?_⟩
          refine ⟨⟨fun _ => c8⟩, ?_⟩
          refine ⟨⟨fun _ => hb7⟩, ?_⟩
          refine ⟨⟨fun hh => hh⟩, ?_⟩
          refine ⟨⟨fun hh => hh⟩, ?_⟩
          refine ⟨⟨fun hh => hh⟩, ?_⟩
          refine ⟨⟨fun hh => hh⟩, ?_⟩
          refine ⟨⟨fun hh => hh⟩, ?_⟩
          refine ⟨⟨fun hh => hh⟩, ?_⟩
          refine ⟨⟨fun _ => c8⟩, ?_⟩
          refine ⟨⟨fun _ => hb7⟩, ?_⟩
          refine ⟨⟨fun hh => hh⟩, ?_⟩
          refine ⟨⟨fun hh => hh⟩, ?_⟩
          refine ⟨⟨fun hh => hh⟩, ?_⟩
          refine ⟨⟨fun hh => hh⟩, ?_⟩
          refine ⟨fun hb9 => ?_, fun hb9 => ?_⟩
          · replace h := h.t hb9
            refine ⟨_, _, GFin.of (GSt.ren [] rfl rfl rfl (fun i hi => absurd hi (Nat.not_lt_zero i)) (Nat.zero_le _) ?_ ?_), .inl (⟨_, h, rfl, rfl⟩)⟩
            all_goals (repeat' (first | exact trivial | exact Or.inl rfl | exact Or.inr rfl | refine And.intro ?_ ?_))
          · replace h := h.f hb9
            refine ⟨_, h.1, GSt.ren [] rfl rfl rfl (fun i hi => absurd hi (Nat.not_lt_zero i)) (Nat.zero_le _) ?_ ?_, h.2⟩
            all_goals (repeat' (first | exact trivial | exact Or.inl rfl | exact Or.inr rfl | refine And.intro ?_ ?_))
        · replace h := h.f hb7
          have c10 := h.1
          refine ⟨c10, ?_⟩
          replace h := h.2
          refine ⟨_, _, GFin.of (GSt.trans (GSt.nilBox 2 1 79 [.int .i64, .int .i64, .int .i64, .int .i64] rfl rfl) (GSt.trans (s' := (⟨[.tup [.ptr 2 0, .c (.int .i64 0)]], [.dead, .frz [.int .i64, .int .i64] (E.cat [] x1), .box 68 [.c (.sl [.int .i64, .int .i64] (E.cat [] x1)), .gr 3, .c (.int .i64 0)], .arr 79 [.int .i64, .int .i64, .int .i64, .int .i64] []]⟩ : St)) (GSt.datBox 2 0 1 (Tb := 68) (T := 52) (cs := [.gr 1, .gr 3, .c (.int .i64 0)]) (lay := [.int .i64, .int .i64]) (xs := (E.cat [] x1)) rfl rfl rfl) (GSt.trans (s' := (⟨[.tup [.ptr 2 0, .c (.int .i64 0)]], [.dead, .frz [.int .i64, .int .i64] (E.cat [] x1), .box 68 [.c (.sl [.int .i64, .int .i64] (E.cat [] x1)), .c (.sl [.int .i64, .int .i64, .int .i64, .int .i64] []), .c (.int .i64 0)], .frz [.int .i64, .int .i64, .int .i64, .int .i64] []]⟩ : St)) (GSt.datBox 2 1 3 (Tb := 68) (T := 79) (cs := [.c (.sl [.int .i64, .int .i64] (E.cat [] x1)), .gr 3, .c (.int .i64 0)]) (lay := [.int .i64, .int .i64, .int .i64, .int .i64]) (xs := []) rfl rfl rfl) (GSt.ren [2] rfl rfl rfl (fun i hi => absurd hi (Nat.not_lt_zero i)) (Nat.zero_le _) ?_ ?_)))), .inr ((⟨_, h, rfl, rfl⟩))⟩
          all_goals (repeat' (first | exact trivial | exact Or.inl rfl | exact Or.inr rfl | refine And.intro ?_ ?_))
def vc10 (E : Env) (x1 : List (List C)) (x2 : List (List C)) (Q0 : (Bool) → Prop) (Q1 : Prop) (Q2 : Prop) : Prop :=
  Br (E.bite (E.lt 40 (E.len x1)) true (E.lt 120 (E.len x2)))
  (Q0 (true))
  (spNew (x1) (fun (i2 : Int) => 
    spNew (x1) (fun (i3 : Int) => 
      Br (E.bite (E.not (E.eq i2 i3)) true (E.not (E.beq true (E.not (E.eq i3 0)))))
        (Q0 (false))
        (Q0 (true))) (
      Br (E.bite (E.not (E.eq i2 0)) true (E.not (E.beq true (E.not (E.eq 0 0)))))
        (Q0 (false))
        (False))) (
    spNew (x1) (fun (i4 : Int) => 
      Br (E.bite (E.not (E.eq 0 i4)) true (E.not (E.beq false (E.not (E.eq i4 0)))))
        (Q0 (false))
        (Q1 )) (
      Br (E.bite (E.not (E.eq 0 0)) true (E.not (E.beq false (E.not (E.eq 0 0)))))
        (False)
        (Q2 ))))
theorem w10 {P : Program} {tbl : FuncId → List A → List C} {x1 : List (List C)} {x2 : List (List C)} (ce24 : NewC P 24) (ce28 : RNewC P 28) {Q0 : (Bool) → Prop} {Q1 : Prop} {Q2 : Prop} (h : vc10 (stdE P tbl) x1 x2 Q0 Q1 Q2) : WEg P tbl rf10 (fun r H' => (∃ b1 : Bool, Q0 b1 ∧ r = .tup [.np, .np, .c (.bool b1)] ∧ H' = []) ∨ (Q1  ∧ r = .tup [.ptr 0 0, .np, .c (.bool true)] ∧ H' = [.box 64 [.c (.sl [.int .i64, .int .i64] x1), .map 1, .c (.int .i64 0), .c (.int .i64 0)], .mp .i64 true [.int .i64, .int .i64, .int .i64, .int .i64, .int .i64] []]) ∨ (Q2  ∧ r = .tup [.ptr 0 0, .ptr 2 0, .c (.bool true)] ∧ H' = [.box 64 [.c (.sl [.int .i64, .int .i64] x1), .map 1, .c (.int .i64 0), .c (.int .i64 0)], .mp .i64 true [.int .i64, .int .i64, .int .i64, .int .i64, .int .i64] [], .box 68 [.c (.sl [.int .i64, .int .i64] x1), .c (.sl [.int .i64, .int .i64, .int .i64, .int .i64] []), .c (.int .i64 0)]])) [.c (.sl [.int .i64, .int .i64] x1), .c (.sl [.int .i64, .int .i64, .int .i64, .int .i64, .int .i64] x2)] [] := by
  refine ⟨?_⟩
  revert h
  generalize hE : stdE P tbl = E
  intro h
  unfold vc10 at h
  cbv
  refine ⟨⟨fun hh => hh⟩, ?_⟩
  refine ⟨⟨fun hh => hh⟩, ?_⟩
  refine ⟨⟨fun hh => hh⟩, ?_⟩
  refine ⟨fun hb5 => ?_, fun hb5 => ?_⟩
  · replace h := h.t hb5
    refine ⟨_, _, GFin.of (GSt.ren [] rfl rfl rfl (fun i hi => absurd hi (Nat.not_lt_zero i)) (Nat.zero_le _) ?_ ?_), .inl (⟨_, h, rfl, rfl⟩)⟩
    all_goals (repeat' (first | exact trivial | exact Or.inl rfl | exact Or.inr rfl | refine And.intro ?_ ?_))
  · replace h := h.f hb5
    refine HCall.mk ce24.1 ((ACalls.frame (ce24.2 _ _ _ h) (H := _) (tgt := []) rfl (by decide) ?_).mono fun r H' hq => ?_)
    · intro i o ho
      cases ho
    obtain ⟨r1, H1', hd, _, hr1, hr2⟩ := hq
    rcases hd with ⟨i2, h, rfl, rfl⟩ | ⟨h, rfl, rfl⟩
    · subst hr1 hr2
      cbv
      refine HCall.mk ce28.1 ((ACalls.frame (ce28.2 _ _ _ h) (H := _) (tgt := []) rfl (by decide) ?_).mono fun r H' hq => ?_)
      · intro i o ho
        cases ho
      obtain ⟨r1, H1', hd, _, hr1, hr2⟩ := hq
      rcases hd with ⟨i3, h, rfl, rfl⟩ | ⟨h, rfl, rfl⟩
      · subst hr1 hr2
        cbv
        refine ⟨⟨fun hh => hh⟩, ?_⟩
        refine ⟨⟨fun hh => hh⟩, ?_⟩
        refine ⟨⟨fun hh => hh⟩, ?_⟩
        refine ⟨⟨fun hh => hh⟩, ?_⟩
        refine ⟨⟨fun hh => hh⟩, ?_⟩
        refine ⟨fun hb6 => ?_, fun hb6 => ?_⟩
        · replace h := h.t hb6
          refine ⟨_, _, GFin.of (GSt.ren [] rfl rfl rfl (fun i hi => absurd hi (Nat.not_lt_zero i)) (Nat.zero_le _) ?_ ?_), .inl (⟨_, h, rfl, rfl⟩)⟩
          all_goals (repeat' (first | exact trivial | exact Or.inl rfl | exact Or.inr rfl | refine And.intro ?_ ?_))
        · replace h := h.f hb6
          refine ⟨_, _, GFin.of (GSt.ren [] rfl rfl rfl (fun i hi => absurd hi (Nat.not_lt_zero i)) (Nat.zero_le _) ?_ ?_), .inl (⟨_, h, rfl, rfl⟩)⟩
          all_goals (repeat' (first | exact trivial | exact Or.inl rfl | exact Or.inr rfl | refine And.intro ?_ ?_))
      · subst hr1 hr2
        cbv
        refine ⟨⟨fun hh => hh⟩, ?_⟩
        refine ⟨⟨fun hh => hh⟩, ?_⟩
        refine ⟨⟨fun hh => hh⟩, ?_⟩
        refine ⟨⟨fun hh => hh⟩, ?_⟩
        refine ⟨⟨fun hh => hh⟩, ?_⟩
        refine ⟨fun hb7 => ?_, fun hb7 => ?_⟩
        · replace h := h.t hb7
          refine ⟨_, _, GFin.of (GSt.ren [] rfl rfl rfl (fun i hi => absurd hi (Nat.not_lt_zero i)) (Nat.zero_le _) ?_ ?_), .inl (⟨_, h, rfl, rfl⟩)⟩
          all_goals (repeat' (first | exact trivial | exact Or.inl rfl | exact Or.inr rfl | refine And.intro ?_ ?_))
        · replace h := h.f hb7
          exact h.elim
    · subst hr1 hr2
      cbv
      refine HCall.mk ce28.1 ((ACalls.frame (ce28.2 _ _ _ h) (H := _) (tgt := []) rfl (by decide) ?_).mono fun r H' hq => ?_)
      · intro i o ho
        cases ho
      obtain ⟨r1, H1', hd, _, hr1, hr2⟩ := hq
      rcases hd with ⟨i4, h, rfl, rfl⟩ | ⟨h, rfl, rfl⟩
      · subst hr1 hr2
        cbv
        refine ⟨⟨fun hh => hh⟩, ?_⟩
        refine ⟨⟨fun hh => hh⟩, ?_⟩
        refine ⟨⟨fun hh => hh⟩, ?_⟩
        refine ⟨⟨fun hh => hh⟩, ?_⟩
        refine ⟨⟨fun hh => hh⟩, ?_⟩
        refine ⟨fun hb8 => ?_, fun hb8 => ?_⟩
        · replace h := h.t hb8
          refine ⟨_, _, GFin.of (GSt.ren [] rfl rfl rfl (fun i hi => absurd hi (Nat.not_lt_zero i)) (Nat.zero_le _) ?_ ?_), .inl (⟨_, h, rfl, rfl⟩)⟩
          all_goals (repeat' (first | exact trivial | exact Or.inl rfl | exact Or.inr rfl | refine And.intro ?_ ?_))
        · replace h := h.f hb8
          refine ⟨_, _, GFin.of (GSt.ren [0, 1] rfl rfl rfl (fun i hi => absurd hi (Nat.not_lt_zero i)) (Nat.zero_le _) ?_ ?_), .inr (.inl (⟨h, rfl, rfl⟩))⟩
          all_goals (repeat' (first | exact trivial | exact Or.inl rfl | exact Or.inr rfl | refine And.intro ?_ ?_))
      · subst hr1 hr2
        cbv
        refine ⟨⟨fun hh => hh⟩, ?_⟩
        refine ⟨⟨fun hh => hh⟩, ?_⟩
        refine ⟨⟨fun hh => hh⟩, ?_⟩
        refine ⟨⟨fun hh => hh⟩, ?_⟩
        refine ⟨⟨fun hh => hh⟩, ?_⟩
        refine ⟨fun hb9 => ?_, fun hb9 => ?_⟩
        · replace h := h.t hb9
          exact h.elim
        · replace h := h.f hb9
          refine ⟨_, _, GFin.of (GSt.ren [0, 1, 2] rfl rfl rfl (fun i hi => absurd hi (Nat.not_lt_zero i)) (Nat.zero_le _) ?_ ?_), .inr (.inr ((⟨h, rfl, rfl⟩)))⟩
          all_goals (repeat' (first | exact trivial | exact Or.inl rfl | exact Or.inr rfl | refine And.intro ?_ ?_))
end Go.Proofs.Ytniijahjfbgfpaa.V
