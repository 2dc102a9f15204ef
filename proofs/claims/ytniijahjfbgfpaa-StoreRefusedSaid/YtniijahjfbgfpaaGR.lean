/- Warehouses: the walk of what is said of them: refused. No conditions. -/
import Derived.Test.YtniijahjfbgfpaaGB
set_option linter.unusedVariables false
set_option linter.unusedSimpArgs false
namespace Go.Proofs.Ytniijahjfbgfpaa.V
open Go Go.Eng
set_option maxRecDepth 1000000
set_option maxHeartbeats 4000000
/-- papermill papermilllaw54.StoreRefused -/
def rf7 : RFn := ⟨(.seq (.ops 1 [⟨(some 5), (.v (.box 0 33 (.t 2))), none, []⟩, ⟨(some 6), (.v (.mv (.k (.c (.bool false))))), none, []⟩]) (.seq (.seq (.ops 0 [⟨(some 20), (.v (.mv (.t 0))), none, []⟩, ⟨(some 21), (.v (.lenS (.t 20))), none, []⟩, ⟨(some 22), (.v (.bin .gtr (.t 21) (.k (.c (.int .i64 40))))), none, []⟩, ⟨(some 23), (.v (.mv (.t 22))), none, []⟩, ⟨(some 24), (.v (.mv (.t 1))), (some ⟨23, false⟩), [(.t 1)]⟩, ⟨(some 25), (.v (.lenS (.t 24))), (some ⟨23, false⟩), [(.t 24)]⟩, ⟨(some 26), (.v (.bin .gtr (.t 25) (.k (.c (.int .i64 60))))), (some ⟨23, false⟩), [(.t 25), (.k (.c (.int .i64 60)))]⟩, ⟨(some 27), (.v (.pick (.t 23) (.k (.c (.bool true))) (.t 26))), none, []⟩]) (.cond (.t 27) (.seq (.ops 0 [⟨(some 28), (.v (.det 11 [⟨false, [.bool]⟩] [])), none, []⟩, ⟨(some 6), (.v (.mv (.t 28))), none, []⟩]) .ret) .skip)) (.seq (.ops 0 [⟨(some 30), (.v (.mv (.t 0))), none, []⟩, ⟨(some 31), (.h (.call 24 [(.t 30)])), none, []⟩, ⟨(some 29), (.v (.mv (.t 31))), none, []⟩, ⟨(some 32), (.v (.ext (.t 29) 0)), none, []⟩, ⟨(some 33), (.v (.ext (.t 29) 1)), none, []⟩, ⟨(some 7), (.v (.mv (.t 32))), none, []⟩, ⟨(some 8), (.v (.mv (.t 33))), none, []⟩]) (.seq (.seq (.ops 0 [⟨(some 34), (.v (.mv (.t 8))), none, []⟩, ⟨(some 35), (.v (.bin .neq (.t 34) (.k (.c (.int .i64 0))))), none, []⟩, ⟨(some 36), (.v (.mv (.t 35))), none, []⟩, ⟨(some 37), (.v (.mv (.t 7))), (some ⟨36, false⟩), [(.t 7)]⟩, ⟨(some 38), (.v (.eqn 1 false (.t 37))), (some ⟨36, false⟩), [(.t 37), (.k .np)]⟩, ⟨(some 39), (.v (.pick (.t 36) (.k (.c (.bool true))) (.t 38))), none, []⟩]) (.cond (.t 39) (.seq (.ops 0 [⟨(some 40), (.v (.mv (.t 8))), none, []⟩, ⟨(some 41), (.v (.bin .neq (.t 40) (.k (.c (.int .i64 0))))), none, []⟩, ⟨(some 42), (.v (.mv (.t 41))), none, []⟩, ⟨(some 43), (.v (.mv (.t 7))), (some ⟨42, true⟩), [(.t 7)]⟩, ⟨(some 44), (.v (.eqn 1 false (.t 43))), (some ⟨42, true⟩), [(.t 43), (.k .np)]⟩, ⟨(some 45), (.v (.pick (.t 42) (.t 44) (.k (.c (.bool false))))), none, []⟩, ⟨(some 46), (.v (.mv (.t 45))), none, []⟩, ⟨(some 47), (.v (.det 11 [⟨false, [.bool]⟩] [])), (some ⟨46, true⟩), [(.k (.fn 11 []))]⟩, ⟨(some 48), (.v (.pick (.t 46) (.t 47) (.k (.c (.bool false))))), none, []⟩, ⟨(some 6), (.v (.mv (.t 48))), none, []⟩]) .ret) .skip)) (.seq (.seq (.ops 0 [⟨(some 9), (.v (.mv (.k (.c (.int .i64 0))))), none, []⟩]) (.block 0 (.loop (.seq (.seq (.ops 0 [⟨(some 49), (.v (.mv (.t 9))), none, []⟩, ⟨(some 50), (.v (.mv (.t 1))), none, []⟩, ⟨(some 51), (.v (.lenS (.t 50))), none, []⟩, ⟨(some 52), (.v (.bin .lss (.t 49) (.t 51))), none, []⟩]) (.cond (.t 52) .skip (.exit 0))) (.seq (.block 1 (.ops 0 [⟨(some 55), (.v (.mv (.t 7))), none, []⟩, ⟨(some 56), (.v (.mv (.t 1))), none, []⟩, ⟨(some 57), (.v (.mv (.t 9))), none, []⟩, ⟨(some 58), (.v (.ia 5 (.t 56) (.t 57))), none, []⟩, ⟨(some 59), (.v (.lda 5 (.t 58))), none, []⟩, ⟨(some 60), (.h (.call 12 [(.t 55), (.t 59)])), none, []⟩])) (.ops 0 [⟨(some 53), (.v (.mv (.t 9))), none, []⟩, ⟨(some 54), (.v (.bin .add (.t 53) (.k (.c (.int .i64 1))))), none, []⟩, ⟨(some 9), (.v (.mv (.t 54))), none, []⟩])))))) (.seq (.ops 0 [⟨(some 10), (.v (.mv (.k (.c .nil)))), none, []⟩]) (.seq (.seq (.ops 0 [⟨(some 11), (.v (.mv (.k (.c (.int .i64 0))))), none, []⟩]) (.block 2 (.loop (.seq (.seq (.ops 0 [⟨(some 61), (.v (.mv (.t 11))), none, []⟩, ⟨(some 62), (.v (.mv (.t 0))), none, []⟩, ⟨(some 63), (.v (.lenS (.t 62))), none, []⟩, ⟨(some 64), (.v (.bin .lss (.t 61) (.t 63))), none, []⟩]) (.cond (.t 64) .skip (.exit 2))) (.seq (.block 3 (.seq (.ops 0 [⟨(some 68), (.v (.mv (.t 7))), none, []⟩, ⟨(some 69), (.v (.mv (.t 11))), none, []⟩, ⟨(some 70), (.h (.call 17 [(.t 68), (.t 69)])), none, []⟩, ⟨(some 67), (.v (.mv (.t 70))), none, []⟩, ⟨(some 71), (.v (.ext (.t 67) 0)), none, []⟩, ⟨(some 72), (.v (.ext (.t 67) 1)), none, []⟩, ⟨(some 12), (.v (.mv (.t 71))), none, []⟩, ⟨(some 13), (.v (.mv (.t 72))), none, []⟩]) (.ops 2 [⟨(some 73), (.v (.mv (.t 10))), none, []⟩, ⟨(some 74), (.v (.mv (.t 12))), none, []⟩, ⟨(some 75), (.v (.bsl 0 38 [(.sl [(.int .i64), (.int .i64), (.int .i64)])] [(.t 74)])), none, []⟩, ⟨(some 76), (.v (.app 1 38 [(.sl [(.int .i64), (.int .i64), (.int .i64)])] 5864062014805 (.t 73) (.t 75))), none, []⟩, ⟨(some 10), (.v (.mv (.t 76))), none, []⟩]))) (.ops 0 [⟨(some 65), (.v (.mv (.t 11))), none, []⟩, ⟨(some 66), (.v (.bin .add (.t 65) (.k (.c (.int .i64 1))))), none, []⟩, ⟨(some 11), (.v (.mv (.t 66))), none, []⟩])))))) (.seq (.ops 0 [⟨(some 78), (.v (.mv (.t 7))), none, []⟩, ⟨(some 79), (.v (.lda 5 (.t 5))), none, []⟩, ⟨(some 80), (.h (.call 12 [(.t 78), (.t 79)])), none, []⟩, ⟨(some 77), (.v (.mv (.t 80))), none, []⟩, ⟨(some 81), (.v (.ext (.t 77) 0)), none, []⟩, ⟨(some 82), (.v (.ext (.t 77) 1)), none, []⟩, ⟨(some 14), (.v (.mv (.t 81))), none, []⟩, ⟨(some 15), (.v (.mv (.t 82))), none, []⟩]) (.seq (.ops 0 [⟨(some 16), (.v (.mv (.k (.c (.int .i64 0))))), none, []⟩]) (.seq (.seq (.ops 0 [⟨(some 17), (.v (.mv (.k (.c (.int .i64 0))))), none, []⟩]) (.block 4 (.loop (.seq (.seq (.ops 0 [⟨(some 83), (.v (.mv (.t 17))), none, []⟩, ⟨(some 84), (.v (.mv (.t 0))), none, []⟩, ⟨(some 85), (.v (.lenS (.t 84))), none, []⟩, ⟨(some 86), (.v (.bin .lss (.t 83) (.t 85))), none, []⟩]) (.cond (.t 86) .skip (.exit 4))) (.seq (.block 5 (.seq (.ops 0 [⟨(some 90), (.v (.mv (.t 7))), none, []⟩, ⟨(some 91), (.v (.mv (.t 17))), none, []⟩, ⟨(some 92), (.h (.call 17 [(.t 90), (.t 91)])), none, []⟩, ⟨(some 89), (.v (.mv (.t 92))), none, []⟩, ⟨(some 93), (.v (.ext (.t 89) 0)), none, []⟩, ⟨(some 94), (.v (.ext (.t 89) 1)), none, []⟩, ⟨(some 18), (.v (.mv (.t 93))), none, []⟩, ⟨(some 19), (.v (.mv (.t 94))), none, []⟩]) (.seq (.ops 0 [⟨(some 95), (.v (.mv (.t 18))), none, []⟩, ⟨(some 96), (.v (.mv (.t 10))), none, []⟩, ⟨(some 97), (.v (.mv (.t 17))), none, []⟩, ⟨(some 98), (.v (.ia 1 (.t 96) (.t 97))), none, []⟩, ⟨(some 99), (.v (.ld (.t 98))), none, []⟩, ⟨(some 100), (.v (.det 19 [⟨false, [.bool]⟩] [(.t 95), (.t 99)])), none, []⟩, ⟨(some 101), (.v (.un .not (.t 100))), none, []⟩]) (.cond (.t 101) (.ops 0 [⟨(some 102), (.v (.mv (.t 16))), none, []⟩, ⟨(some 103), (.v (.bin .add (.t 102) (.k (.c (.int .i64 1))))), none, []⟩, ⟨(some 16), (.v (.mv (.t 103))), none, []⟩]) .skip)))) (.ops 0 [⟨(some 87), (.v (.mv (.t 17))), none, []⟩, ⟨(some 88), (.v (.bin .add (.t 87) (.k (.c (.int .i64 1))))), none, []⟩, ⟨(some 17), (.v (.mv (.t 88))), none, []⟩])))))) (.seq (.seq (.ops 0 [⟨(some 104), (.v (.mv (.t 15))), none, []⟩, ⟨(some 105), (.v (.bin .neq (.t 104) (.k (.c (.int .i64 0))))), none, []⟩]) (.cond (.t 105) (.seq (.ops 0 [⟨(some 106), (.v (.mv (.t 16))), none, []⟩, ⟨(some 107), (.v (.bin .eql (.t 106) (.k (.c (.int .i64 0))))), none, []⟩, ⟨(some 108), (.v (.mv (.t 107))), none, []⟩, ⟨(some 109), (.v (.det 11 [⟨false, [.bool]⟩] [])), (some ⟨108, true⟩), [(.k (.fn 11 []))]⟩, ⟨(some 110), (.v (.pick (.t 108) (.t 109) (.k (.c (.bool false))))), none, []⟩, ⟨(some 6), (.v (.mv (.t 110))), none, []⟩]) .ret) .skip)) (.seq (.ops 0 [⟨(some 111), (.v (.fa 0 (.t 5))), none, []⟩, ⟨(some 112), (.v (.ld (.t 111))), none, []⟩, ⟨(some 113), (.v (.bin .eql (.t 112) (.k (.c (.int .i64 1))))), none, []⟩, ⟨(some 114), (.v (.mv (.t 113))), none, []⟩, ⟨(some 115), (.v (.mv (.t 16))), (some ⟨114, true⟩), [(.t 16)]⟩, ⟨(some 116), (.v (.bin .eql (.t 115) (.k (.c (.int .i64 2))))), (some ⟨114, true⟩), [(.t 115), (.k (.c (.int .i64 2)))]⟩, ⟨(some 117), (.v (.pick (.t 114) (.t 116) (.k (.c (.bool false))))), none, []⟩, ⟨(some 118), (.v (.mv (.t 117))), none, []⟩, ⟨(some 119), (.v (.fa 0 (.t 5))), (some ⟨118, false⟩), [(.t 5)]⟩, ⟨(some 120), (.v (.ld (.t 119))), (some ⟨118, false⟩), [(.t 119)]⟩, ⟨(some 121), (.v (.bin .neq (.t 120) (.k (.c (.int .i64 1))))), (some ⟨118, false⟩), [(.t 120), (.k (.c (.int .i64 1)))]⟩, ⟨(some 122), (.v (.mv (.t 121))), (some ⟨118, false⟩), [(.t 121)]⟩, ⟨(some 123), (.v (.mv (.t 16))), (some ⟨122, true⟩), [(.t 16)]⟩, ⟨(some 124), (.v (.bin .eql (.t 123) (.k (.c (.int .i64 1))))), (some ⟨122, true⟩), [(.t 123), (.k (.c (.int .i64 1)))]⟩, ⟨(some 125), (.v (.pick (.t 122) (.t 124) (.k (.c (.bool false))))), (some ⟨118, false⟩), [(.t 122), (.t 124), (.k (.c (.bool false)))]⟩, ⟨(some 126), (.v (.pick (.t 118) (.k (.c (.bool true))) (.t 125))), none, []⟩, ⟨(some 127), (.v (.mv (.t 126))), none, []⟩, ⟨(some 128), (.v (.det 11 [⟨false, [.bool]⟩] [])), (some ⟨127, true⟩), [(.k (.fn 11 []))]⟩, ⟨(some 129), (.v (.pick (.t 127) (.t 128) (.k (.c (.bool false))))), none, []⟩, ⟨(some 6), (.v (.mv (.t 129))), none, []⟩]) .ret)))))))))))), 130, [(.t 6)]⟩
theorem h7 : fnR Try.prog DD 7 = some rf7 := by kernel_rfl
def vc7 (E : Env) (x1 : List (List C)) (x2 : List (List C)) (x3 : Int) (x4 : Int) (x5 : Int) (x6 : Int) (x7 : Int) (Q : List C → Prop) : Prop :=
  Br (E.bite (E.lt 40 (E.len x1)) true (E.lt 60 (E.len x2)))
  ((E.pok 11 [(false, [.bool])] []) ∧ (∀ r8 : Nat → C, r8 = E.res 11 [] → 
    (Q [.bool (E.gb (r8 0))])))
  (spNew (x1) (fun (i9 : Int) => 
    Br (E.bite (E.not (E.eq i9 0)) true true)
      ((Imp (E.bite (E.not (E.eq i9 0)) true false) (E.pok 11 [(false, [.bool])] [])) ∧ (∀ r10 : Nat → C, r10 = E.res 11 [] → 
        (Q [.bool (E.bite (E.bite (E.not (E.eq i9 0)) true false) (E.gb (r10 0)) false)])))
      (False)) (
    Br (E.bite (E.not (E.eq 0 0)) true false)
      (False)
      (LoopP4 (fun (m11 : List (Int × List C)) (i12 : Int) (i13 : Int) (i14 : Int) (K15 : (List (Int × List C)) → (Int) → (Int) → (Int) → Prop) =>
        Br (E.lt i14 (E.len x2))
          (((E.le 0 i14) = true) ∧ 
            (spDo (x1) (m11) (i12) (i13) ((E.gi (E.cell x2 i14 0))) ((E.gi (E.cell x2 i14 1))) ((E.gi (E.cell x2 i14 2))) ((E.gi (E.cell x2 i14 3))) ((E.gi (E.cell x2 i14 4))) (fun (m16 : List (Int × List C)) (i17 : Int) (i18 : Int) (i19 : Int) (i20 : Int) => 
            K15 (m16) (i17) (i18) ((E.add .i64 i14 1)))))
          (LoopP2 (fun (l21 : List (List C)) (i22 : Int) (K23 : (List (List C)) → (Int) → Prop) =>
            Br (E.lt i22 (E.len x1))
              (spBay (x1) (m11) (i12) (i13) (i22) (fun (l24 : List (List C)) (i25 : Int) => 
                ((E.le (E.pl (E.len l21) (E.len [[.sl [.int .i64, .int .i64, .int .i64] l24]])) 5864062014805) = true) ∧ 
                  (K23 ((E.cat l21 [[.sl [.int .i64, .int .i64, .int .i64] l24]])) ((E.add .i64 i22 1)))))
              (spDo (x1) (m11) (i12) (i13) (x3) (x4) (x5) (x6) (x7) (fun (m26 : List (Int × List C)) (i27 : Int) (i28 : Int) (i29 : Int) (i30 : Int) => 
                LoopP2 (fun (i31 : Int) (i32 : Int) (K33 : (Int) → (Int) → Prop) =>
                  Br (E.lt i32 (E.len x1))
                    (spBay (x1) (m26) (i27) (i28) (i32) (fun (l34 : List (List C)) (i35 : Int) => 
                      ((E.le 0 i32) = true) ∧ ((E.lt i32 (E.len l21)) = true) ∧ 
                        ((E.pok 19 [(false, [.bool])] [.c (.sl [.int .i64, .int .i64, .int .i64] l34), .c (.sl [.int .i64, .int .i64, .int .i64] (E.gl (E.cell l21 i32 0)))]) ∧ (∀ r36 : Nat → C, r36 = E.res 19 [.c (.sl [.int .i64, .int .i64, .int .i64] l34), .c (.sl [.int .i64, .int .i64, .int .i64] (E.gl (E.cell l21 i32 0)))] → 
                        (Br (E.not (E.gb (r36 0)))
                        (K33 ((E.add .i64 i31 1)) ((E.add .i64 i32 1)))
                        (K33 (i31) ((E.add .i64 i32 1))))))))
                    (Br (E.not (E.eq i30 0))
                      ((Imp (E.eq i31 0) (E.pok 11 [(false, [.bool])] [])) ∧ (∀ r37 : Nat → C, r37 = E.res 11 [] → 
                        (Q [.bool (E.bite (E.eq i31 0) (E.gb (r37 0)) false)])))
                      ((Imp (E.not (E.bite (E.eq x3 1) (E.eq i31 2) false)) (Imp (E.not (E.eq x3 1)) ((E.and (E.not (E.bite (E.eq x3 1) (E.eq i31 2) false)) (E.not (E.eq x3 1))) = true))) ∧ 
                        ((Imp (E.bite (E.bite (E.eq x3 1) (E.eq i31 2) false) true (E.bite (E.not (E.eq x3 1)) (E.eq i31 1) false)) (E.pok 11 [(false, [.bool])] [])) ∧ (∀ r38 : Nat → C, r38 = E.res 11 [] → 
                        (Q [.bool (E.bite (E.bite (E.bite (E.eq x3 1) (E.eq i31 2) false) true (E.bite (E.not (E.eq x3 1)) (E.eq i31 1) false)) (E.gb (r38 0)) false)]))))))
                  (0) (0))))
            ([]) (0)))
        ([]) (0) (0) (0))))
theorem w7 {P : Program} {tbl : FuncId → List A → List C} (ce12 : DoC P 12) (ce17 : BayC P 17) (ce24 : NewC P 24) {x1 : List (List C)} {x2 : List (List C)} {x3 : Int} {x4 : Int} {x5 : Int} {x6 : Int} {x7 : Int} {row : List C} (h : vc7 (stdE P tbl) x1 x2 x3 x4 x5 x6 x7 fun c => c = row) : WPg P tbl rf7 [(false, [.bool])] row [.c (.sl [.int .i64, .int .i64] x1), .c (.sl [.int .i64, .int .i64, .int .i64, .int .i64, .int .i64] x2), .agg [.c (.int .i64 x3), .c (.int .i64 x4), .c (.int .i64 x5), .c (.int .i64 x6), .c (.int .i64 x7)]] := by
  refine ⟨?_⟩
  revert h
  generalize hE : stdE P tbl = E
  intro h
  unfold vc7 at h
  cbv
  refine ⟨⟨fun hh => hh⟩, ?_⟩
  refine ⟨⟨fun hh => hh⟩, ?_⟩
  refine ⟨⟨fun hh => hh⟩, ?_⟩
  refine ⟨fun hb39 => ?_, fun hb39 => ?_⟩
  · replace h := h.t hb39
    have c40 := h.1
    refine ⟨c40, ?_⟩
    replace h := h.2 _ rfl
    have h : _ = row := h
    subst h
    repeat' (first | exact trivial | exact rfl | refine And.intro ?_ ?_)
  · replace h := h.f hb39
    refine HCall.mk ce24.1 ((ACalls.frame (ce24.2 _ _ _ h) (H := _) (tgt := []) rfl (by decide) ?_).mono fun r H' hq => ?_)
    · intro i o ho
      cases ho
    obtain ⟨r1, H1', hd, _, hr1, hr2⟩ := hq
    rcases hd with ⟨i9, h, rfl, rfl⟩ | ⟨h, rfl, rfl⟩
    · subst hr1 hr2
      cbv
      refine ⟨⟨fun hh => hh⟩, ?_⟩
      refine ⟨⟨fun hh => hh⟩, ?_⟩
      refine ⟨fun hb41 => ?_, fun hb41 => ?_⟩
      · replace h := h.t hb41
        refine ⟨⟨fun hh => hh⟩, ?_⟩
        refine ⟨⟨fun hh => hh⟩, ?_⟩
        have c42 := h.1
        refine ⟨c42, ?_⟩
        replace h := h.2 _ rfl
        refine ⟨⟨fun hh => hh⟩, ?_⟩
        have h : _ = row := h
        subst h
        repeat' (first | exact trivial | exact rfl | refine And.intro ?_ ?_)
      · replace h := h.f hb41
        exact h.elim
    · subst hr1 hr2
      cbv
      refine ⟨⟨fun hh => hh⟩, ?_⟩
      refine ⟨⟨fun hh => hh⟩, ?_⟩
      refine ⟨fun hb43 => ?_, fun hb43 => ?_⟩
      · replace h := h.t hb43
        exact h.elim
      · replace h := h.f hb43
        obtain ⟨I, μ, h0, hI⟩ := h
        refine LoopW.inv (fun R R' s h k => RCode.wp_mono _ R R' s h k) (fun p : List (Int × List C) × Int × Int × Int => (fun (m11 : List (Int × List C)) (i12 : Int) (i13 : Int) (i14 : Int) => (⟨[.c (.sl [.int .i64, .int .i64] x1), .c (.sl [.int .i64, .int .i64, .int .i64, .int .i64, .int .i64] x2), .u, .u, .u, .ptr 0 0, .u, .ptr 1 0, .u, .c (.int .i64 i14), .u, .u, .u, .u, .u, .u, .u, .u, .u, .u, .u, .u, .u, .u, .u, .u, .u, .u, .u, .u, .u, .u, .u, .u, .u, .u, .u, .u, .u, .u, .u, .u, .u, .u, .u, .u, .u, .u, .u, .u, .u, .u, .u, .u, .u, .u, .u, .u, .u, .u, .u, .u, .u, .u, .u, .u, .u, .u, .u, .u, .u, .u, .u, .u, .u, .u, .u, .u, .u, .u, .u, .u, .u, .u, .u, .u, .u, .u, .u, .u, .u, .u, .u, .u, .u, .u, .u, .u, .u, .u, .u, .u, .u, .u, .u, .u, .u, .u, .u, .u, .u, .u, .u, .u, .u, .u, .u, .u, .u, .u, .u, .u, .u, .u, .u, .u, .u, .u, .u, .u], [.box 33 [.c (.int .i64 x3), .c (.int .i64 x4), .c (.int .i64 x5), .c (.int .i64 x6), .c (.int .i64 x7)], .box 64 [.c (.sl [.int .i64, .int .i64] x1), .map 2, .c (.int .i64 i12), .c (.int .i64 i13)], .mp .i64 true [.int .i64, .int .i64, .int .i64, .int .i64, .int .i64] m11]⟩ : St)) p.1 p.2.1 p.2.2.1 p.2.2.2) (fun p => I p.1 p.2.1 p.2.2.1 p.2.2.2) (fun p => μ p.1 p.2.1 p.2.2.1 p.2.2.2) (_, _, _, _) h0 ?_ ?_
        · refine GSt.ren [0, 1, 2] rfl rfl rfl (fun i hi => absurd hi (Nat.not_lt_zero i)) (Nat.zero_le _) ?_ ?_
          all_goals (repeat' (first | exact trivial | exact Or.inl rfl | exact Or.inr rfl | refine And.intro ?_ ?_))
        · rintro ⟨m11, i12, i13, i14⟩ h
          replace h := hI m11 i12 i13 i14 h
          cbv
          refine ⟨fun hb44 => ?_, fun hb44 => ?_⟩
          · replace h := h.t hb44
            have c45 := h.1
            refine ⟨c45, ?_⟩
            replace h := h.2
            refine ⟨hb44, ?_⟩
            refine HCall.mk ce12.1 ((ACalls.frame (ce12.2.1 _ _ _ _ _ _ _ _ _ _ h) (H := _) (tgt := [1, 2]) rfl (by decide) ?_).mono fun r H' hq => ?_)
            · intro i o ho
              match i, ho with
              | 0, ho => cases ho; rfl
              | 1, ho => cases ho; rfl
            obtain ⟨r1, H1', ⟨m16, i17, i18, i19, i20, h, rfl, rfl⟩, _, rfl, rfl⟩ := hq
            cbv
            refine ⟨(_, _, _, _), h.1, GSt.ren [0, 1, 2] rfl rfl rfl (fun i hi => absurd hi (Nat.not_lt_zero i)) (Nat.zero_le _) ?_ ?_, h.2⟩
            all_goals (repeat' (first | exact trivial | exact Or.inl rfl | exact Or.inr rfl | refine And.intro ?_ ?_))
          · replace h := h.f hb44
            obtain ⟨I, μ, h0, hI⟩ := h
            refine LoopW.inv (fun R R' s h k => RCode.wp_mono _ R R' s h k) (fun p : List (List C) × Int => (fun (l21 : List (List C)) (i22 : Int) => (⟨[.c (.sl [.int .i64, .int .i64] x1), .u, .u, .u, .u, .ptr 0 0, .u, .ptr 1 0, .u, .u, .gr 3, .c (.int .i64 i22), .u, .u, .u, .u, .u, .u, .u, .u, .u, .u, .u, .u, .u, .u, .u, .u, .u, .u, .u, .u, .u, .u, .u, .u, .u, .u, .u, .u, .u, .u, .u, .u, .u, .u, .u, .u, .u, .u, .u, .u, .u, .u, .u, .u, .u, .u, .u, .u, .u, .u, .u, .u, .u, .u, .u, .u, .u, .u, .u, .u, .u, .u, .u, .u, .u, .u, .u, .u, .u, .u, .u, .u, .u, .u, .u, .u, .u, .u, .u, .u, .u, .u, .u, .u, .u, .u, .u, .u, .u, .u, .u, .u, .u, .u, .u, .u, .u, .u, .u, .u, .u, .u, .u, .u, .u, .u, .u, .u, .u, .u, .u, .u, .u, .u, .u, .u, .u, .u], [.box 33 [.c (.int .i64 x3), .c (.int .i64 x4), .c (.int .i64 x5), .c (.int .i64 x6), .c (.int .i64 x7)], .box 64 [.c (.sl [.int .i64, .int .i64] x1), .map 2, .c (.int .i64 i12), .c (.int .i64 i13)], .mp .i64 true [.int .i64, .int .i64, .int .i64, .int .i64, .int .i64] m11, .arr 38 [.sl [.int .i64, .int .i64, .int .i64]] l21]⟩ : St)) p.1 p.2) (fun p => I p.1 p.2) (fun p => μ p.1 p.2) (_, _) h0 ?_ ?_
            · refine GSt.trans (GSt.nil 10 38 [.sl [.int .i64, .int .i64, .int .i64]] rfl) (GSt.ren [0, 1, 2, 3] rfl rfl rfl (fun i hi => absurd hi (Nat.not_lt_zero i)) (Nat.zero_le _) ?_ ?_)
              all_goals (repeat' (first | exact trivial | exact Or.inl rfl | exact Or.inr rfl | refine And.intro ?_ ?_))
            · rintro ⟨l21, i22⟩ h
              replace h := hI l21 i22 h
              cbv
              refine ⟨fun hb46 => ?_, fun hb46 => ?_⟩
              · replace h := h.t hb46
                refine HCall.mk ce17.1 ((ACalls.frame (ce17.2.1 _ _ _ _ _ _ h) (H := _) (tgt := [1, 2]) rfl (by decide) ?_).mono fun r H' hq => ?_)
                · intro i o ho
                  match i, ho with
                  | 0, ho => cases ho; rfl
                  | 1, ho => cases ho; rfl
                obtain ⟨r1, H1', ⟨l24, i25, h, rfl, rfl⟩, _, rfl, rfl⟩ := hq
                cbv
                have c47 := h.1
                refine ⟨c47, ?_⟩
                replace h := h.2
                refine ⟨(_, _), h.1, GSt.ren [0, 1, 2, 5] rfl rfl rfl (fun i hi => absurd hi (Nat.not_lt_zero i)) (Nat.zero_le _) ?_ ?_, h.2⟩
                all_goals (repeat' (first | exact trivial | exact Or.inl rfl | exact Or.inr rfl | refine And.intro ?_ ?_))
              · replace h := h.f hb46
                refine HCall.mk ce12.1 ((ACalls.frame (ce12.2.1 _ _ _ _ _ _ _ _ _ _ h) (H := _) (tgt := [1, 2]) rfl (by decide) ?_).mono fun r H' hq => ?_)
                · intro i o ho
                  match i, ho with
                  | 0, ho => cases ho; rfl
                  | 1, ho => cases ho; rfl
                obtain ⟨r1, H1', ⟨m26, i27, i28, i29, i30, h, rfl, rfl⟩, _, rfl, rfl⟩ := hq
                cbv
                obtain ⟨I, μ, h0, hI⟩ := h
                refine LoopW.inv (fun R R' s h k => RCode.wp_mono _ R R' s h k) (fun p : Int × Int => (fun (i31 : Int) (i32 : Int) => (⟨[.c (.sl [.int .i64, .int .i64] x1), .u, .u, .u, .u, .ptr 0 0, .u, .ptr 1 0, .u, .u, .gr 3, .u, .u, .u, .u, .c (.int .i64 i30), .c (.int .i64 i31), .c (.int .i64 i32), .u, .u, .u, .u, .u, .u, .u, .u, .u, .u, .u, .u, .u, .u, .u, .u, .u, .u, .u, .u, .u, .u, .u, .u, .u, .u, .u, .u, .u, .u, .u, .u, .u, .u, .u, .u, .u, .u, .u, .u, .u, .u, .u, .u, .u, .u, .u, .u, .u, .u, .u, .u, .u, .u, .u, .u, .u, .u, .u, .u, .u, .u, .u, .u, .u, .u, .u, .u, .u, .u, .u, .u, .u, .u, .u, .u, .u, .u, .u, .u, .u, .u, .u, .u, .u, .u, .u, .u, .u, .u, .u, .u, .u, .u, .u, .u, .u, .u, .u, .u, .u, .u, .u, .u, .u, .u, .u, .u, .u, .u, .u, .u], [.box 33 [.c (.int .i64 x3), .c (.int .i64 x4), .c (.int .i64 x5), .c (.int .i64 x6), .c (.int .i64 x7)], .box 64 [.c (.sl [.int .i64, .int .i64] x1), .map 2, .c (.int .i64 i27), .c (.int .i64 i28)], .mp .i64 true [.int .i64, .int .i64, .int .i64, .int .i64, .int .i64] m26, .arr 38 [.sl [.int .i64, .int .i64, .int .i64]] l21]⟩ : St)) p.1 p.2) (fun p => I p.1 p.2) (fun p => μ p.1 p.2) (_, _) h0 ?_ ?_
                · refine GSt.ren [0, 1, 2, 3] rfl rfl rfl (fun i hi => absurd hi (Nat.not_lt_zero i)) (Nat.zero_le _) ?_ ?_
                  all_goals (repeat' (first | exact trivial | exact Or.inl rfl | exact Or.inr rfl | refine And.intro ?_ ?_))
                · rintro ⟨i31, i32⟩ h
                  replace h := hI i31 i32 h
                  cbv
                  refine ⟨fun hb48 => ?_, fun hb48 => ?_⟩
                  · replace h := h.t hb48
                    refine HCall.mk ce17.1 ((ACalls.frame (ce17.2.1 _ _ _ _ _ _ h) (H := _) (tgt := [1, 2]) rfl (by decide) ?_).mono fun r H' hq => ?_)
                    · intro i o ho
                      match i, ho with
                      | 0, ho => cases ho; rfl
                      | 1, ho => cases ho; rfl
                    obtain ⟨r1, H1', ⟨l34, i35, h, rfl, rfl⟩, _, rfl, rfl⟩ := hq
                    cbv
                    have c49 := h.1
                    refine ⟨c49, ?_⟩
                    replace h := h.2
                    have c50 := h.1
                    refine ⟨c50, ?_⟩
                    replace h := h.2
                    have c51 := h.1
                    refine ⟨c51, ?_⟩
                    replace h := h.2 _ rfl
                    refine ⟨fun hb52 => ?_, fun hb52 => ?_⟩
                    · replace h := h.t hb52
                      refine ⟨(_, _), h.1, GSt.ren [0, 1, 2, 3] rfl rfl rfl (fun i hi => absurd hi (Nat.not_lt_zero i)) (Nat.zero_le _) ?_ ?_, h.2⟩
                      all_goals (repeat' (first | exact trivial | exact Or.inl rfl | exact Or.inr rfl | refine And.intro ?_ ?_))
                    · replace h := h.f hb52
                      refine ⟨(_, _), h.1, GSt.ren [0, 1, 2, 3] rfl rfl rfl (fun i hi => absurd hi (Nat.not_lt_zero i)) (Nat.zero_le _) ?_ ?_, h.2⟩
                      all_goals (repeat' (first | exact trivial | exact Or.inl rfl | exact Or.inr rfl | refine And.intro ?_ ?_))
                  · replace h := h.f hb48
                    refine ⟨fun hb53 => ?_, fun hb53 => ?_⟩
                    · replace h := h.t hb53
                      have c54 := h.1
                      refine ⟨c54, ?_⟩
                      replace h := h.2 _ rfl
                      refine ⟨⟨fun hh => hh⟩, ?_⟩
                      have h : _ = row := h
                      subst h
                      repeat' (first | exact trivial | exact rfl | refine And.intro ?_ ?_)
                    · replace h := h.f hb53
                      refine ⟨⟨fun hh => hh⟩, ?_⟩
                      refine ⟨⟨fun hh => hh⟩, ?_⟩
                      refine ⟨⟨fun hh => hh⟩, ?_⟩
                      refine ⟨⟨fun hh => hh⟩, ?_⟩
                      refine ⟨⟨fun hh => hh⟩, ?_⟩
                      refine ⟨⟨fun hh => hh⟩, ?_⟩
                      refine ⟨⟨fun hh => hh⟩, ?_⟩
                      have c55 := h.1
                      refine ⟨c55, ?_⟩
                      replace h := h.2
                      refine ⟨⟨fun hh => hh⟩, ?_⟩
                      have c56 := h.1
                      refine ⟨c56, ?_⟩
                      replace h := h.2 _ rfl
                      refine ⟨⟨fun hh => hh⟩, ?_⟩
                      have h : _ = row := h
                      subst h
                      repeat' (first | exact trivial | exact rfl | refine And.intro ?_ ?_)
end Go.Proofs.Ytniijahjfbgfpaa.V
