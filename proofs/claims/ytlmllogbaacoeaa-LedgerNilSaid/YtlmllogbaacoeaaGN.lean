/- Ledgers: the walk of what is said of: a nil ledger. No conditions. -/
import Derived.Test.YtlmllogbaacoeaaSame
set_option linter.unusedVariables false
set_option linter.unusedSimpArgs false
namespace Go.Proofs.Ytlmllogbaacoeaa.V
open Go Go.Eng
set_option maxRecDepth 1000000
set_option maxHeartbeats 4000000
/-- papermill papermilllaw58.LedgerNil -/
def rf11 : RFn := ⟨(.seq (.ops 1 [⟨(some 3), (.v (.box 0 24 (.t 0))), none, []⟩, ⟨(some 6), (.v (.mv (.k (.c (.bool false))))), none, []⟩]) (.seq (.ops 0 [⟨(some 7), (.v (.mv (.k .np))), none, []⟩]) (.seq (.seq (.ops 0 [⟨(some 8), (.v (.fa 2 (.t 3))), none, []⟩, ⟨(some 9), (.v (.ld (.t 8))), none, []⟩, ⟨(some 10), (.v (.lenS (.t 9))), none, []⟩, ⟨(some 11), (.v (.bin .gtr (.t 10) (.k (.c (.int .i64 40))))), none, []⟩]) (.cond (.t 11) (.seq (.ops 0 [⟨(some 12), (.v (.det 12 [⟨false, [.bool]⟩] [])), none, []⟩, ⟨(some 6), (.v (.mv (.t 12))), none, []⟩]) .ret) .skip)) (.seq (.ops 0 [⟨(some 13), (.v (.mv (.t 7))), none, []⟩, ⟨(some 14), (.v (.lda 3 (.t 3))), none, []⟩, ⟨(some 15), (.h (.call 18 [(.t 13), (.t 14)])), none, []⟩, ⟨(some 16), (.v (.bin .eql (.t 15) (.k (.c (.int .i64 14))))), none, []⟩, ⟨(some 17), (.v (.mv (.t 16))), none, []⟩, ⟨(some 18), (.v (.mv (.t 7))), (some ⟨17, true⟩), [(.t 7)]⟩, ⟨(some 19), (.v (.mv (.t 1))), (some ⟨17, true⟩), [(.t 1)]⟩, ⟨(some 20), (.h (.call 26 [(.t 18), (.t 19)])), (some ⟨17, true⟩), [(.k (.fn 26 [])), (.t 18), (.t 19)]⟩, ⟨(some 21), (.v (.bin .eql (.t 20) (.k (.c (.int .i64 0))))), (some ⟨17, true⟩), [(.t 20), (.k (.c (.int .i64 0)))]⟩, ⟨(some 22), (.v (.pick (.t 17) (.t 21) (.k (.c (.bool false))))), none, []⟩, ⟨(some 23), (.v (.mv (.t 22))), none, []⟩, ⟨(some 24), (.v (.mv (.t 7))), (some ⟨23, true⟩), [(.t 7)]⟩, ⟨(some 25), (.v (.mv (.t 1))), (some ⟨23, true⟩), [(.t 1)]⟩, ⟨(some 26), (.v (.mv (.t 2))), (some ⟨23, true⟩), [(.t 2)]⟩, ⟨(some 27), (.h (.call 28 [(.t 24), (.t 25), (.t 26)])), (some ⟨23, true⟩), [(.k (.fn 28 [])), (.t 24), (.t 25), (.t 26)]⟩, ⟨(some 28), (.v (.bin .eql (.t 27) (.k (.c (.int .i64 0))))), (some ⟨23, true⟩), [(.t 27), (.k (.c (.int .i64 0)))]⟩, ⟨(some 29), (.v (.pick (.t 23) (.t 28) (.k (.c (.bool false))))), none, []⟩, ⟨(some 30), (.v (.mv (.t 29))), none, []⟩, ⟨(some 31), (.v (.mv (.t 7))), (some ⟨30, true⟩), [(.t 7)]⟩, ⟨(some 32), (.h (.call 24 [(.t 31)])), (some ⟨30, true⟩), [(.k (.fn 24 [])), (.t 31)]⟩, ⟨(some 33), (.v (.lenS (.t 32))), (some ⟨30, true⟩), [(.t 32)]⟩, ⟨(some 34), (.v (.bin .eql (.t 33) (.k (.c (.int .i64 0))))), (some ⟨30, true⟩), [(.t 33), (.k (.c (.int .i64 0)))]⟩, ⟨(some 35), (.v (.pick (.t 30) (.t 34) (.k (.c (.bool false))))), none, []⟩, ⟨(some 36), (.v (.mv (.t 35))), none, []⟩, ⟨(some 37), (.v (.mv (.t 7))), (some ⟨36, true⟩), [(.t 7)]⟩, ⟨(some 38), (.h (.call 21 [(.t 37)])), (some ⟨36, true⟩), [(.k (.fn 21 [])), (.t 37)]⟩, ⟨(some 39), (.v (.lenS (.t 38))), (some ⟨36, true⟩), [(.t 38)]⟩, ⟨(some 40), (.v (.bin .eql (.t 39) (.k (.c (.int .i64 0))))), (some ⟨36, true⟩), [(.t 39), (.k (.c (.int .i64 0)))]⟩, ⟨(some 41), (.v (.pick (.t 36) (.t 40) (.k (.c (.bool false))))), none, []⟩, ⟨(some 42), (.v (.mv (.t 41))), none, []⟩, ⟨(some 43), (.v (.mv (.t 7))), (some ⟨42, true⟩), [(.t 7)]⟩, ⟨(some 44), (.h (.call 32 [(.t 43)])), (some ⟨42, true⟩), [(.k (.fn 32 [])), (.t 43)]⟩, ⟨(some 45), (.v (.eqn 1 false (.t 44))), (some ⟨42, true⟩), [(.t 44), (.k .np)]⟩, ⟨(some 46), (.v (.pick (.t 42) (.t 45) (.k (.c (.bool false))))), none, []⟩, ⟨(some 47), (.v (.mv (.t 46))), none, []⟩, ⟨(some 48), (.v (.det 12 [⟨false, [.bool]⟩] [])), (some ⟨47, true⟩), [(.k (.fn 12 []))]⟩, ⟨(some 49), (.v (.pick (.t 47) (.t 48) (.k (.c (.bool false))))), none, []⟩, ⟨(some 6), (.v (.mv (.t 49))), none, []⟩]) .ret)))), 50, [(.t 6)]⟩
theorem h11 : fnR Try.prog DD 11 = some rf11 := by kernel_rfl
def vc11 (E : Env) (x1 : Int) (x2 : Int) (x3 : List (List C)) (x4 : Int) (x5 : Int) (Q : List C → Prop) : Prop :=
  Br (E.lt 40 (E.len x3))
  ((E.pok 12 [(false, [.bool])] []) ∧ (∀ r6 : Nat → C, r6 = E.res 12 [] → 
    (Q [.bool (E.gb (r6 0))])))
  (spPostN (x1) (x2) (x3) (
    ((E.eq 14 14) = true) ∧ 
      (spNil1 (x4) (
      ((E.bite (E.eq 14 14) (E.eq 0 0) false) = true) ∧ 
        (spNil2 (x4) (x5) (
        ((E.bite (E.bite (E.eq 14 14) (E.eq 0 0) false) (E.eq 0 0) false) = true) ∧ 
          (spNil0  (
          ((E.bite (E.bite (E.bite (E.eq 14 14) (E.eq 0 0) false) (E.eq 0 0) false) (E.eq 0 0) false) = true) ∧ 
            (spNil0  (
            ((E.bite (E.bite (E.bite (E.bite (E.eq 14 14) (E.eq 0 0) false) (E.eq 0 0) false) (E.eq 0 0) false) (E.eq 0 0) false) = true) ∧ 
              (spNil0  (
              (Imp (E.bite (E.bite (E.bite (E.bite (E.bite (E.eq 14 14) (E.eq 0 0) false) (E.eq 0 0) false) (E.eq 0 0) false) (E.eq 0 0) false) true false) (E.pok 12 [(false, [.bool])] [])) ∧ (∀ r7 : Nat → C, r7 = E.res 12 [] → 
                (Q [.bool (E.bite (E.bite (E.bite (E.bite (E.bite (E.bite (E.eq 14 14) (E.eq 0 0) false) (E.eq 0 0) false) (E.eq 0 0) false) (E.eq 0 0) false) true false) (E.gb (r7 0)) false)]))))))))))))))
theorem w11 {P : Program} {tbl : FuncId → List A → List C} (ce18 : PostC P 18) (ce21 : PgsC P 21) (ce24 : AccC P 24) (ce26 : BalC P 26) (ce28 : AtC P 28) (ce32 : CopyC P 32) {x1 : Int} {x2 : Int} {x3 : List (List C)} {x4 : Int} {x5 : Int} {row : List C} (h : vc11 (stdE P tbl) x1 x2 x3 x4 x5 fun c => c = row) : WPg P tbl rf11 [(false, [.bool])] row [.agg [.c (.int .i64 x1), .c (.int .i64 x2), .c (.sl [.int .i64, .int .i64] x3)], .c (.int .i64 x4), .c (.int .i64 x5)] := by
  refine ⟨?_⟩
  revert h
  generalize hE : stdE P tbl = E
  intro h
  unfold vc11 at h
  cbv
  refine ⟨fun hb8 => ?_, fun hb8 => ?_⟩
  · replace h := h.t hb8
    have c9 := h.1
    refine ⟨c9, ?_⟩
    replace h := h.2 _ rfl
    have h : _ = row := h
    subst h
    repeat' (first | exact trivial | exact rfl | refine And.intro ?_ ?_)
  · replace h := h.f hb8
    refine HCall.mk ce18.1 ((ACalls.frame (ce18.2.2 _ _ _ _ h) (H := _) (tgt := []) rfl (by decide) ?_).mono fun r H' hq => ?_)
    · intro i o ho
      cases ho
    obtain ⟨r1, H1', ⟨h, rfl, rfl⟩, _, rfl, rfl⟩ := hq
    cbv
    refine ⟨⟨fun hh => hh⟩, ?_⟩
    refine ⟨⟨fun hh => hh⟩, ?_⟩
    have hb10 := h.1
    refine ⟨fun _ => ?_, fun hb => absurd (hb.symm.trans hb10) Bool.false_ne_true⟩
    replace h := h.2
    refine HCall.mk ce26.1 ((ACalls.frame (ce26.2.2 _ _ h) (H := _) (tgt := []) rfl (by decide) ?_).mono fun r H' hq => ?_)
    · intro i o ho
      cases ho
    obtain ⟨r1, H1', ⟨h, rfl, rfl⟩, _, rfl, rfl⟩ := hq
    cbv
    refine ⟨⟨fun _ => hb10⟩, ?_⟩
    refine ⟨⟨fun hh => hh⟩, ?_⟩
    refine ⟨⟨fun hh => hh⟩, ?_⟩
    refine ⟨⟨fun hh => hh⟩, ?_⟩
    have hb11 := h.1
    refine ⟨fun _ => ?_, fun hb => absurd (hb.symm.trans hb11) Bool.false_ne_true⟩
    replace h := h.2
    refine HCall.mk ce28.1 ((ACalls.frame (ce28.2.2 _ _ _ h) (H := _) (tgt := []) rfl (by decide) ?_).mono fun r H' hq => ?_)
    · intro i o ho
      cases ho
    obtain ⟨r1, H1', ⟨h, rfl, rfl⟩, _, rfl, rfl⟩ := hq
    cbv
    refine ⟨⟨fun _ => hb11⟩, ?_⟩
    refine ⟨⟨fun hh => hh⟩, ?_⟩
    have hb12 := h.1
    refine ⟨fun _ => ?_, fun hb => absurd (hb.symm.trans hb12) Bool.false_ne_true⟩
    replace h := h.2
    refine HCall.mk ce24.1 ((ACalls.frame (ce24.2.2  _ h) (H := _) (tgt := []) rfl (by decide) ?_).mono fun r H' hq => ?_)
    · intro i o ho
      cases ho
    obtain ⟨r1, H1', ⟨h, rfl, rfl⟩, _, rfl, rfl⟩ := hq
    cbv
    refine ⟨⟨fun _ => hb12⟩, ?_⟩
    refine ⟨⟨fun _ => hb12⟩, ?_⟩
    refine ⟨⟨fun hh => hh⟩, ?_⟩
    have hb13 := h.1
    refine ⟨fun _ => ?_, fun hb => absurd (hb.symm.trans hb13) Bool.false_ne_true⟩
    replace h := h.2
    refine HCall.mk ce21.1 ((ACalls.frame (ce21.2.2  _ h) (H := _) (tgt := []) rfl (by decide) ?_).mono fun r H' hq => ?_)
    · intro i o ho
      cases ho
    obtain ⟨r1, H1', ⟨h, rfl, rfl⟩, _, rfl, rfl⟩ := hq
    cbv
    refine ⟨⟨fun _ => hb13⟩, ?_⟩
    refine ⟨⟨fun _ => hb13⟩, ?_⟩
    refine ⟨⟨fun hh => hh⟩, ?_⟩
    have hb14 := h.1
    refine ⟨fun _ => ?_, fun hb => absurd (hb.symm.trans hb14) Bool.false_ne_true⟩
    replace h := h.2
    refine HCall.mk ce32.1 ((ACalls.frame (ce32.2  _ h) (H := _) (tgt := []) rfl (by decide) ?_).mono fun r H' hq => ?_)
    · intro i o ho
      cases ho
    obtain ⟨r1, H1', ⟨h, rfl, rfl⟩, _, rfl, rfl⟩ := hq
    cbv
    refine ⟨⟨fun _ => hb14⟩, ?_⟩
    have c15 := h.1
    refine ⟨c15, ?_⟩
    replace h := h.2 _ rfl
    refine ⟨⟨fun hh => hh⟩, ?_⟩
    have h : _ = row := h
    subst h
    repeat' (first | exact trivial | exact rfl | refine And.intro ?_ ?_)
end Go.Proofs.Ytlmllogbaacoeaa.V
