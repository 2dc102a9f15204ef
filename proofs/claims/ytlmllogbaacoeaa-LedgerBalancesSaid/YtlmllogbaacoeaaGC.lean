/- Ledgers: the walks of what is said of balances. No conditions. -/
import Derived.Test.YtlmllogbaacoeaaSame
set_option linter.unusedVariables false
set_option linter.unusedSimpArgs false
namespace Go.Proofs.Ytlmllogbaacoeaa.V
open Go Go.Eng
set_option maxRecDepth 1000000
set_option maxHeartbeats 4000000
/-- papermill papermilllaw58.LedgerBalances -/
def rf5 : RFn := ⟨(.seq (.ops 0 [⟨(some 6), (.v (.mv (.k (.c (.bool false))))), none, []⟩]) (.seq (.ops 0 [⟨(some 10), (.h (.call 15 [])), none, []⟩, ⟨(some 11), (.h (.call 16 [])), none, []⟩, ⟨(some 7), (.v (.mv (.t 10))), none, []⟩, ⟨(some 8), (.v (.mv (.t 11))), none, []⟩]) (.seq (.seq (.ops 0 [⟨(some 12), (.v (.mv (.t 0))), none, []⟩, ⟨(some 13), (.v (.lenS (.t 12))), none, []⟩, ⟨(some 14), (.v (.bin .gtr (.t 13) (.k (.c (.int .i64 80))))), none, []⟩, ⟨(some 15), (.v (.mv (.t 14))), none, []⟩, ⟨(some 16), (.v (.mv (.t 0))), (some ⟨15, false⟩), [(.t 0)]⟩, ⟨(some 17), (.v (.det 17 [⟨false, [.bool]⟩] [(.t 16)])), (some ⟨15, false⟩), [(.k (.fn 17 [])), (.t 16)]⟩, ⟨(some 18), (.v (.pick (.t 15) (.k (.c (.bool true))) (.t 17))), none, []⟩, ⟨(some 19), (.v (.mv (.t 18))), none, []⟩, ⟨(some 20), (.v (.mv (.t 7))), (some ⟨19, false⟩), [(.t 7)]⟩, ⟨(some 21), (.v (.eqn 1 false (.t 20))), (some ⟨19, false⟩), [(.t 20), (.k .np)]⟩, ⟨(some 22), (.v (.pick (.t 19) (.k (.c (.bool true))) (.t 21))), none, []⟩]) (.cond (.t 22) (.seq (.ops 0 [⟨(some 23), (.v (.det 12 [⟨false, [.bool]⟩] [])), none, []⟩, ⟨(some 6), (.v (.mv (.t 23))), none, []⟩]) .ret) .skip)) (.seq (.seq (.ops 0 [⟨(some 9), (.v (.mv (.k (.c (.int .i64 0))))), none, []⟩]) (.block 0 (.loop (.seq (.seq (.ops 0 [⟨(some 24), (.v (.mv (.t 9))), none, []⟩, ⟨(some 25), (.v (.mv (.t 0))), none, []⟩, ⟨(some 26), (.v (.lenS (.t 25))), none, []⟩, ⟨(some 27), (.v (.bin .lss (.t 24) (.t 26))), none, []⟩]) (.cond (.t 27) .skip (.exit 0))) (.seq (.block 1 (.seq (.ops 0 [⟨(some 30), (.v (.mv (.t 7))), none, []⟩, ⟨(some 31), (.v (.mv (.t 0))), none, []⟩, ⟨(some 32), (.v (.mv (.t 9))), none, []⟩, ⟨(some 33), (.v (.ia 3 (.t 31) (.t 32))), none, []⟩, ⟨(some 34), (.v (.lda 3 (.t 33))), none, []⟩, ⟨(some 35), (.h (.call 18 [(.t 30), (.t 34)])), none, []⟩]) (.ops 0 [⟨(some 36), (.v (.mv (.t 8))), none, []⟩, ⟨(some 37), (.v (.mv (.t 0))), none, []⟩, ⟨(some 38), (.v (.mv (.t 9))), none, []⟩, ⟨(some 39), (.v (.ia 3 (.t 37) (.t 38))), none, []⟩, ⟨(some 40), (.v (.lda 3 (.t 39))), none, []⟩, ⟨(some 41), (.h (.call 19 [(.t 36), (.t 40)])), none, []⟩]))) (.ops 0 [⟨(some 28), (.v (.mv (.t 9))), none, []⟩, ⟨(some 29), (.v (.bin .add (.t 28) (.k (.c (.int .i64 1))))), none, []⟩, ⟨(some 9), (.v (.mv (.t 29))), none, []⟩])))))) (.seq (.ops 0 [⟨(some 42), (.v (.mv (.t 7))), none, []⟩, ⟨(some 43), (.v (.mv (.t 1))), none, []⟩, ⟨(some 44), (.h (.call 26 [(.t 42), (.t 43)])), none, []⟩, ⟨(some 45), (.v (.mv (.t 8))), none, []⟩, ⟨(some 46), (.v (.mv (.t 1))), none, []⟩, ⟨(some 47), (.h (.call 27 [(.t 45), (.t 46)])), none, []⟩, ⟨(some 48), (.v (.bin .eql (.t 44) (.t 47))), none, []⟩, ⟨(some 49), (.v (.mv (.t 48))), none, []⟩, ⟨(some 50), (.v (.mv (.t 7))), (some ⟨49, true⟩), [(.t 7)]⟩, ⟨(some 51), (.v (.mv (.t 1))), (some ⟨49, true⟩), [(.t 1)]⟩, ⟨(some 52), (.v (.mv (.t 2))), (some ⟨49, true⟩), [(.t 2)]⟩, ⟨(some 53), (.h (.call 28 [(.t 50), (.t 51), (.t 52)])), (some ⟨49, true⟩), [(.k (.fn 28 [])), (.t 50), (.t 51), (.t 52)]⟩, ⟨(some 54), (.v (.mv (.t 8))), (some ⟨49, true⟩), [(.t 8)]⟩, ⟨(some 55), (.v (.mv (.t 1))), (some ⟨49, true⟩), [(.t 1)]⟩, ⟨(some 56), (.v (.mv (.t 2))), (some ⟨49, true⟩), [(.t 2)]⟩, ⟨(some 57), (.h (.call 29 [(.t 54), (.t 55), (.t 56)])), (some ⟨49, true⟩), [(.k (.fn 29 [])), (.t 54), (.t 55), (.t 56)]⟩, ⟨(some 58), (.v (.bin .eql (.t 53) (.t 57))), (some ⟨49, true⟩), [(.t 53), (.t 57)]⟩, ⟨(some 59), (.v (.pick (.t 49) (.t 58) (.k (.c (.bool false))))), none, []⟩, ⟨(some 60), (.v (.mv (.t 59))), none, []⟩, ⟨(some 61), (.v (.det 12 [⟨false, [.bool]⟩] [])), (some ⟨60, true⟩), [(.k (.fn 12 []))]⟩, ⟨(some 62), (.v (.pick (.t 60) (.t 61) (.k (.c (.bool false))))), none, []⟩, ⟨(some 6), (.v (.mv (.t 62))), none, []⟩]) .ret))))), 63, [(.t 6)]⟩
theorem h5 : fnR Try.prog DD 5 = some rf5 := by kernel_rfl
def vc5 (E : Env) (x1 : List (List C)) (x2 : Int) (x3 : Int) (Q : List C → Prop) : Prop :=
  spNew  (
  spRNew  (
    (Imp (E.not (E.lt 80 (E.len x1))) (E.pok 17 [(false, [.bool])] [.c (.sl [.int .i64, .int .i64, .sl [.int .i64, .int .i64]] x1)])) ∧ (∀ r4 : Nat → C, r4 = E.res 17 [.c (.sl [.int .i64, .int .i64, .sl [.int .i64, .int .i64]] x1)] → 
      (Br (E.bite (E.bite (E.lt 80 (E.len x1)) true (E.gb (r4 0))) true false)
      ((E.pok 12 [(false, [.bool])] []) ∧ (∀ r5 : Nat → C, r5 = E.res 12 [] → 
        (Q [.bool (E.gb (r5 0))])))
      (LoopP4 (fun (l6 : List (List C)) (m7 : List (Int × C)) (l8 : List (List C)) (i9 : Int) (K10 : (List (List C)) → (List (Int × C)) → (List (List C)) → (Int) → Prop) =>
        Br (E.lt i9 (E.len x1))
          (((E.le 0 i9) = true) ∧ 
            (spPost (l6) (m7) ((E.gi (E.cell x1 i9 0))) ((E.gi (E.cell x1 i9 1))) ((E.gl (E.cell x1 i9 2))) (fun (m11 : List (Int × C)) (i12 : Int) => 
            spRPost (l8) ((E.gi (E.cell x1 i9 0))) ((E.gi (E.cell x1 i9 1))) ((E.gl (E.cell x1 i9 2))) (fun (l13 : List (List C)) (i14 : Int) => 
              K10 (l6) (m11) (l13) ((E.add .i64 i9 1)))) (fun (l15 : List (List C)) (m16 : List (Int × C)) => 
            spRPost (l8) ((E.gi (E.cell x1 i9 0))) ((E.gi (E.cell x1 i9 1))) ((E.gl (E.cell x1 i9 2))) (fun (l17 : List (List C)) (i18 : Int) => 
              K10 (l15) (m16) (l17) ((E.add .i64 i9 1))))))
          (spBal (l6) (m7) (x2) (fun (i19 : Int) => 
            spRBal (l8) (x2) (fun (i20 : Int) => 
              ((E.eq i19 i20) = true) ∧ 
                (spAt (l6) (m7) (x2) (x3) (fun (i21 : Int) => 
                ((E.eq i19 i20) = true) ∧ 
                  (spRAt (l8) (x2) (x3) (fun (i22 : Int) => 
                  (Imp (E.bite (E.eq i19 i20) (E.eq i21 i22) false) (E.pok 12 [(false, [.bool])] [])) ∧ (∀ r23 : Nat → C, r23 = E.res 12 [] → 
                    (Q [.bool (E.bite (E.bite (E.eq i19 i20) (E.eq i21 i22) false) (E.gb (r23 0)) false)]))))))))))
        ([]) ([]) ([]) (0))))))
theorem w5 {P : Program} {tbl : FuncId → List A → List C} (ce15 : NewC P 15) (ce16 : RNewC P 16) (ce18 : PostC P 18) (ce19 : RPostC P 19) (ce26 : BalC P 26) (ce27 : RBalC P 27) (ce28 : AtC P 28) (ce29 : RAtC P 29) {x1 : List (List C)} {x2 : Int} {x3 : Int} {row : List C} (h : vc5 (stdE P tbl) x1 x2 x3 fun c => c = row) : WPg P tbl rf5 [(false, [.bool])] row [.c (.sl [.int .i64, .int .i64, .sl [.int .i64, .int .i64]] x1), .c (.int .i64 x2), .c (.int .i64 x3)] := by
  refine ⟨?_⟩
  revert h
  generalize hE : stdE P tbl = E
  intro h
  unfold vc5 at h
  cbv
  refine HCall.mk ce15.1 ((ACalls.frame (ce15.2  _ h) (H := _) (tgt := []) rfl (by decide) ?_).mono fun r H' hq => ?_)
  · intro i o ho
    cases ho
  obtain ⟨r1, H1', ⟨h, rfl, rfl⟩, _, rfl, rfl⟩ := hq
  cbv
  refine HCall.mk ce16.1 ((ACalls.frame (ce16.2  _ h) (H := _) (tgt := []) rfl (by decide) ?_).mono fun r H' hq => ?_)
  · intro i o ho
    cases ho
  obtain ⟨r1, H1', ⟨h, rfl, rfl⟩, _, rfl, rfl⟩ := hq
  cbv
  refine ⟨⟨fun hh => hh⟩, ?_⟩
  have c24 := h.1
  refine ⟨c24, ?_⟩
  replace h := h.2 _ rfl
  refine ⟨⟨fun hh => hh⟩, ?_⟩
  refine ⟨⟨fun hh => hh⟩, ?_⟩
  refine ⟨⟨fun hh => hh⟩, ?_⟩
  refine ⟨fun hb25 => ?_, fun hb25 => ?_⟩
  · replace h := h.t hb25
    have c26 := h.1
    refine ⟨c26, ?_⟩
    replace h := h.2 _ rfl
    have h : _ = row := h
    subst h
    repeat' (first | exact trivial | exact rfl | refine And.intro ?_ ?_)
  · replace h := h.f hb25
    obtain ⟨I, μ, h0, hI⟩ := h
    refine LoopW.inv (fun R R' s h k => RCode.wp_mono _ R R' s h k) (fun p : List (List C) × List (Int × C) × List (List C) × Int => (fun (l6 : List (List C)) (m7 : List (Int × C)) (l8 : List (List C)) (i9 : Int) => (⟨[.c (.sl [.int .i64, .int .i64, .sl [.int .i64, .int .i64]] x1), .c (.int .i64 x2), .c (.int .i64 x3), .u, .u, .u, .u, .ptr 0 0, .ptr 3 0, .c (.int .i64 i9), .u, .u, .u, .u, .u, .u, .u, .u, .u, .u, .u, .u, .u, .u, .u, .u, .u, .u, .u, .u, .u, .u, .u, .u, .u, .u, .u, .u, .u, .u, .u, .u, .u, .u, .u, .u, .u, .u, .u, .u, .u, .u, .u, .u, .u, .u, .u, .u, .u, .u, .u, .u, .u], [.box 54 [.gr 1, .map 2], .arr 24 [.int .i64, .int .i64, .sl [.int .i64, .int .i64]] l6, .mp .i64 (.int .i64) m7, .box 56 [.c (.sl [.int .i64, .int .i64, .sl [.int .i64, .int .i64]] l8)]]⟩ : St)) p.1 p.2.1 p.2.2.1 p.2.2.2) (fun p => I p.1 p.2.1 p.2.2.1 p.2.2.2) (fun p => μ p.1 p.2.1 p.2.2.1 p.2.2.2) (_, _, _, _) h0 ?_ ?_
    · refine GSt.ren [0, 1, 2, 3] rfl rfl rfl (fun i hi => absurd hi (Nat.not_lt_zero i)) (Nat.zero_le _) ?_ ?_
      all_goals (repeat' (first | exact trivial | exact Or.inl rfl | exact Or.inr rfl | refine And.intro ?_ ?_))
    · rintro ⟨l6, m7, l8, i9⟩ h
      replace h := hI l6 m7 l8 i9 h
      cbv
      refine ⟨fun hb27 => ?_, fun hb27 => ?_⟩
      · replace h := h.t hb27
        have c28 := h.1
        refine ⟨c28, ?_⟩
        replace h := h.2
        refine ⟨hb27, ?_⟩
        refine HCall.mk ce18.1 ((ACalls.frame (ce18.2.1 _ _ _ _ _ _ _ h) (H := _) (tgt := [0, 1, 2]) rfl (by decide) ?_).mono fun r H' hq => ?_)
        · intro i o ho
          match i, ho with
          | 0, ho => cases ho; rfl
          | 1, ho => cases ho; rfl
          | 2, ho => cases ho; rfl
        obtain ⟨r1, H1', hd, _, hr1, hr2⟩ := hq
        rcases hd with ⟨m11, i12, h, rfl, rfl⟩ | ⟨l15, m16, h, rfl, rfl⟩
        · subst hr1 hr2
          cbv
          refine ⟨c28, ?_⟩
          refine ⟨hb27, ?_⟩
          refine HCall.mk ce19.1 ((ACalls.frame (ce19.2 _ _ _ _ _ h) (H := _) (tgt := [3]) rfl (by decide) ?_).mono fun r H' hq => ?_)
          · intro i o ho
            match i, ho with
            | 0, ho => cases ho; rfl
          obtain ⟨r1, H1', ⟨l13, i14, h, rfl, rfl⟩, _, rfl, rfl⟩ := hq
          cbv
          refine ⟨(_, _, _, _), h.1, GSt.ren [0, 1, 2, 3] rfl rfl rfl (fun i hi => absurd hi (Nat.not_lt_zero i)) (Nat.zero_le _) ?_ ?_, h.2⟩
          all_goals (repeat' (first | exact trivial | exact Or.inl rfl | exact Or.inr rfl | refine And.intro ?_ ?_))
        · subst hr1 hr2
          cbv
          refine ⟨c28, ?_⟩
          refine ⟨hb27, ?_⟩
          refine HCall.mk ce19.1 ((ACalls.frame (ce19.2 _ _ _ _ _ h) (H := _) (tgt := [3]) rfl (by decide) ?_).mono fun r H' hq => ?_)
          · intro i o ho
            match i, ho with
            | 0, ho => cases ho; rfl
          obtain ⟨r1, H1', ⟨l17, i18, h, rfl, rfl⟩, _, rfl, rfl⟩ := hq
          cbv
          refine ⟨(_, _, _, _), h.1, GSt.ren [0, 4, 2, 3] rfl rfl rfl (fun i hi => absurd hi (Nat.not_lt_zero i)) (Nat.zero_le _) ?_ ?_, h.2⟩
          all_goals (repeat' (first | exact trivial | exact Or.inl rfl | exact Or.inr rfl | refine And.intro ?_ ?_))
      · replace h := h.f hb27
        refine HCall.mk ce26.1 ((ACalls.frame (ce26.2.1 _ _ _ _ h) (H := _) (tgt := [0, 1, 2]) rfl (by decide) ?_).mono fun r H' hq => ?_)
        · intro i o ho
          match i, ho with
          | 0, ho => cases ho; rfl
          | 1, ho => cases ho; rfl
          | 2, ho => cases ho; rfl
        obtain ⟨r1, H1', ⟨i19, h, rfl, rfl⟩, _, rfl, rfl⟩ := hq
        cbv
        refine HCall.mk ce27.1 ((ACalls.frame (ce27.2 _ _ _ h) (H := _) (tgt := [3]) rfl (by decide) ?_).mono fun r H' hq => ?_)
        · intro i o ho
          match i, ho with
          | 0, ho => cases ho; rfl
        obtain ⟨r1, H1', ⟨i20, h, rfl, rfl⟩, _, rfl, rfl⟩ := hq
        cbv
        refine ⟨⟨fun hh => hh⟩, ?_⟩
        refine ⟨⟨fun hh => hh⟩, ?_⟩
        refine ⟨⟨fun hh => hh⟩, ?_⟩
        have hb29 := h.1
        refine ⟨fun _ => ?_, fun hb => absurd (hb.symm.trans hb29) Bool.false_ne_true⟩
        replace h := h.2
        refine HCall.mk ce28.1 ((ACalls.frame (ce28.2.1 _ _ _ _ _ h) (H := _) (tgt := [0, 1, 2]) rfl (by decide) ?_).mono fun r H' hq => ?_)
        · intro i o ho
          match i, ho with
          | 0, ho => cases ho; rfl
          | 1, ho => cases ho; rfl
          | 2, ho => cases ho; rfl
        obtain ⟨r1, H1', ⟨i21, h, rfl, rfl⟩, _, rfl, rfl⟩ := hq
        cbv
        refine ⟨⟨fun _ => hb29⟩, ?_⟩
        refine ⟨⟨fun _ => hb29⟩, ?_⟩
        refine ⟨⟨fun _ => hb29⟩, ?_⟩
        have hb30 := h.1
        refine ⟨fun _ => ?_, fun hb => absurd (hb.symm.trans hb30) Bool.false_ne_true⟩
        replace h := h.2
        refine HCall.mk ce29.1 ((ACalls.frame (ce29.2 _ _ _ _ h) (H := _) (tgt := [3]) rfl (by decide) ?_).mono fun r H' hq => ?_)
        · intro i o ho
          match i, ho with
          | 0, ho => cases ho; rfl
        obtain ⟨r1, H1', ⟨i22, h, rfl, rfl⟩, _, rfl, rfl⟩ := hq
        cbv
        refine ⟨⟨fun _ => hb30⟩, ?_⟩
        have c31 := h.1
        refine ⟨c31, ?_⟩
        replace h := h.2 _ rfl
        refine ⟨⟨fun hh => hh⟩, ?_⟩
        have h : _ = row := h
        subst h
        repeat' (first | exact trivial | exact rfl | refine And.intro ?_ ?_)
end Go.Proofs.Ytlmllogbaacoeaa.V
