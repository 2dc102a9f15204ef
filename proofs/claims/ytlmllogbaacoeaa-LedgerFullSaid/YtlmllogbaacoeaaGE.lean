/- Ledgers: the walk of what is said of: full. No conditions. -/
import Derived.Test.YtlmllogbaacoeaaSame
set_option linter.unusedVariables false
set_option linter.unusedSimpArgs false
namespace Go.Proofs.Ytlmllogbaacoeaa.V
open Go Go.Eng
set_option maxRecDepth 1000000
set_option maxHeartbeats 4000000
/-- papermill papermilllaw58.LedgerFull -/
def rf9 : RFn := ⟨(.seq (.ops 0 [⟨(some 4), (.v (.mv (.k (.c (.bool false))))), none, []⟩]) (.seq (.ops 0 [⟨(some 9), (.h (.call 15 [])), none, []⟩, ⟨(some 5), (.v (.mv (.t 9))), none, []⟩]) (.seq (.seq (.ops 0 [⟨(some 10), (.v (.mv (.t 5))), none, []⟩, ⟨(some 11), (.v (.eqn 1 false (.t 10))), none, []⟩]) (.cond (.t 11) (.seq (.ops 0 [⟨(some 4), (.v (.mv (.k (.c (.bool false))))), none, []⟩]) .ret) .skip)) (.seq (.ops 0 [⟨(some 12), (.v (.mv (.t 1))), none, []⟩, ⟨(some 13), (.v (.bin .rem (.t 12) (.k (.c (.int .u8 9))))), none, []⟩, ⟨(some 14), (.v (.cv .i64 (.t 13))), none, []⟩, ⟨(some 15), (.v (.bin .add (.k (.c (.int .i64 508))) (.t 14))), none, []⟩, ⟨(some 6), (.v (.mv (.t 15))), none, []⟩]) (.seq (.seq (.ops 0 [⟨(some 7), (.v (.mv (.k (.c (.int .i64 0))))), none, []⟩]) (.block 0 (.loop (.seq (.seq (.ops 0 [⟨(some 16), (.v (.mv (.t 7))), none, []⟩, ⟨(some 17), (.v (.mv (.t 6))), none, []⟩, ⟨(some 18), (.v (.bin .lss (.t 16) (.t 17))), none, []⟩]) (.cond (.t 18) .skip (.exit 0))) (.seq (.block 1 (.seq (.ops 0 [⟨(some 21), (.v (.mv (.t 5))), none, []⟩, ⟨(some 22), (.v (.mv (.t 7))), none, []⟩, ⟨(some 23), (.v (.bin .add (.t 22) (.k (.c (.int .i64 1))))), none, []⟩, ⟨(some 24), (.v (.mv (.t 7))), none, []⟩, ⟨(some 25), (.v (.mv (.t 0))), none, []⟩, ⟨(some 26), (.v (.cv .i64 (.t 25))), none, []⟩, ⟨(some 27), (.v (.bin .add (.k (.c (.int .i64 1))) (.t 26))), none, []⟩, ⟨(some 28), (.v (.det 31 [⟨true, [(.int .i64), (.int .i64), (.sl [(.int .i64), (.int .i64)])]⟩] [(.t 23), (.t 24), (.k (.c (.int .i64 1))), (.k (.c (.int .i64 2))), (.t 27)])), none, []⟩, ⟨(some 29), (.h (.call 18 [(.t 21), (.t 28)])), none, []⟩, ⟨(some 8), (.v (.mv (.t 29))), none, []⟩]) (.seq (.ops 0 [⟨(some 30), (.v (.mv (.t 7))), none, []⟩, ⟨(some 31), (.v (.bin .lss (.t 30) (.k (.c (.int .i64 512))))), none, []⟩, ⟨(some 32), (.v (.mv (.t 31))), none, []⟩, ⟨(some 33), (.v (.mv (.t 8))), (some ⟨32, true⟩), [(.t 8)]⟩, ⟨(some 34), (.v (.bin .neq (.t 33) (.k (.c (.int .i64 0))))), (some ⟨32, true⟩), [(.t 33), (.k (.c (.int .i64 0)))]⟩, ⟨(some 35), (.v (.pick (.t 32) (.t 34) (.k (.c (.bool false))))), none, []⟩, ⟨(some 36), (.v (.mv (.t 35))), none, []⟩, ⟨(some 37), (.v (.mv (.t 7))), (some ⟨36, false⟩), [(.t 7)]⟩, ⟨(some 38), (.v (.bin .geq (.t 37) (.k (.c (.int .i64 512))))), (some ⟨36, false⟩), [(.t 37), (.k (.c (.int .i64 512)))]⟩, ⟨(some 39), (.v (.mv (.t 38))), (some ⟨36, false⟩), [(.t 38)]⟩, ⟨(some 40), (.v (.mv (.t 8))), (some ⟨39, true⟩), [(.t 8)]⟩, ⟨(some 41), (.v (.bin .neq (.t 40) (.k (.c (.int .i64 8))))), (some ⟨39, true⟩), [(.t 40), (.k (.c (.int .i64 8)))]⟩, ⟨(some 42), (.v (.pick (.t 39) (.t 41) (.k (.c (.bool false))))), (some ⟨36, false⟩), [(.t 39), (.t 41), (.k (.c (.bool false)))]⟩, ⟨(some 43), (.v (.pick (.t 36) (.k (.c (.bool true))) (.t 42))), none, []⟩]) (.cond (.t 43) (.seq (.ops 0 [⟨(some 4), (.v (.mv (.k (.c (.bool false))))), none, []⟩]) .ret) .skip)))) (.ops 0 [⟨(some 19), (.v (.mv (.t 7))), none, []⟩, ⟨(some 20), (.v (.bin .add (.t 19) (.k (.c (.int .i64 1))))), none, []⟩, ⟨(some 7), (.v (.mv (.t 20))), none, []⟩])))))) (.seq (.ops 0 [⟨(some 44), (.v (.mv (.t 5))), none, []⟩, ⟨(some 45), (.h (.call 21 [(.t 44)])), none, []⟩, ⟨(some 46), (.v (.lenS (.t 45))), none, []⟩, ⟨(some 47), (.v (.mv (.t 6))), none, []⟩, ⟨(some 48), (.v (.min (.t 47) [(.k (.c (.int .i64 512)))])), none, []⟩, ⟨(some 49), (.v (.bin .eql (.t 46) (.t 48))), none, []⟩, ⟨(some 50), (.v (.mv (.t 49))), none, []⟩, ⟨(some 51), (.v (.mv (.t 5))), (some ⟨50, true⟩), [(.t 5)]⟩, ⟨(some 52), (.h (.call 26 [(.t 51), (.k (.c (.int .i64 2)))])), (some ⟨50, true⟩), [(.k (.fn 26 [])), (.t 51), (.k (.c (.int .i64 2)))]⟩, ⟨(some 53), (.v (.mv (.t 6))), (some ⟨50, true⟩), [(.t 6)]⟩, ⟨(some 54), (.v (.min (.t 53) [(.k (.c (.int .i64 512)))])), (some ⟨50, true⟩), [(.t 53), (.k (.c (.int .i64 512)))]⟩, ⟨(some 55), (.v (.mv (.t 0))), (some ⟨50, true⟩), [(.t 0)]⟩, ⟨(some 56), (.v (.cv .i64 (.t 55))), (some ⟨50, true⟩), [(.t 55)]⟩, ⟨(some 57), (.v (.bin .add (.k (.c (.int .i64 1))) (.t 56))), (some ⟨50, true⟩), [(.k (.c (.int .i64 1))), (.t 56)]⟩, ⟨(some 58), (.v (.bin .mul (.t 54) (.t 57))), (some ⟨50, true⟩), [(.t 54), (.t 57)]⟩, ⟨(some 59), (.v (.bin .eql (.t 52) (.t 58))), (some ⟨50, true⟩), [(.t 52), (.t 58)]⟩, ⟨(some 60), (.v (.pick (.t 50) (.t 59) (.k (.c (.bool false))))), none, []⟩, ⟨(some 61), (.v (.mv (.t 60))), none, []⟩, ⟨(some 62), (.v (.det 12 [⟨false, [.bool]⟩] [])), (some ⟨61, true⟩), [(.k (.fn 12 []))]⟩, ⟨(some 63), (.v (.pick (.t 61) (.t 62) (.k (.c (.bool false))))), none, []⟩, ⟨(some 4), (.v (.mv (.t 63))), none, []⟩]) .ret)))))), 64, [(.t 4)]⟩
theorem h9 : fnR Try.prog DD 9 = some rf9 := by kernel_rfl
def vc9 (E : Env) (x1 : Int) (x2 : Int) (Q : List C → Prop) : Prop :=
  spNew  (
  Br false
    (Q [.bool false])
    (((E.eq 9 0) = false) ∧ 
      (LoopP3 (fun (l3 : List (List C)) (m4 : List (Int × C)) (i5 : Int) (K6 : (List (List C)) → (List (Int × C)) → (Int) → Prop) =>
      Br (E.lt i5 (E.add .i64 508 (E.wrap .i64 (E.rem .u8 x2 9))))
        ((E.pok 31 [(true, [.int .i64, .int .i64, .sl [.int .i64, .int .i64]])] [.c (.int .i64 (E.add .i64 i5 1)), .c (.int .i64 i5), .c (.int .i64 1), .c (.int .i64 2), .c (.int .i64 (E.add .i64 1 (E.wrap .i64 x1)))]) ∧ (∀ r7 : Nat → C, r7 = E.res 31 [.c (.int .i64 (E.add .i64 i5 1)), .c (.int .i64 i5), .c (.int .i64 1), .c (.int .i64 2), .c (.int .i64 (E.add .i64 1 (E.wrap .i64 x1)))] → 
          (spPost (l3) (m4) ((E.gi (r7 0))) ((E.gi (r7 1))) ((E.gl (r7 2))) (fun (m8 : List (Int × C)) (i9 : Int) => 
          (Imp (E.not (E.bite (E.lt i5 512) (E.not (E.eq i9 0)) false)) (Imp (E.le 512 i5) ((E.and (E.not (E.bite (E.lt i5 512) (E.not (E.eq i9 0)) false)) (E.le 512 i5)) = true))) ∧ 
            (Br (E.bite (E.bite (E.lt i5 512) (E.not (E.eq i9 0)) false) true (E.bite (E.le 512 i5) (E.not (E.eq i9 8)) false))
            (Q [.bool false])
            (K6 (l3) (m8) ((E.add .i64 i5 1))))) (fun (l10 : List (List C)) (m11 : List (Int × C)) => 
          (Imp (E.not (E.bite (E.lt i5 512) (E.not (E.eq 0 0)) false)) (Imp (E.le 512 i5) ((E.and (E.not (E.bite (E.lt i5 512) (E.not (E.eq 0 0)) false)) (E.le 512 i5)) = true))) ∧ 
            (Br (E.bite (E.bite (E.lt i5 512) (E.not (E.eq 0 0)) false) true (E.bite (E.le 512 i5) (E.not (E.eq 0 8)) false))
            (Q [.bool false])
            (K6 (l10) (m11) ((E.add .i64 i5 1))))))))
        (spPgs (l3) (m4) (fun (l12 : List (List C)) => 
          ((E.eq (E.len l12) (E.min (E.add .i64 508 (E.wrap .i64 (E.rem .u8 x2 9))) 512)) = true) ∧ 
            (spBal (l3) (m4) (2) (fun (i13 : Int) => 
            (Imp (E.bite (E.eq (E.len l12) (E.min (E.add .i64 508 (E.wrap .i64 (E.rem .u8 x2 9))) 512)) (E.eq i13 (E.mul .i64 (E.min (E.add .i64 508 (E.wrap .i64 (E.rem .u8 x2 9))) 512) (E.add .i64 1 (E.wrap .i64 x1)))) false) (E.pok 12 [(false, [.bool])] [])) ∧ (∀ r14 : Nat → C, r14 = E.res 12 [] → 
              (Q [.bool (E.bite (E.bite (E.eq (E.len l12) (E.min (E.add .i64 508 (E.wrap .i64 (E.rem .u8 x2 9))) 512)) (E.eq i13 (E.mul .i64 (E.min (E.add .i64 508 (E.wrap .i64 (E.rem .u8 x2 9))) 512) (E.add .i64 1 (E.wrap .i64 x1)))) false) (E.gb (r14 0)) false)])))))))
      ([]) ([]) (0))))
theorem w9 {P : Program} {tbl : FuncId → List A → List C} (ce15 : NewC P 15) (ce18 : PostC P 18) (ce21 : PgsC P 21) (ce26 : BalC P 26) {x1 : Int} {x2 : Int} {row : List C} (h : vc9 (stdE P tbl) x1 x2 fun c => c = row) : WPg P tbl rf9 [(false, [.bool])] row [.c (.int .u16 x1), .c (.int .u8 x2)] := by
  refine ⟨?_⟩
  revert h
  generalize hE : stdE P tbl = E
  intro h
  unfold vc9 at h
  cbv
  refine HCall.mk ce15.1 ((ACalls.frame (ce15.2  _ h) (H := _) (tgt := []) rfl (by decide) ?_).mono fun r H' hq => ?_)
  · intro i o ho
    cases ho
  obtain ⟨r1, H1', ⟨h, rfl, rfl⟩, _, rfl, rfl⟩ := hq
  cbv
  refine ⟨fun hb15 => ?_, fun hb15 => ?_⟩
  · replace h := h.t hb15
    have h : _ = row := h
    subst h
    repeat' (first | exact trivial | exact rfl | refine And.intro ?_ ?_)
  · replace h := h.f hb15
    have c16 := h.1
    refine ⟨c16, ?_⟩
    replace h := h.2
    obtain ⟨I, μ, h0, hI⟩ := h
    refine LoopW.inv (fun R R' s h k => RCode.wp_mono _ R R' s h k) (fun p : List (List C) × List (Int × C) × Int => (fun (l3 : List (List C)) (m4 : List (Int × C)) (i5 : Int) => (⟨[.c (.int .u16 x1), .u, .u, .u, .u, .ptr 0 0, .c (.int .i64 (E.add .i64 508 (E.wrap .i64 (E.rem .u8 x2 9)))), .c (.int .i64 i5), .u, .u, .u, .u, .u, .u, .u, .u, .u, .u, .u, .u, .u, .u, .u, .u, .u, .u, .u, .u, .u, .u, .u, .u, .u, .u, .u, .u, .u, .u, .u, .u, .u, .u, .u, .u, .u, .u, .u, .u, .u, .u, .u, .u, .u, .u, .u, .u, .u, .u, .u, .u, .u, .u, .u, .u], [.box 54 [.gr 1, .map 2], .arr 24 [.int .i64, .int .i64, .sl [.int .i64, .int .i64]] l3, .mp .i64 (.int .i64) m4]⟩ : St)) p.1 p.2.1 p.2.2) (fun p => I p.1 p.2.1 p.2.2) (fun p => μ p.1 p.2.1 p.2.2) (_, _, _) h0 ?_ ?_
    · refine GSt.ren [0, 1, 2] rfl rfl rfl (fun i hi => absurd hi (Nat.not_lt_zero i)) (Nat.zero_le _) ?_ ?_
      all_goals (repeat' (first | exact trivial | exact Or.inl rfl | exact Or.inr rfl | refine And.intro ?_ ?_))
    · rintro ⟨l3, m4, i5⟩ h
      replace h := hI l3 m4 i5 h
      cbv
      refine ⟨fun hb17 => ?_, fun hb17 => ?_⟩
      · replace h := h.t hb17
        have c18 := h.1
        refine ⟨c18, ?_⟩
        replace h := h.2 _ rfl
        refine HCall.mk ce18.1 ((ACalls.frame (ce18.2.1 _ _ _ _ _ _ _ h) (H := _) (tgt := [0, 1, 2]) rfl (by decide) ?_).mono fun r H' hq => ?_)
        · intro i o ho
          match i, ho with
          | 0, ho => cases ho; rfl
          | 1, ho => cases ho; rfl
          | 2, ho => cases ho; rfl
        obtain ⟨r1, H1', hd, _, hr1, hr2⟩ := hq
        rcases hd with ⟨m8, i9, h, rfl, rfl⟩ | ⟨l10, m11, h, rfl, rfl⟩
        · subst hr1 hr2
          cbv
          refine ⟨⟨fun hh => hh⟩, ?_⟩
          refine ⟨⟨fun hh => hh⟩, ?_⟩
          refine ⟨⟨fun hh => hh⟩, ?_⟩
          refine ⟨⟨fun hh => hh⟩, ?_⟩
          refine ⟨⟨fun hh => hh⟩, ?_⟩
          refine ⟨⟨fun hh => hh⟩, ?_⟩
          have c19 := h.1
          refine ⟨c19, ?_⟩
          replace h := h.2
          refine ⟨⟨fun hh => hh⟩, ?_⟩
          refine ⟨fun hb20 => ?_, fun hb20 => ?_⟩
          · replace h := h.t hb20
            have h : _ = row := h
            subst h
            repeat' (first | exact trivial | exact rfl | refine And.intro ?_ ?_)
          · replace h := h.f hb20
            refine ⟨(_, _, _), h.1, GSt.ren [0, 1, 2] rfl rfl rfl (fun i hi => absurd hi (Nat.not_lt_zero i)) (Nat.zero_le _) ?_ ?_, h.2⟩
            all_goals (repeat' (first | exact trivial | exact Or.inl rfl | exact Or.inr rfl | refine And.intro ?_ ?_))
        · subst hr1 hr2
          cbv
          refine ⟨⟨fun hh => hh⟩, ?_⟩
          refine ⟨⟨fun hh => hh⟩, ?_⟩
          refine ⟨⟨fun hh => hh⟩, ?_⟩
          refine ⟨⟨fun hh => hh⟩, ?_⟩
          refine ⟨⟨fun hh => hh⟩, ?_⟩
          refine ⟨⟨fun hh => hh⟩, ?_⟩
          have c21 := h.1
          refine ⟨c21, ?_⟩
          replace h := h.2
          refine ⟨⟨fun hh => hh⟩, ?_⟩
          refine ⟨fun hb22 => ?_, fun hb22 => ?_⟩
          · replace h := h.t hb22
            have h : _ = row := h
            subst h
            repeat' (first | exact trivial | exact rfl | refine And.intro ?_ ?_)
          · replace h := h.f hb22
            refine ⟨(_, _, _), h.1, GSt.ren [0, 3, 2] rfl rfl rfl (fun i hi => absurd hi (Nat.not_lt_zero i)) (Nat.zero_le _) ?_ ?_, h.2⟩
            all_goals (repeat' (first | exact trivial | exact Or.inl rfl | exact Or.inr rfl | refine And.intro ?_ ?_))
      · replace h := h.f hb17
        refine HCall.mk ce21.1 ((ACalls.frame (ce21.2.1 _ _ _ h) (H := _) (tgt := [0, 1, 2]) rfl (by decide) ?_).mono fun r H' hq => ?_)
        · intro i o ho
          match i, ho with
          | 0, ho => cases ho; rfl
          | 1, ho => cases ho; rfl
          | 2, ho => cases ho; rfl
        obtain ⟨r1, H1', ⟨l12, h, rfl, rfl⟩, _, rfl, rfl⟩ := hq
        cbv
        refine ⟨⟨fun hh => hh⟩, ?_⟩
        have hb23 := h.1
        refine ⟨fun _ => ?_, fun hb => absurd (hb.symm.trans hb23) Bool.false_ne_true⟩
        replace h := h.2
        refine HCall.mk ce26.1 ((ACalls.frame (ce26.2.1 _ _ _ _ h) (H := _) (tgt := [0, 1, 2]) rfl (by decide) ?_).mono fun r H' hq => ?_)
        · intro i o ho
          match i, ho with
          | 0, ho => cases ho; rfl
          | 1, ho => cases ho; rfl
          | 2, ho => cases ho; rfl
        obtain ⟨r1, H1', ⟨i13, h, rfl, rfl⟩, _, rfl, rfl⟩ := hq
        cbv
        refine ⟨⟨fun _ => hb23⟩, ?_⟩
        refine ⟨⟨fun _ => hb23⟩, ?_⟩
        refine ⟨⟨fun _ => hb23⟩, ?_⟩
        refine ⟨⟨fun _ => hb23⟩, ?_⟩
        refine ⟨⟨fun _ => hb23⟩, ?_⟩
        refine ⟨⟨fun _ => hb23⟩, ?_⟩
        refine ⟨⟨fun _ => hb23⟩, ?_⟩
        have c24 := h.1
        refine ⟨c24, ?_⟩
        replace h := h.2 _ rfl
        refine ⟨⟨fun hh => hh⟩, ?_⟩
        have h : _ = row := h
        subst h
        repeat' (first | exact trivial | exact rfl | refine And.intro ?_ ?_)
end Go.Proofs.Ytlmllogbaacoeaa.V
