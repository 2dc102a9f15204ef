/- Ledgers: the walk of what is said of: a ledger with the postings up to a moment. No conditions. -/
import Derived.Test.YtlmllogbaacoeaaSame
set_option linter.unusedVariables false
set_option linter.unusedSimpArgs false
namespace Go.Proofs.Ytlmllogbaacoeaa.V
open Go Go.Eng
set_option maxRecDepth 1000000
set_option maxHeartbeats 4000000
/-- papermill papermilllaw58.LedgerBefore -/
def rf7 : RFn := ⟨(.seq (.ops 0 [⟨(some 6), (.v (.mv (.k (.c (.bool false))))), none, []⟩]) (.seq (.ops 0 [⟨(some 10), (.h (.call 15 [])), none, []⟩, ⟨(some 11), (.h (.call 15 [])), none, []⟩, ⟨(some 7), (.v (.mv (.t 10))), none, []⟩, ⟨(some 8), (.v (.mv (.t 11))), none, []⟩]) (.seq (.seq (.ops 0 [⟨(some 12), (.v (.mv (.t 0))), none, []⟩, ⟨(some 13), (.v (.lenS (.t 12))), none, []⟩, ⟨(some 14), (.v (.bin .gtr (.t 13) (.k (.c (.int .i64 80))))), none, []⟩, ⟨(some 15), (.v (.mv (.t 14))), none, []⟩, ⟨(some 16), (.v (.mv (.t 0))), (some ⟨15, false⟩), [(.t 0)]⟩, ⟨(some 17), (.v (.det 17 [⟨false, [.bool]⟩] [(.t 16)])), (some ⟨15, false⟩), [(.k (.fn 17 [])), (.t 16)]⟩, ⟨(some 18), (.v (.pick (.t 15) (.k (.c (.bool true))) (.t 17))), none, []⟩, ⟨(some 19), (.v (.mv (.t 18))), none, []⟩, ⟨(some 20), (.v (.mv (.t 7))), (some ⟨19, false⟩), [(.t 7)]⟩, ⟨(some 21), (.v (.eqn 1 false (.t 20))), (some ⟨19, false⟩), [(.t 20), (.k .np)]⟩, ⟨(some 22), (.v (.pick (.t 19) (.k (.c (.bool true))) (.t 21))), none, []⟩, ⟨(some 23), (.v (.mv (.t 22))), none, []⟩, ⟨(some 24), (.v (.mv (.t 8))), (some ⟨23, false⟩), [(.t 8)]⟩, ⟨(some 25), (.v (.eqn 1 false (.t 24))), (some ⟨23, false⟩), [(.t 24), (.k .np)]⟩, ⟨(some 26), (.v (.pick (.t 23) (.k (.c (.bool true))) (.t 25))), none, []⟩]) (.cond (.t 26) (.seq (.ops 0 [⟨(some 27), (.v (.det 12 [⟨false, [.bool]⟩] [])), none, []⟩, ⟨(some 6), (.v (.mv (.t 27))), none, []⟩]) .ret) .skip)) (.seq (.seq (.ops 0 [⟨(some 9), (.v (.mv (.k (.c (.int .i64 0))))), none, []⟩]) (.block 0 (.loop (.seq (.seq (.ops 0 [⟨(some 28), (.v (.mv (.t 9))), none, []⟩, ⟨(some 29), (.v (.mv (.t 0))), none, []⟩, ⟨(some 30), (.v (.lenS (.t 29))), none, []⟩, ⟨(some 31), (.v (.bin .lss (.t 28) (.t 30))), none, []⟩]) (.cond (.t 31) .skip (.exit 0))) (.seq (.block 1 (.seq (.ops 0 [⟨(some 34), (.v (.mv (.t 7))), none, []⟩, ⟨(some 35), (.v (.mv (.t 0))), none, []⟩, ⟨(some 36), (.v (.mv (.t 9))), none, []⟩, ⟨(some 37), (.v (.ia 3 (.t 35) (.t 36))), none, []⟩, ⟨(some 38), (.v (.lda 3 (.t 37))), none, []⟩, ⟨(some 39), (.h (.call 18 [(.t 34), (.t 38)])), none, []⟩, ⟨(some 40), (.v (.bin .eql (.t 39) (.k (.c (.int .i64 0))))), none, []⟩, ⟨(some 41), (.v (.mv (.t 40))), none, []⟩, ⟨(some 42), (.v (.mv (.t 0))), (some ⟨41, true⟩), [(.t 0)]⟩, ⟨(some 43), (.v (.mv (.t 9))), (some ⟨41, true⟩), [(.t 9)]⟩, ⟨(some 44), (.v (.ia 3 (.t 42) (.t 43))), (some ⟨41, true⟩), [(.t 42), (.t 43)]⟩, ⟨(some 45), (.v (.fa 1 (.t 44))), (some ⟨41, true⟩), [(.t 44)]⟩, ⟨(some 46), (.v (.ld (.t 45))), (some ⟨41, true⟩), [(.t 45)]⟩, ⟨(some 47), (.v (.mv (.t 2))), (some ⟨41, true⟩), [(.t 2)]⟩, ⟨(some 48), (.v (.bin .leq (.t 46) (.t 47))), (some ⟨41, true⟩), [(.t 46), (.t 47)]⟩, ⟨(some 49), (.v (.pick (.t 41) (.t 48) (.k (.c (.bool false))))), none, []⟩, ⟨(some 50), (.v (.mv (.t 49))), none, []⟩, ⟨(some 51), (.v (.mv (.t 8))), (some ⟨50, true⟩), [(.t 8)]⟩, ⟨(some 52), (.v (.mv (.t 0))), (some ⟨50, true⟩), [(.t 0)]⟩, ⟨(some 53), (.v (.mv (.t 9))), (some ⟨50, true⟩), [(.t 9)]⟩, ⟨(some 54), (.v (.ia 3 (.t 52) (.t 53))), (some ⟨50, true⟩), [(.t 52), (.t 53)]⟩, ⟨(some 55), (.v (.lda 3 (.t 54))), (some ⟨50, true⟩), [(.t 54)]⟩, ⟨(some 56), (.h (.call 18 [(.t 51), (.t 55)])), (some ⟨50, true⟩), [(.k (.fn 18 [])), (.t 51), (.t 55)]⟩, ⟨(some 57), (.v (.bin .neq (.t 56) (.k (.c (.int .i64 0))))), (some ⟨50, true⟩), [(.t 56), (.k (.c (.int .i64 0)))]⟩, ⟨(some 58), (.v (.pick (.t 50) (.t 57) (.k (.c (.bool false))))), none, []⟩]) (.cond (.t 58) (.seq (.ops 0 [⟨(some 6), (.v (.mv (.k (.c (.bool false))))), none, []⟩]) .ret) .skip))) (.ops 0 [⟨(some 32), (.v (.mv (.t 9))), none, []⟩, ⟨(some 33), (.v (.bin .add (.t 32) (.k (.c (.int .i64 1))))), none, []⟩, ⟨(some 9), (.v (.mv (.t 33))), none, []⟩])))))) (.seq (.ops 0 [⟨(some 59), (.v (.mv (.t 7))), none, []⟩, ⟨(some 60), (.v (.mv (.t 1))), none, []⟩, ⟨(some 61), (.v (.mv (.t 2))), none, []⟩, ⟨(some 62), (.h (.call 28 [(.t 59), (.t 60), (.t 61)])), none, []⟩, ⟨(some 63), (.v (.mv (.t 8))), none, []⟩, ⟨(some 64), (.v (.mv (.t 1))), none, []⟩, ⟨(some 65), (.h (.call 26 [(.t 63), (.t 64)])), none, []⟩, ⟨(some 66), (.v (.bin .eql (.t 62) (.t 65))), none, []⟩, ⟨(some 67), (.v (.mv (.t 66))), none, []⟩, ⟨(some 68), (.v (.det 12 [⟨false, [.bool]⟩] [])), (some ⟨67, true⟩), [(.k (.fn 12 []))]⟩, ⟨(some 69), (.v (.pick (.t 67) (.t 68) (.k (.c (.bool false))))), none, []⟩, ⟨(some 6), (.v (.mv (.t 69))), none, []⟩]) .ret))))), 70, [(.t 6)]⟩
theorem h7 : fnR Try.prog DD 7 = some rf7 := by kernel_rfl
def vc7 (E : Env) (x1 : List (List C)) (x2 : Int) (x3 : Int) (Q : List C → Prop) : Prop :=
  spNew  (
  spNew  (
    (Imp (E.not (E.lt 80 (E.len x1))) (E.pok 17 [(false, [.bool])] [.c (.sl [.int .i64, .int .i64, .sl [.int .i64, .int .i64]] x1)])) ∧ (∀ r4 : Nat → C, r4 = E.res 17 [.c (.sl [.int .i64, .int .i64, .sl [.int .i64, .int .i64]] x1)] → 
      (Br (E.bite (E.bite (E.bite (E.lt 80 (E.len x1)) true (E.gb (r4 0))) true false) true false)
      ((E.pok 12 [(false, [.bool])] []) ∧ (∀ r5 : Nat → C, r5 = E.res 12 [] → 
        (Q [.bool (E.gb (r5 0))])))
      (LoopP5 (fun (l6 : List (List C)) (m7 : List (Int × C)) (l8 : List (List C)) (m9 : List (Int × C)) (i10 : Int) (K11 : (List (List C)) → (List (Int × C)) → (List (List C)) → (List (Int × C)) → (Int) → Prop) =>
        Br (E.lt i10 (E.len x1))
          (((E.le 0 i10) = true) ∧ 
            (spPost (l6) (m7) ((E.gi (E.cell x1 i10 0))) ((E.gi (E.cell x1 i10 1))) ((E.gl (E.cell x1 i10 2))) (fun (m12 : List (Int × C)) (i13 : Int) => 
            Br (E.bite (E.eq i13 0) (E.le (E.gi (E.cell x1 i10 1)) x3) false)
              (spPost (l8) (m9) ((E.gi (E.cell x1 i10 0))) ((E.gi (E.cell x1 i10 1))) ((E.gl (E.cell x1 i10 2))) (fun (m14 : List (Int × C)) (i15 : Int) => 
                Br (E.bite (E.bite (E.eq i13 0) (E.le (E.gi (E.cell x1 i10 1)) x3) false) (E.not (E.eq i15 0)) false)
                  (Q [.bool false])
                  (K11 (l6) (m12) (l8) (m14) ((E.add .i64 i10 1)))) (fun (l16 : List (List C)) (m17 : List (Int × C)) => 
                Br (E.bite (E.bite (E.eq i13 0) (E.le (E.gi (E.cell x1 i10 1)) x3) false) (E.not (E.eq 0 0)) false)
                  (Q [.bool false])
                  (K11 (l6) (m12) (l16) (m17) ((E.add .i64 i10 1)))))
              (Br false
                (Q [.bool false])
                (K11 (l6) (m12) (l8) (m9) ((E.add .i64 i10 1))))) (fun (l18 : List (List C)) (m19 : List (Int × C)) => 
            Br (E.bite (E.eq 0 0) (E.le (E.gi (E.cell x1 i10 1)) x3) false)
              (spPost (l8) (m9) ((E.gi (E.cell x1 i10 0))) ((E.gi (E.cell x1 i10 1))) ((E.gl (E.cell x1 i10 2))) (fun (m20 : List (Int × C)) (i21 : Int) => 
                Br (E.bite (E.bite (E.eq 0 0) (E.le (E.gi (E.cell x1 i10 1)) x3) false) (E.not (E.eq i21 0)) false)
                  (Q [.bool false])
                  (K11 (l18) (m19) (l8) (m20) ((E.add .i64 i10 1)))) (fun (l22 : List (List C)) (m23 : List (Int × C)) => 
                Br (E.bite (E.bite (E.eq 0 0) (E.le (E.gi (E.cell x1 i10 1)) x3) false) (E.not (E.eq 0 0)) false)
                  (Q [.bool false])
                  (K11 (l18) (m19) (l22) (m23) ((E.add .i64 i10 1)))))
              (Br false
                (Q [.bool false])
                (K11 (l18) (m19) (l8) (m9) ((E.add .i64 i10 1)))))))
          (spAt (l6) (m7) (x2) (x3) (fun (i24 : Int) => 
            spBal (l8) (m9) (x2) (fun (i25 : Int) => 
              (Imp (E.eq i24 i25) (E.pok 12 [(false, [.bool])] [])) ∧ (∀ r26 : Nat → C, r26 = E.res 12 [] → 
                (Q [.bool (E.bite (E.eq i24 i25) (E.gb (r26 0)) false)]))))))
        ([]) ([]) ([]) ([]) (0))))))
theorem w7 {P : Program} {tbl : FuncId → List A → List C} (ce15 : NewC P 15) (ce18 : PostC P 18) (ce26 : BalC P 26) (ce28 : AtC P 28) {x1 : List (List C)} {x2 : Int} {x3 : Int} {row : List C} (h : vc7 (stdE P tbl) x1 x2 x3 fun c => c = row) : WPg P tbl rf7 [(false, [.bool])] row [.c (.sl [.int .i64, .int .i64, .sl [.int .i64, .int .i64]] x1), .c (.int .i64 x2), .c (.int .i64 x3)] := by
  refine ⟨?_⟩
  revert h
  generalize hE : stdE P tbl = E
  intro h
  unfold vc7 at h
  cbv
  refine HCall.mk ce15.1 ((ACalls.frame (ce15.2  _ h) (H := _) (tgt := []) rfl (by decide) ?_).mono fun r H' hq => ?_)
  · intro i o ho
    cases ho
  obtain ⟨r1, H1', ⟨h, rfl, rfl⟩, _, rfl, rfl⟩ := hq
  cbv
  refine HCall.mk ce15.1 ((ACalls.frame (ce15.2  _ h) (H := _) (tgt := []) rfl (by decide) ?_).mono fun r H' hq => ?_)
  · intro i o ho
    cases ho
  obtain ⟨r1, H1', ⟨h, rfl, rfl⟩, _, rfl, rfl⟩ := hq
  cbv
  refine ⟨⟨fun hh => hh⟩, ?_⟩
  have c27 := h.1
  refine ⟨c27, ?_⟩
  replace h := h.2 _ rfl
  refine ⟨⟨fun hh => hh⟩, ?_⟩
  refine ⟨⟨fun hh => hh⟩, ?_⟩
  refine ⟨⟨fun hh => hh⟩, ?_⟩
  refine ⟨⟨fun hh => hh⟩, ?_⟩
  refine ⟨⟨fun hh => hh⟩, ?_⟩
  refine ⟨fun hb28 => ?_, fun hb28 => ?_⟩
  · replace h := h.t hb28
    have c29 := h.1
    refine ⟨c29, ?_⟩
    replace h := h.2 _ rfl
    have h : _ = row := h
    subst h
    repeat' (first | exact trivial | exact rfl | refine And.intro ?_ ?_)
  · replace h := h.f hb28
    obtain ⟨I, μ, h0, hI⟩ := h
    refine LoopW.inv (fun R R' s h k => RCode.wp_mono _ R R' s h k) (fun p : List (List C) × List (Int × C) × List (List C) × List (Int × C) × Int => (fun (l6 : List (List C)) (m7 : List (Int × C)) (l8 : List (List C)) (m9 : List (Int × C)) (i10 : Int) => (⟨[.c (.sl [.int .i64, .int .i64, .sl [.int .i64, .int .i64]] x1), .c (.int .i64 x2), .c (.int .i64 x3), .u, .u, .u, .u, .ptr 0 0, .ptr 3 0, .c (.int .i64 i10), .u, .u, .u, .u, .u, .u, .u, .u, .u, .u, .u, .u, .u, .u, .u, .u, .u, .u, .u, .u, .u, .u, .u, .u, .u, .u, .u, .u, .u, .u, .u, .u, .u, .u, .u, .u, .u, .u, .u, .u, .u, .u, .u, .u, .u, .u, .u, .u, .u, .u, .u, .u, .u, .u, .u, .u, .u, .u, .u, .u], [.box 54 [.gr 1, .map 2], .arr 24 [.int .i64, .int .i64, .sl [.int .i64, .int .i64]] l6, .mp .i64 (.int .i64) m7, .box 54 [.gr 4, .map 5], .arr 24 [.int .i64, .int .i64, .sl [.int .i64, .int .i64]] l8, .mp .i64 (.int .i64) m9]⟩ : St)) p.1 p.2.1 p.2.2.1 p.2.2.2.1 p.2.2.2.2) (fun p => I p.1 p.2.1 p.2.2.1 p.2.2.2.1 p.2.2.2.2) (fun p => μ p.1 p.2.1 p.2.2.1 p.2.2.2.1 p.2.2.2.2) (_, _, _, _, _) h0 ?_ ?_
    · refine GSt.ren [0, 1, 2, 3, 4, 5] rfl rfl rfl (fun i hi => absurd hi (Nat.not_lt_zero i)) (Nat.zero_le _) ?_ ?_
      all_goals (repeat' (first | exact trivial | exact Or.inl rfl | exact Or.inr rfl | refine And.intro ?_ ?_))
    · rintro ⟨l6, m7, l8, m9, i10⟩ h
      replace h := hI l6 m7 l8 m9 i10 h
      cbv
      refine ⟨fun hb30 => ?_, fun hb30 => ?_⟩
      · replace h := h.t hb30
        have c31 := h.1
        refine ⟨c31, ?_⟩
        replace h := h.2
        refine ⟨hb30, ?_⟩
        refine HCall.mk ce18.1 ((ACalls.frame (ce18.2.1 _ _ _ _ _ _ _ h) (H := _) (tgt := [0, 1, 2]) rfl (by decide) ?_).mono fun r H' hq => ?_)
        · intro i o ho
          match i, ho with
          | 0, ho => cases ho; rfl
          | 1, ho => cases ho; rfl
          | 2, ho => cases ho; rfl
        obtain ⟨r1, H1', hd, _, hr1, hr2⟩ := hq
        rcases hd with ⟨m12, i13, h, rfl, rfl⟩ | ⟨l18, m19, h, rfl, rfl⟩
        · subst hr1 hr2
          cbv
          refine ⟨⟨fun hh => hh⟩, ?_⟩
          refine ⟨⟨fun hh => hh⟩, ?_⟩
          refine ⟨⟨fun _ => c31⟩, ?_⟩
          refine ⟨⟨fun _ => hb30⟩, ?_⟩
          refine ⟨⟨fun hh => hh⟩, ?_⟩
          refine ⟨⟨fun hh => hh⟩, ?_⟩
          refine ⟨⟨fun hh => hh⟩, ?_⟩
          refine ⟨⟨fun hh => hh⟩, ?_⟩
          refine ⟨⟨fun hh => hh⟩, ?_⟩
          refine ⟨⟨fun hh => hh⟩, ?_⟩
          refine ⟨⟨fun hh => hh⟩, ?_⟩
          refine ⟨⟨fun _ => c31⟩, ?_⟩
          refine ⟨⟨fun _ => hb30⟩, ?_⟩
          refine ⟨⟨fun hh => hh⟩, ?_⟩
          refine ⟨⟨fun hh => hh⟩, ?_⟩
          refine ⟨⟨fun hh => hh⟩, ?_⟩
          refine ⟨fun hb32 => ?_, fun hb32 => ?_⟩
          · replace h := h.t hb32
            refine HCall.mk ce18.1 ((ACalls.frame (ce18.2.1 _ _ _ _ _ _ _ h) (H := _) (tgt := [3, 4, 5]) rfl (by decide) ?_).mono fun r H' hq => ?_)
            · intro i o ho
              match i, ho with
              | 0, ho => cases ho; rfl
              | 1, ho => cases ho; rfl
              | 2, ho => cases ho; rfl
            obtain ⟨r1, H1', hd, _, hr1, hr2⟩ := hq
            rcases hd with ⟨m14, i15, h, rfl, rfl⟩ | ⟨l16, m17, h, rfl, rfl⟩
            · subst hr1 hr2
              cbv
              refine ⟨⟨fun _ => hb32⟩, ?_⟩
              refine ⟨fun hb33 => ?_, fun hb33 => ?_⟩
              · replace h := h.t hb33
                have h : _ = row := h
                subst h
                repeat' (first | exact trivial | exact rfl | refine And.intro ?_ ?_)
              · replace h := h.f hb33
                refine ⟨(_, _, _, _, _), h.1, GSt.ren [0, 1, 2, 3, 4, 5] rfl rfl rfl (fun i hi => absurd hi (Nat.not_lt_zero i)) (Nat.zero_le _) ?_ ?_, h.2⟩
                all_goals (repeat' (first | exact trivial | exact Or.inl rfl | exact Or.inr rfl | refine And.intro ?_ ?_))
            · subst hr1 hr2
              cbv
              refine ⟨⟨fun _ => hb32⟩, ?_⟩
              refine ⟨fun hb34 => ?_, fun hb34 => ?_⟩
              · replace h := h.t hb34
                have h : _ = row := h
                subst h
                repeat' (first | exact trivial | exact rfl | refine And.intro ?_ ?_)
              · replace h := h.f hb34
                refine ⟨(_, _, _, _, _), h.1, GSt.ren [0, 1, 2, 3, 6, 5] rfl rfl rfl (fun i hi => absurd hi (Nat.not_lt_zero i)) (Nat.zero_le _) ?_ ?_, h.2⟩
                all_goals (repeat' (first | exact trivial | exact Or.inl rfl | exact Or.inr rfl | refine And.intro ?_ ?_))
          · replace h := h.f hb32
            refine ⟨⟨fun hh => Bool.noConfusion (hh.symm.trans hb32)⟩, ?_⟩
            refine ⟨⟨fun hh => Bool.noConfusion (hh.symm.trans hb32)⟩, ?_⟩
            refine ⟨hb32, ?_⟩
            refine ⟨fun hb35 => ?_, fun hb35 => ?_⟩
            · replace h := h.t hb35
              have h : _ = row := h
              subst h
              repeat' (first | exact trivial | exact rfl | refine And.intro ?_ ?_)
            · replace h := h.f hb35
              refine ⟨(_, _, _, _, _), h.1, GSt.ren [0, 1, 2, 3, 4, 5] rfl rfl rfl (fun i hi => absurd hi (Nat.not_lt_zero i)) (Nat.zero_le _) ?_ ?_, h.2⟩
              all_goals (repeat' (first | exact trivial | exact Or.inl rfl | exact Or.inr rfl | refine And.intro ?_ ?_))
        · subst hr1 hr2
          cbv
          refine ⟨⟨fun hh => hh⟩, ?_⟩
          refine ⟨⟨fun hh => hh⟩, ?_⟩
          refine ⟨⟨fun _ => c31⟩, ?_⟩
          refine ⟨⟨fun _ => hb30⟩, ?_⟩
          refine ⟨⟨fun hh => hh⟩, ?_⟩
          refine ⟨⟨fun hh => hh⟩, ?_⟩
          refine ⟨⟨fun hh => hh⟩, ?_⟩
          refine ⟨⟨fun hh => hh⟩, ?_⟩
          refine ⟨⟨fun hh => hh⟩, ?_⟩
          refine ⟨⟨fun hh => hh⟩, ?_⟩
          refine ⟨⟨fun hh => hh⟩, ?_⟩
          refine ⟨⟨fun _ => c31⟩, ?_⟩
          refine ⟨⟨fun _ => hb30⟩, ?_⟩
          refine ⟨⟨fun hh => hh⟩, ?_⟩
          refine ⟨⟨fun hh => hh⟩, ?_⟩
          refine ⟨⟨fun hh => hh⟩, ?_⟩
          refine ⟨fun hb36 => ?_, fun hb36 => ?_⟩
          · replace h := h.t hb36
            refine HCall.mk ce18.1 ((ACalls.frame (ce18.2.1 _ _ _ _ _ _ _ h) (H := _) (tgt := [3, 4, 5]) rfl (by decide) ?_).mono fun r H' hq => ?_)
            · intro i o ho
              match i, ho with
              | 0, ho => cases ho; rfl
              | 1, ho => cases ho; rfl
              | 2, ho => cases ho; rfl
            obtain ⟨r1, H1', hd, _, hr1, hr2⟩ := hq
            rcases hd with ⟨m20, i21, h, rfl, rfl⟩ | ⟨l22, m23, h, rfl, rfl⟩
            · subst hr1 hr2
              cbv
              refine ⟨⟨fun _ => hb36⟩, ?_⟩
              refine ⟨fun hb37 => ?_, fun hb37 => ?_⟩
              · replace h := h.t hb37
                have h : _ = row := h
                subst h
                repeat' (first | exact trivial | exact rfl | refine And.intro ?_ ?_)
              · replace h := h.f hb37
                refine ⟨(_, _, _, _, _), h.1, GSt.ren [0, 6, 2, 3, 4, 5] rfl rfl rfl (fun i hi => absurd hi (Nat.not_lt_zero i)) (Nat.zero_le _) ?_ ?_, h.2⟩
                all_goals (repeat' (first | exact trivial | exact Or.inl rfl | exact Or.inr rfl | refine And.intro ?_ ?_))
            · subst hr1 hr2
              cbv
              refine ⟨⟨fun _ => hb36⟩, ?_⟩
              refine ⟨fun hb38 => ?_, fun hb38 => ?_⟩
              · replace h := h.t hb38
                have h : _ = row := h
                subst h
                repeat' (first | exact trivial | exact rfl | refine And.intro ?_ ?_)
              · replace h := h.f hb38
                refine ⟨(_, _, _, _, _), h.1, GSt.ren [0, 6, 2, 3, 7, 5] rfl rfl rfl (fun i hi => absurd hi (Nat.not_lt_zero i)) (Nat.zero_le _) ?_ ?_, h.2⟩
                all_goals (repeat' (first | exact trivial | exact Or.inl rfl | exact Or.inr rfl | refine And.intro ?_ ?_))
          · replace h := h.f hb36
            refine ⟨⟨fun hh => Bool.noConfusion (hh.symm.trans hb36)⟩, ?_⟩
            refine ⟨⟨fun hh => Bool.noConfusion (hh.symm.trans hb36)⟩, ?_⟩
            refine ⟨hb36, ?_⟩
            refine ⟨fun hb39 => ?_, fun hb39 => ?_⟩
            · replace h := h.t hb39
              have h : _ = row := h
              subst h
              repeat' (first | exact trivial | exact rfl | refine And.intro ?_ ?_)
            · replace h := h.f hb39
              refine ⟨(_, _, _, _, _), h.1, GSt.ren [0, 6, 2, 3, 4, 5] rfl rfl rfl (fun i hi => absurd hi (Nat.not_lt_zero i)) (Nat.zero_le _) ?_ ?_, h.2⟩
              all_goals (repeat' (first | exact trivial | exact Or.inl rfl | exact Or.inr rfl | refine And.intro ?_ ?_))
      · replace h := h.f hb30
        refine HCall.mk ce28.1 ((ACalls.frame (ce28.2.1 _ _ _ _ _ h) (H := _) (tgt := [0, 1, 2]) rfl (by decide) ?_).mono fun r H' hq => ?_)
        · intro i o ho
          match i, ho with
          | 0, ho => cases ho; rfl
          | 1, ho => cases ho; rfl
          | 2, ho => cases ho; rfl
        obtain ⟨r1, H1', ⟨i24, h, rfl, rfl⟩, _, rfl, rfl⟩ := hq
        cbv
        refine HCall.mk ce26.1 ((ACalls.frame (ce26.2.1 _ _ _ _ h) (H := _) (tgt := [3, 4, 5]) rfl (by decide) ?_).mono fun r H' hq => ?_)
        · intro i o ho
          match i, ho with
          | 0, ho => cases ho; rfl
          | 1, ho => cases ho; rfl
          | 2, ho => cases ho; rfl
        obtain ⟨r1, H1', ⟨i25, h, rfl, rfl⟩, _, rfl, rfl⟩ := hq
        cbv
        have c40 := h.1
        refine ⟨c40, ?_⟩
        replace h := h.2 _ rfl
        refine ⟨⟨fun hh => hh⟩, ?_⟩
        have h : _ = row := h
        subst h
        repeat' (first | exact trivial | exact rfl | refine And.intro ?_ ?_)
end Go.Proofs.Ytlmllogbaacoeaa.V
