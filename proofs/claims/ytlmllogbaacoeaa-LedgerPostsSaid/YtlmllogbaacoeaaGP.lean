/- Ledgers: the walk of what is said of: what is posted. No conditions. -/
import Derived.Test.YtlmllogbaacoeaaSame
set_option linter.unusedVariables false
set_option linter.unusedSimpArgs false
namespace Go.Proofs.Ytlmllogbaacoeaa.V
open Go Go.Eng
set_option maxRecDepth 1000000
set_option maxHeartbeats 4000000
/-- papermill papermilllaw58.LedgerPosts -/
def rf4 : RFn := ⟨(.seq (.ops 0 [⟨(some 2), (.v (.mv (.k (.c (.bool false))))), none, []⟩]) (.seq (.ops 0 [⟨(some 6), (.h (.call 15 [])), none, []⟩, ⟨(some 7), (.h (.call 16 [])), none, []⟩, ⟨(some 3), (.v (.mv (.t 6))), none, []⟩, ⟨(some 4), (.v (.mv (.t 7))), none, []⟩]) (.seq (.seq (.ops 0 [⟨(some 8), (.v (.mv (.t 0))), none, []⟩, ⟨(some 9), (.v (.lenS (.t 8))), none, []⟩, ⟨(some 10), (.v (.bin .gtr (.t 9) (.k (.c (.int .i64 80))))), none, []⟩, ⟨(some 11), (.v (.mv (.t 10))), none, []⟩, ⟨(some 12), (.v (.mv (.t 0))), (some ⟨11, false⟩), [(.t 0)]⟩, ⟨(some 13), (.v (.det 17 [⟨false, [.bool]⟩] [(.t 12)])), (some ⟨11, false⟩), [(.k (.fn 17 [])), (.t 12)]⟩, ⟨(some 14), (.v (.pick (.t 11) (.k (.c (.bool true))) (.t 13))), none, []⟩, ⟨(some 15), (.v (.mv (.t 14))), none, []⟩, ⟨(some 16), (.v (.mv (.t 3))), (some ⟨15, false⟩), [(.t 3)]⟩, ⟨(some 17), (.v (.eqn 1 false (.t 16))), (some ⟨15, false⟩), [(.t 16), (.k .np)]⟩, ⟨(some 18), (.v (.pick (.t 15) (.k (.c (.bool true))) (.t 17))), none, []⟩]) (.cond (.t 18) (.seq (.ops 0 [⟨(some 19), (.v (.det 12 [⟨false, [.bool]⟩] [])), none, []⟩, ⟨(some 2), (.v (.mv (.t 19))), none, []⟩]) .ret) .skip)) (.seq (.seq (.ops 0 [⟨(some 5), (.v (.mv (.k (.c (.int .i64 0))))), none, []⟩]) (.block 0 (.loop (.seq (.seq (.ops 0 [⟨(some 20), (.v (.mv (.t 5))), none, []⟩, ⟨(some 21), (.v (.mv (.t 0))), none, []⟩, ⟨(some 22), (.v (.lenS (.t 21))), none, []⟩, ⟨(some 23), (.v (.bin .lss (.t 20) (.t 22))), none, []⟩]) (.cond (.t 23) .skip (.exit 0))) (.seq (.block 1 (.seq (.any 0 [⟨0, ⟨[], ⟨(some 26), (.v (.mv (.t 3))), none, []⟩⟩⟩, ⟨1, ⟨[], ⟨(some 27), (.v (.mv (.t 0))), none, []⟩⟩⟩, ⟨2, ⟨[], ⟨(some 28), (.v (.mv (.t 5))), none, []⟩⟩⟩, ⟨3, ⟨[1, 2], ⟨(some 29), (.v (.ia 3 (.t 27) (.t 28))), none, []⟩⟩⟩, ⟨4, ⟨[3, 1, 2], ⟨(some 30), (.v (.lda 3 (.t 29))), none, []⟩⟩⟩, ⟨6, ⟨[], ⟨(some 32), (.v (.mv (.t 4))), none, []⟩⟩⟩, ⟨7, ⟨[], ⟨(some 33), (.v (.mv (.t 0))), none, []⟩⟩⟩, ⟨8, ⟨[], ⟨(some 34), (.v (.mv (.t 5))), none, []⟩⟩⟩, ⟨9, ⟨[7, 8], ⟨(some 35), (.v (.ia 3 (.t 33) (.t 34))), none, []⟩⟩⟩, ⟨10, ⟨[9, 7, 8], ⟨(some 36), (.v (.lda 3 (.t 35))), none, []⟩⟩⟩, ⟨5, ⟨[0, 4, 3, 1, 2], ⟨(some 31), (.h (.call 18 [(.t 26), (.t 30)])), none, []⟩⟩⟩, ⟨11, ⟨[6, 10, 9, 7, 8, 5, 0, 4, 3, 1, 2], ⟨(some 37), (.h (.call 19 [(.t 32), (.t 36)])), none, []⟩⟩⟩, ⟨12, ⟨[11, 6, 10, 9, 7, 8, 5, 0, 4, 3, 1, 2], ⟨(some 38), (.v (.bin .neq (.t 31) (.t 37))), none, []⟩⟩⟩]) (.cond (.t 38) (.seq (.ops 0 [⟨(some 2), (.v (.mv (.k (.c (.bool false))))), none, []⟩]) .ret) .skip))) (.ops 0 [⟨(some 24), (.v (.mv (.t 5))), none, []⟩, ⟨(some 25), (.v (.bin .add (.t 24) (.k (.c (.int .i64 1))))), none, []⟩, ⟨(some 5), (.v (.mv (.t 25))), none, []⟩])))))) (.seq (.ops 0 [⟨(some 39), (.v (.mv (.t 3))), none, []⟩, ⟨(some 40), (.h (.call 21 [(.t 39)])), none, []⟩, ⟨(some 41), (.v (.mv (.t 4))), none, []⟩, ⟨(some 42), (.h (.call 22 [(.t 41)])), none, []⟩, ⟨(some 43), (.v (.det 20 [⟨false, [.bool]⟩] [(.t 40), (.t 42)])), none, []⟩, ⟨(some 44), (.v (.mv (.t 43))), none, []⟩, ⟨(some 45), (.v (.mv (.t 3))), (some ⟨44, true⟩), [(.t 3)]⟩, ⟨(some 46), (.h (.call 24 [(.t 45)])), (some ⟨44, true⟩), [(.k (.fn 24 [])), (.t 45)]⟩, ⟨(some 47), (.v (.mv (.t 4))), (some ⟨44, true⟩), [(.t 4)]⟩, ⟨(some 48), (.h (.call 25 [(.t 47)])), (some ⟨44, true⟩), [(.k (.fn 25 [])), (.t 47)]⟩, ⟨(some 49), (.v (.det 23 [⟨false, [.bool]⟩] [(.t 46), (.t 48)])), (some ⟨44, true⟩), [(.k (.fn 23 [])), (.t 46), (.t 48)]⟩, ⟨(some 50), (.v (.pick (.t 44) (.t 49) (.k (.c (.bool false))))), none, []⟩, ⟨(some 51), (.v (.mv (.t 50))), none, []⟩, ⟨(some 52), (.v (.det 12 [⟨false, [.bool]⟩] [])), (some ⟨51, true⟩), [(.k (.fn 12 []))]⟩, ⟨(some 53), (.v (.pick (.t 51) (.t 52) (.k (.c (.bool false))))), none, []⟩, ⟨(some 2), (.v (.mv (.t 53))), none, []⟩]) .ret))))), 54, [(.t 2)]⟩
theorem h4 : fnR Try.prog DD 4 = some rf4 := by kernel_rfl
def vc4 (E : Env) (x1 : List (List C)) (Q : List C → Prop) : Prop :=
  spNew  (
  spRNew  (
    (Imp (E.not (E.lt 80 (E.len x1))) (E.pok 17 [(false, [.bool])] [.c (.sl [.int .i64, .int .i64, .sl [.int .i64, .int .i64]] x1)])) ∧ (∀ r2 : Nat → C, r2 = E.res 17 [.c (.sl [.int .i64, .int .i64, .sl [.int .i64, .int .i64]] x1)] → 
      (Br (E.bite (E.bite (E.lt 80 (E.len x1)) true (E.gb (r2 0))) true false)
      ((E.pok 12 [(false, [.bool])] []) ∧ (∀ r3 : Nat → C, r3 = E.res 12 [] → 
        (Q [.bool (E.gb (r3 0))])))
      (LoopP4 (fun (l4 : List (List C)) (m5 : List (Int × C)) (l6 : List (List C)) (i7 : Int) (K8 : (List (List C)) → (List (Int × C)) → (List (List C)) → (Int) → Prop) =>
        Br (E.lt i7 (E.len x1))
          (((E.le 0 i7) = true) ∧ 
            (spPost (l4) (m5) ((E.gi (E.cell x1 i7 0))) ((E.gi (E.cell x1 i7 1))) ((E.gl (E.cell x1 i7 2))) (fun (m9 : List (Int × C)) (i10 : Int) => 
            spRPost (l6) ((E.gi (E.cell x1 i7 0))) ((E.gi (E.cell x1 i7 1))) ((E.gl (E.cell x1 i7 2))) (fun (l11 : List (List C)) (i12 : Int) => 
              Br (E.not (E.eq i10 i12))
                (Q [.bool false])
                (K8 (l4) (m9) (l11) ((E.add .i64 i7 1))))) (fun (l13 : List (List C)) (m14 : List (Int × C)) => 
            spRPost (l6) ((E.gi (E.cell x1 i7 0))) ((E.gi (E.cell x1 i7 1))) ((E.gl (E.cell x1 i7 2))) (fun (l15 : List (List C)) (i16 : Int) => 
              Br (E.not (E.eq 0 i16))
                (Q [.bool false])
                (K8 (l13) (m14) (l15) ((E.add .i64 i7 1)))))))
          (spPgs (l4) (m5) (fun (l17 : List (List C)) => 
            spRPgs (l6) (fun (l18 : List (List C)) => 
              (E.pok 20 [(false, [.bool])] [.c (.sl [.int .i64, .int .i64, .sl [.int .i64, .int .i64]] l17), .c (.sl [.int .i64, .int .i64, .sl [.int .i64, .int .i64]] l18)]) ∧ (∀ r19 : Nat → C, r19 = E.res 20 [.c (.sl [.int .i64, .int .i64, .sl [.int .i64, .int .i64]] l17), .c (.sl [.int .i64, .int .i64, .sl [.int .i64, .int .i64]] l18)] → 
                (((E.gb (r19 0)) = true) ∧ 
                (spAcc (l4) (m5) (fun (l20 : List (List C)) (i21 : Int) => 
                ((E.gb (r19 0)) = true) ∧ 
                  (spRAcc (l6) (fun (l22 : List (List C)) => 
                  (Imp (E.gb (r19 0)) (E.pok 23 [(false, [.bool])] [.c (.sl [.int .i64] (E.cut l20 0 (E.pl 0 i21))), .c (.sl [.int .i64] l22)])) ∧ (∀ r23 : Nat → C, r23 = E.res 23 [.c (.sl [.int .i64] (E.cut l20 0 (E.pl 0 i21))), .c (.sl [.int .i64] l22)] → 
                    ((Imp (E.bite (E.gb (r19 0)) (E.gb (r23 0)) false) (E.pok 12 [(false, [.bool])] [])) ∧ (∀ r24 : Nat → C, r24 = E.res 12 [] → 
                    (Q [.bool (E.bite (E.bite (E.gb (r19 0)) (E.gb (r23 0)) false) (E.gb (r24 0)) false)]))))))))))))))
        ([]) ([]) ([]) (0))))))
theorem w4 {P : Program} {tbl : FuncId → List A → List C} (ce15 : NewC P 15) (ce16 : RNewC P 16) (ce18 : PostC P 18) (ce19 : RPostC P 19) (ce21 : PgsC P 21) (ce22 : RPgsC P 22) (ce24 : AccC P 24) (ce25 : RAccC P 25) {x1 : List (List C)} {row : List C} (h : vc4 (stdE P tbl) x1 fun c => c = row) : WPg P tbl rf4 [(false, [.bool])] row [.c (.sl [.int .i64, .int .i64, .sl [.int .i64, .int .i64]] x1)] := by
  refine ⟨?_⟩
  revert h
  generalize hE : stdE P tbl = E
  intro h
  unfold vc4 at h
  cbv
  refine HCall.mk ce15.1 ((ACalls.frame (ce15.2  _ h) (H := _) (tgt := []) rfl (by decide) ?_).mono fun r H' hq => ?_)
  · intro i o ho
    cases ho
  obtain ⟨r1, H1', ⟨h, rfl, rfl⟩, _, rfl, rfl⟩ := hq
  cbv
  refine HCall.mk ce16.1 ((ACalls.frame (ce16.2  _ h) (H := _) (tgt := []) rfl (by decide) ?_).mono fun r H' hq => ?_)
  · intro i o ho
    cases ho
  obtain ⟨r1, H1', ⟨h, rfl, rfl⟩, _, rfl, rfl⟩ := hq
  cbv
  refine ⟨⟨fun hh => hh⟩, ?_⟩
  have c25 := h.1
  refine ⟨c25, ?_⟩
  replace h := h.2 _ rfl
  refine ⟨⟨fun hh => hh⟩, ?_⟩
  refine ⟨⟨fun hh => hh⟩, ?_⟩
  refine ⟨⟨fun hh => hh⟩, ?_⟩
  refine ⟨fun hb26 => ?_, fun hb26 => ?_⟩
  · replace h := h.t hb26
    have c27 := h.1
    refine ⟨c27, ?_⟩
    replace h := h.2 _ rfl
    have h : _ = row := h
    subst h
    repeat' (first | exact trivial | exact rfl | refine And.intro ?_ ?_)
  · replace h := h.f hb26
    obtain ⟨I, μ, h0, hI⟩ := h
    refine LoopW.inv (fun R R' s h k => RCode.wp_mono _ R R' s h k) (fun p : List (List C) × List (Int × C) × List (List C) × Int => (fun (l4 : List (List C)) (m5 : List (Int × C)) (l6 : List (List C)) (i7 : Int) => (⟨[.c (.sl [.int .i64, .int .i64, .sl [.int .i64, .int .i64]] x1), .u, .u, .ptr 0 0, .ptr 3 0, .c (.int .i64 i7), .u, .u, .u, .u, .u, .u, .u, .u, .u, .u, .u, .u, .u, .u, .u, .u, .u, .u, .u, .u, .u, .u, .u, .u, .u, .u, .u, .u, .u, .u, .u, .u, .u, .u, .u, .u, .u, .u, .u, .u, .u, .u, .u, .u, .u, .u, .u, .u], [.box 54 [.gr 1, .map 2], .arr 24 [.int .i64, .int .i64, .sl [.int .i64, .int .i64]] l4, .mp .i64 (.int .i64) m5, .box 56 [.c (.sl [.int .i64, .int .i64, .sl [.int .i64, .int .i64]] l6)]]⟩ : St)) p.1 p.2.1 p.2.2.1 p.2.2.2) (fun p => I p.1 p.2.1 p.2.2.1 p.2.2.2) (fun p => μ p.1 p.2.1 p.2.2.1 p.2.2.2) (_, _, _, _) h0 ?_ ?_
    · refine GSt.ren [0, 1, 2, 3] rfl rfl rfl (fun i hi => absurd hi (Nat.not_lt_zero i)) (Nat.zero_le _) ?_ ?_
      all_goals (repeat' (first | exact trivial | exact Or.inl rfl | exact Or.inr rfl | refine And.intro ?_ ?_))
    · rintro ⟨l4, m5, l6, i7⟩ h
      replace h := hI l4 m5 l6 i7 h
      cbv
      refine ⟨fun hb28 => ?_, fun hb28 => ?_⟩
      · replace h := h.t hb28
        have c29 := h.1
        refine ⟨c29, ?_⟩
        replace h := h.2
        refine ⟨hb28, ?_⟩
        refine ⟨c29, ?_⟩
        refine ⟨hb28, ?_⟩
        refine HCall.mk ce18.1 ((ACalls.frame (ce18.2.1 _ _ _ _ _ _ _ h) (H := _) (tgt := [0, 1, 2]) rfl (by decide) ?_).mono fun r H' hq => ?_)
        · intro i o ho
          match i, ho with
          | 0, ho => cases ho; rfl
          | 1, ho => cases ho; rfl
          | 2, ho => cases ho; rfl
        obtain ⟨r1, H1', hd, _, hr1, hr2⟩ := hq
        rcases hd with ⟨m9, i10, h, rfl, rfl⟩ | ⟨l13, m14, h, rfl, rfl⟩
        · subst hr1 hr2
          cbv
          refine HCall.mk ce19.1 ((ACalls.frame (ce19.2 _ _ _ _ _ h) (H := _) (tgt := [3]) rfl (by decide) ?_).mono fun r H' hq => ?_)
          · intro i o ho
            match i, ho with
            | 0, ho => cases ho; rfl
          obtain ⟨r1, H1', ⟨l11, i12, h, rfl, rfl⟩, _, rfl, rfl⟩ := hq
          cbv
          refine ⟨fun hb30 => ?_, fun hb30 => ?_⟩
          · replace h := h.t hb30
            have h : _ = row := h
            subst h
            repeat' (first | exact trivial | exact rfl | refine And.intro ?_ ?_)
          · replace h := h.f hb30
            refine ⟨(_, _, _, _), h.1, GSt.ren [0, 1, 2, 3] rfl rfl rfl (fun i hi => absurd hi (Nat.not_lt_zero i)) (Nat.zero_le _) ?_ ?_, h.2⟩
            all_goals (repeat' (first | exact trivial | exact Or.inl rfl | exact Or.inr rfl | refine And.intro ?_ ?_))
        · subst hr1 hr2
          cbv
          refine HCall.mk ce19.1 ((ACalls.frame (ce19.2 _ _ _ _ _ h) (H := _) (tgt := [3]) rfl (by decide) ?_).mono fun r H' hq => ?_)
          · intro i o ho
            match i, ho with
            | 0, ho => cases ho; rfl
          obtain ⟨r1, H1', ⟨l15, i16, h, rfl, rfl⟩, _, rfl, rfl⟩ := hq
          cbv
          refine ⟨fun hb31 => ?_, fun hb31 => ?_⟩
          · replace h := h.t hb31
            have h : _ = row := h
            subst h
            repeat' (first | exact trivial | exact rfl | refine And.intro ?_ ?_)
          · replace h := h.f hb31
            refine ⟨(_, _, _, _), h.1, GSt.ren [0, 4, 2, 3] rfl rfl rfl (fun i hi => absurd hi (Nat.not_lt_zero i)) (Nat.zero_le _) ?_ ?_, h.2⟩
            all_goals (repeat' (first | exact trivial | exact Or.inl rfl | exact Or.inr rfl | refine And.intro ?_ ?_))
      · replace h := h.f hb28
        refine HCall.mk ce21.1 ((ACalls.frame (ce21.2.1 _ _ _ h) (H := _) (tgt := [0, 1, 2]) rfl (by decide) ?_).mono fun r H' hq => ?_)
        · intro i o ho
          match i, ho with
          | 0, ho => cases ho; rfl
          | 1, ho => cases ho; rfl
          | 2, ho => cases ho; rfl
        obtain ⟨r1, H1', ⟨l17, h, rfl, rfl⟩, _, rfl, rfl⟩ := hq
        cbv
        refine HCall.mk ce22.1 ((ACalls.frame (ce22.2 _ _ h) (H := _) (tgt := [3]) rfl (by decide) ?_).mono fun r H' hq => ?_)
        · intro i o ho
          match i, ho with
          | 0, ho => cases ho; rfl
        obtain ⟨r1, H1', ⟨l18, h, rfl, rfl⟩, _, rfl, rfl⟩ := hq
        cbv
        have c32 := h.1
        refine ⟨c32, ?_⟩
        replace h := h.2 _ rfl
        refine ⟨⟨fun hh => hh⟩, ?_⟩
        have hb33 := h.1
        refine ⟨fun _ => ?_, fun hb => absurd (hb.symm.trans hb33) Bool.false_ne_true⟩
        replace h := h.2
        refine HCall.mk ce24.1 ((ACalls.frame (ce24.2.1 _ _ _ h) (H := _) (tgt := [0, 1, 2]) rfl (by decide) ?_).mono fun r H' hq => ?_)
        · intro i o ho
          match i, ho with
          | 0, ho => cases ho; rfl
          | 1, ho => cases ho; rfl
          | 2, ho => cases ho; rfl
        obtain ⟨r1, H1', ⟨l20, i21, h, rfl, rfl⟩, _, rfl, rfl⟩ := hq
        cbv
        refine ⟨⟨fun _ => hb33⟩, ?_⟩
        have hb34 := h.1
        refine ⟨fun _ => ?_, fun hb => absurd (hb.symm.trans hb34) Bool.false_ne_true⟩
        replace h := h.2
        refine HCall.mk ce25.1 ((ACalls.frame (ce25.2 _ _ h) (H := _) (tgt := [3]) rfl (by decide) ?_).mono fun r H' hq => ?_)
        · intro i o ho
          match i, ho with
          | 0, ho => cases ho; rfl
        obtain ⟨r1, H1', ⟨l22, h, rfl, rfl⟩, _, rfl, rfl⟩ := hq
        cbv
        have c35 := h.1
        refine ⟨c35, ?_⟩
        replace h := h.2 _ rfl
        refine ⟨⟨fun _ => hb34⟩, ?_⟩
        have c36 := h.1
        refine ⟨c36, ?_⟩
        replace h := h.2 _ rfl
        refine ⟨⟨fun hh => hh⟩, ?_⟩
        have h : _ = row := h
        subst h
        repeat' (first | exact trivial | exact rfl | refine And.intro ?_ ?_)
end Go.Proofs.Ytlmllogbaacoeaa.V
