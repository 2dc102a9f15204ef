/- Lists of integers: the walks of the library's functions on them, and of what lists a ledger's accounts. No conditions. -/
import Derived.Test.YtlmllogbaacoeaaSame
import Derived.Test.YtlmllogbaacoeaaE4
set_option linter.unusedVariables false
set_option linter.unusedSimpArgs false
namespace Go.Proofs.Ytlmllogbaacoeaa.V
open Go Go.Eng
set_option maxRecDepth 1000000
set_option maxHeartbeats 1000000
/-- Each of several equal neighbours once. -/
def dedA : List Int → List Int
  | [] => []
  | [a] => [a]
  | a :: b :: r => if a = b then dedA (b :: r) else a :: dedA (b :: r)
def spCompact (xs : List (List C)) (K : List (List C) → Int → Prop) : Prop :=
  ∃ zs : List Int, rowsI zs = xs ∧ zs.length ≤ 1000000 ∧ ∀ ys : List (List C), ys.length = xs.length → ys.take (dedA zs).length = rowsI (dedA zs) → K ys ((dedA zs).length : Int)
def CompactC (T : TypeId) (lay : List LK) (P : Program) (f : FuncId) : Prop :=
  hasBody P f = true ∧ ∀ (xs : List (List C)) (K : List (List C) → Int → Prop), spCompact xs K → ACalls P f [.gr 0] [.arr T lay xs] fun r H' => ∃ ys m, K ys m ∧ r = .own 0 0 m ∧ H' = [.arr T lay ys]
def vc40 (E : Env) (x1 : List (List C)) (Q0 : (List (List C)) → (Int) → Prop) : Prop :=
  Br (E.lt (E.len x1) 2)
  (Q0 (x1) ((x1.length : Int)))
  (LoopP1 (fun (i3 : Int) (K4 : (Int) → Prop) =>
    Br (E.lt i3 (E.len x1))
      (((E.le 0 i3) = true) ∧ 
        (((E.le 0 (E.sub .i64 i3 1)) = true) ∧ ((E.lt (E.sub .i64 i3 1) (E.len x1)) = true) ∧ 
        (Br (E.eq (E.gi (E.cell x1 i3 0)) (E.gi (E.cell x1 (E.sub .i64 i3 1) 0)))
        (((E.le i3 (E.len x1)) = true) ∧ ((E.le (E.len x1) (E.len x1)) = true) ∧ 
          (LoopP3 (fun (l5 : List (List C)) (i6 : Int) (i7 : Int) (K8 : (List (List C)) → (Int) → (Int) → Prop) =>
          Br (E.lt i7 (E.mi (E.len x1) i3))
            (((E.le 0 i7) = true) ∧ 
              (((E.le 0 (E.sub .i64 i7 1)) = true) ∧ ((E.lt (E.sub .i64 i7 1) (E.mi (E.len x1) i3)) = true) ∧ 
              (Br (E.not (E.eq (E.gi (E.cell l5 (E.pl i3 i7) 0)) (E.gi (E.cell l5 (E.pl i3 (E.sub .i64 i7 1)) 0))))
              (((E.le 0 i6) = true) ∧ ((E.lt i6 (E.len l5)) = true) ∧ 
                (K8 ((E.upd l5 i6 0 (.int .i64 (E.gi (E.cell l5 (E.pl i3 i7) 0))))) ((E.add .i64 i6 1)) ((E.add .i64 i7 1))))
              (K8 (l5) (i6) ((E.add .i64 i7 1))))))
            (((E.le 0 i6) = true) ∧ ((E.le i6 (E.len l5)) = true) ∧ ((E.le (E.len l5) (E.len l5)) = true) ∧ 
              (((E.le 0 0) = true) ∧ ((E.le i6 (E.len (E.cat (E.cut l5 0 i6) (E.cat (E.rep (E.mi (E.len l5) i6) [.int .i64 0]) (E.cut l5 (E.pl i6 (E.mi (E.len l5) i6)) (E.len l5)))))) = true) ∧ 
              (Q0 ((E.cat (E.cut l5 0 i6) (E.cat (E.rep (E.mi (E.len l5) i6) [.int .i64 0]) (E.cut l5 (E.pl i6 (E.mi (E.len l5) i6)) (E.len l5))))) ((E.mi i6 0))))))
          (x1) (i3) (1)))
        (K4 ((E.add .i64 i3 1))))))
      (Q0 (x1) ((x1.length : Int))))
    (1))
theorem w40 {P : Program} {tbl : FuncId → List A → List C} {x1 : List (List C)}  {Q0 : (List (List C)) → (Int) → Prop} (h : vc40 (stdE P tbl) x1 Q0) : WEg P tbl rf40 (fun r H' => (∃ l1 : List (List C), ∃ i2 : Int, Q0 l1 i2 ∧ r = .own 0 0 i2 ∧ H' = [.arr 3 [.int .i64] l1])) [.gr 0] [.arr 3 [.int .i64] x1] := by
  refine ⟨?_⟩
  revert h
  generalize hE : stdE P tbl = E
  intro h
  unfold vc40 at h
  cbv
  refine ⟨fun hb9 => ?_, fun hb9 => ?_⟩
  · replace h := h.t hb9
    refine ⟨_, _, GFin.of (GSt.trans (GSt.grOwn 0 rfl rfl) (GSt.ren [0] rfl rfl rfl (by decide) (Nat.le_add_left _ _) ?_ ?_)), ⟨_, _, h, rfl, rfl⟩⟩
    all_goals (repeat' (first | exact trivial | exact Or.inl rfl | exact Or.inr rfl | refine And.intro ?_ ?_))
  · replace h := h.f hb9
    obtain ⟨I, μ, h0, hI⟩ := h
    refine LoopW.inv (fun R R' s h k => RCode.wp_mono _ R R' s h k) (fun p : Int => (fun (i3 : Int) => (⟨[.gr 0, .u, .u, .c (.int .i64 i3), .u, .u, .u, .u, .u, .u, .u, .u, .u, .u, .u, .u, .u, .u, .u, .u, .u, .u, .u, .u, .u, .u, .u, .u, .u, .u, .u, .u, .u, .u, .u, .u, .u, .u, .u, .u, .u, .u, .u, .u, .u, .u, .u, .u, .u, .u, .u, .u, .u, .u, .u, .u, .u, .u, .u, .u, .u], [.arr 3 [.int .i64] x1]⟩ : St)) p) (fun p => I p) (fun p => μ p) _ h0 ?_ ?_
    · refine GSt.ren [0] rfl rfl rfl (by decide) (Nat.le_add_left _ _) ?_ ?_
      all_goals (repeat' (first | exact trivial | exact Or.inl rfl | exact Or.inr rfl | refine And.intro ?_ ?_))
    · rintro i3 h
      replace h := hI i3 h
      cbv
      refine ⟨fun hb10 => ?_, fun hb10 => ?_⟩
      · replace h := h.t hb10
        have c11 := h.1
        refine ⟨c11, ?_⟩
        replace h := h.2
        refine ⟨hb10, ?_⟩
        have c12 := h.1
        refine ⟨c12, ?_⟩
        replace h := h.2
        have c13 := h.1
        refine ⟨c13, ?_⟩
        replace h := h.2
        refine ⟨fun hb14 => ?_, fun hb14 => ?_⟩
        · replace h := h.t hb14
          refine ⟨c11, ?_⟩
          have c15 := h.1
          refine ⟨c15, ?_⟩
          replace h := h.2
          have c16 := h.1
          refine ⟨c16, ?_⟩
          replace h := h.2
          obtain ⟨I, μ, h0, hI⟩ := h
          refine LoopW.inv (fun R R' s h k => RCode.wp_mono _ R R' s h k) (fun p : List (List C) × Int × Int => (fun (l5 : List (List C)) (i6 : Int) (i7 : Int) => (⟨[.gr 0, .u, .u, .c (.int .i64 i6), .own 0 i3 (E.mi (E.len x1) i3), .c (.int .i64 i7), .u, .u, .u, .u, .u, .u, .u, .u, .u, .u, .u, .u, .u, .u, .u, .u, .u, .u, .u, .u, .u, .u, .u, .u, .u, .u, .u, .u, .u, .u, .u, .u, .u, .u, .u, .u, .u, .u, .u, .u, .u, .u, .u, .u, .u, .u, .u, .u, .u, .u, .u, .u, .u, .u, .u], [.arr 3 [.int .i64] l5]⟩ : St)) p.1 p.2.1 p.2.2) (fun p => I p.1 p.2.1 p.2.2) (fun p => μ p.1 p.2.1 p.2.2) (_, _, _) h0 ?_ ?_
          · refine GSt.ren [0] rfl rfl rfl (by decide) (Nat.le_add_left _ _) ?_ ?_
            all_goals (repeat' (first | exact trivial | exact Or.inl rfl | exact Or.inr rfl | refine And.intro ?_ ?_))
          · rintro ⟨l5, i6, i7⟩ h
            replace h := hI l5 i6 i7 h
            cbv
            refine ⟨fun hb17 => ?_, fun hb17 => ?_⟩
            · replace h := h.t hb17
              have c18 := h.1
              refine ⟨c18, ?_⟩
              replace h := h.2
              refine ⟨hb17, ?_⟩
              have c19 := h.1
              refine ⟨c19, ?_⟩
              replace h := h.2
              have c20 := h.1
              refine ⟨c20, ?_⟩
              replace h := h.2
              refine ⟨fun hb21 => ?_, fun hb21 => ?_⟩
              · replace h := h.t hb21
                refine ⟨c18, ?_⟩
                refine ⟨hb17, ?_⟩
                have c22 := h.1
                refine ⟨c22, ?_⟩
                replace h := h.2
                have c23 := h.1
                refine ⟨c23, ?_⟩
                replace h := h.2
                refine ⟨(_, _, _), h.1, GSt.ren [0] rfl rfl rfl (by decide) (Nat.le_add_left _ _) ?_ ?_, h.2⟩
                all_goals (repeat' (first | exact trivial | exact Or.inl rfl | exact Or.inr rfl | refine And.intro ?_ ?_))
              · replace h := h.f hb21
                refine ⟨(_, _, _), h.1, GSt.ren [0] rfl rfl rfl (by decide) (Nat.le_add_left _ _) ?_ ?_, h.2⟩
                all_goals (repeat' (first | exact trivial | exact Or.inl rfl | exact Or.inr rfl | refine And.intro ?_ ?_))
            · replace h := h.f hb17
              have c24 := h.1
              refine ⟨c24, ?_⟩
              replace h := h.2
              have c25 := h.1
              refine ⟨c25, ?_⟩
              replace h := h.2
              have c26 := h.1
              refine ⟨c26, ?_⟩
              replace h := h.2
              have c27 := h.1
              refine ⟨c27, ?_⟩
              replace h := h.2
              refine ⟨c24, ?_⟩
              have c28 := h.1
              refine ⟨c28, ?_⟩
              replace h := h.2
              refine ⟨_, _, GFin.of (GSt.ren [0] rfl rfl rfl (by decide) (Nat.le_add_left _ _) ?_ ?_), ⟨_, _, h, rfl, rfl⟩⟩
              all_goals (repeat' (first | exact trivial | exact Or.inl rfl | exact Or.inr rfl | refine And.intro ?_ ?_))
        · replace h := h.f hb14
          refine ⟨_, h.1, GSt.ren [0] rfl rfl rfl (by decide) (Nat.le_add_left _ _) ?_ ?_, h.2⟩
          all_goals (repeat' (first | exact trivial | exact Or.inl rfl | exact Or.inr rfl | refine And.intro ?_ ?_))
      · replace h := h.f hb10
        refine ⟨_, _, GFin.of (GSt.trans (GSt.grOwn 0 rfl rfl) (GSt.ren [0] rfl rfl rfl (by decide) (Nat.le_add_left _ _) ?_ ?_)), ⟨_, _, h, rfl, rfl⟩⟩
        all_goals (repeat' (first | exact trivial | exact Or.inl rfl | exact Or.inr rfl | refine And.intro ?_ ?_))
def vc24 (E : Env) (x1 : List (List C)) (x2 : List (Int × C)) (Q0 : (List (List C)) → (Int) → Prop) : Prop :=
  (false = false) ∧ 
  (LoopP2 (fun (l3 : List (List C)) (i4 : Int) (K5 : (List (List C)) → (Int) → Prop) =>
  Br (E.lt i4 (E.len x1))
    (((E.le 0 i4) = true) ∧ 
      (LoopP2 (fun (l6 : List (List C)) (i7 : Int) (K8 : (List (List C)) → (Int) → Prop) =>
      Br (E.lt i7 (E.len (E.gl (E.cell x1 i4 2))))
        (((E.le 0 i7) = true) ∧ 
          (((E.le (E.pl (E.len l6) (E.len [[.int .i64 (E.gi (E.cell (E.gl (E.cell x1 i4 2)) i7 0))]])) 17592186044416) = true) ∧ 
          (K8 ((E.cat l6 [[.int .i64 (E.gi (E.cell (E.gl (E.cell x1 i4 2)) i7 0))]])) ((E.add .i64 i7 1)))))
        (K5 (l6) ((E.add .i64 i4 1))))
      (l3) (0)))
    (spSort (l3) (fun (l9 : List (List C)) => 
      spCompact (l9) (fun (l10 : List (List C)) (i11 : Int) => 
        Q0 (l10) (i11)))))
  ([]) (0))
theorem w24 {P : Program} {tbl : FuncId → List A → List C} {x1 : List (List C)} {x2 : List (Int × C)} (ce39 : OnArr spSort [.int .i64] P 39) (ce40 : CompactC 3 [.int .i64] P 40) {Q0 : (List (List C)) → (Int) → Prop} (h : vc24 (stdE P tbl) x1 x2 Q0) : WEg P tbl rf24 (fun r H' => (∃ l1 : List (List C), ∃ i2 : Int, Q0 l1 i2 ∧ r = .own 3 0 i2 ∧ H' = [.box 54 [.gr 1, .map 2], .arr 24 [.int .i64, .int .i64, .sl [.int .i64, .int .i64]] x1, .mp .i64 (.int .i64) x2, .arr 3 [.int .i64] l1])) [.ptr 0 0] [.box 54 [.gr 1, .map 2], .arr 24 [.int .i64, .int .i64, .sl [.int .i64, .int .i64]] x1, .mp .i64 (.int .i64) x2] := by
  refine ⟨?_⟩
  revert h
  generalize hE : stdE P tbl = E
  intro h
  unfold vc24 at h
  cbv
  have hb12 := h.1
  refine ⟨fun hb => absurd (hb12.symm.trans hb) Bool.false_ne_true, fun _ => ?_⟩
  replace h := h.2
  obtain ⟨I, μ, h0, hI⟩ := h
  refine LoopW.inv (fun R R' s h k => RCode.wp_mono _ R R' s h k) (fun p : List (List C) × Int => (fun (l3 : List (List C)) (i4 : Int) => (⟨[.u, .u, .u, .gr 3, .u, .u, .u, .u, .u, .u, .u, .u, .u, .gr 1, .c (.int .i64 (E.len x1)), .c (.int .i64 i4), .u, .u, .u, .u, .u, .u, .u, .u, .u, .u, .u, .u, .u, .u, .u, .u, .u, .u, .u, .u, .u], [.box 54 [.gr 1, .map 2], .arr 24 [.int .i64, .int .i64, .sl [.int .i64, .int .i64]] x1, .mp .i64 (.int .i64) x2, .arr 3 [.int .i64] l3]⟩ : St)) p.1 p.2) (fun p => I p.1 p.2) (fun p => μ p.1 p.2) (_, _) h0 ?_ ?_
  · refine GSt.trans (GSt.nil 3 3 [.int .i64] rfl) (GSt.ren [0, 1, 2, 3] rfl rfl rfl (by decide) (Nat.le_add_left _ _) ?_ ?_)
    all_goals (repeat' (first | exact trivial | exact Or.inl rfl | exact Or.inr rfl | refine And.intro ?_ ?_))
  · rintro ⟨l3, i4⟩ h
    replace h := hI l3 i4 h
    cbv
    refine ⟨fun hb13 => ?_, fun hb13 => ?_⟩
    · replace h := h.t hb13
      have c14 := h.1
      refine ⟨c14, ?_⟩
      replace h := h.2
      refine ⟨hb13, ?_⟩
      obtain ⟨I, μ, h0, hI⟩ := h
      refine LoopW.inv (fun R R' s h k => RCode.wp_mono _ R R' s h k) (fun p : List (List C) × Int => (fun (l6 : List (List C)) (i7 : Int) => (⟨[.u, .u, .u, .gr 3, .u, .u, .u, .u, .u, .u, .u, .u, .u, .gr 1, .c (.int .i64 (E.len x1)), .c (.int .i64 i4), .u, .u, .u, .u, .c (.sl [.int .i64, .int .i64] (E.gl (E.cell x1 i4 2))), .c (.int .i64 (E.len (E.gl (E.cell x1 i4 2)))), .c (.int .i64 i7), .u, .u, .u, .u, .u, .u, .u, .u, .u, .u, .u, .u, .u, .u], [.box 54 [.gr 1, .map 2], .arr 24 [.int .i64, .int .i64, .sl [.int .i64, .int .i64]] x1, .mp .i64 (.int .i64) x2, .arr 3 [.int .i64] l6]⟩ : St)) p.1 p.2) (fun p => I p.1 p.2) (fun p => μ p.1 p.2) (_, _) h0 ?_ ?_
      · refine GSt.ren [0, 1, 2, 3] rfl rfl rfl (by decide) (Nat.le_add_left _ _) ?_ ?_
        all_goals (repeat' (first | exact trivial | exact Or.inl rfl | exact Or.inr rfl | refine And.intro ?_ ?_))
      · rintro ⟨l6, i7⟩ h
        replace h := hI l6 i7 h
        cbv
        refine ⟨fun hb15 => ?_, fun hb15 => ?_⟩
        · replace h := h.t hb15
          have c16 := h.1
          refine ⟨c16, ?_⟩
          replace h := h.2
          refine ⟨hb15, ?_⟩
          have c17 := h.1
          refine ⟨c17, ?_⟩
          replace h := h.2
          refine ⟨(_, _), h.1, GSt.ren [0, 1, 2, 6] rfl rfl rfl (by decide) (Nat.le_add_left _ _) ?_ ?_, h.2⟩
          all_goals (repeat' (first | exact trivial | exact Or.inl rfl | exact Or.inr rfl | refine And.intro ?_ ?_))
        · replace h := h.f hb15
          refine ⟨(_, _), h.1, GSt.ren [0, 1, 2, 3] rfl rfl rfl (by decide) (Nat.le_add_left _ _) ?_ ?_, h.2⟩
          all_goals (repeat' (first | exact trivial | exact Or.inl rfl | exact Or.inr rfl | refine And.intro ?_ ?_))
    · replace h := h.f hb13
      refine HCall.mk ce39.1 ((ACalls.frame (ce39.2 (T := 3) _ _ h) (H := _) (tgt := [3]) rfl (by decide) ?_).mono fun r H' hq => ?_)
      · intro i o ho
        match i, ho with
        | 0, ho => cases ho; rfl
      obtain ⟨r1, H1', ⟨l9, h, rfl, rfl⟩, _, rfl, rfl⟩ := hq
      cbv
      refine HCall.mk ce40.1 ((ACalls.frame (ce40.2 _ _ h) (H := _) (tgt := [3]) rfl (by decide) ?_).mono fun r H' hq => ?_)
      · intro i o ho
        match i, ho with
        | 0, ho => cases ho; rfl
      obtain ⟨r1, H1', ⟨l10, i11, h, rfl, rfl⟩, _, rfl, rfl⟩ := hq
      cbv
      refine ⟨_, _, GFin.of (GSt.ren [0, 1, 2, 3] rfl rfl rfl (by decide) (Nat.le_add_left _ _) ?_ ?_), ⟨_, _, h, rfl, rfl⟩⟩
      all_goals (repeat' (first | exact trivial | exact Or.inl rfl | exact Or.inr rfl | refine And.intro ?_ ?_))
end Go.Proofs.Ytlmllogbaacoeaa.V
