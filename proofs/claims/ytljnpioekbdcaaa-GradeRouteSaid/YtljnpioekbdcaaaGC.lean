/- Lists of integers: the walks of the library's functions on them. No conditions. -/
import Derived.Test.YtljnpioekbdcaaaAwake
set_option linter.unusedVariables false
set_option linter.unusedSimpArgs false
namespace Go.Proofs.Ytljnpioekbdcaaa.V
open Go Go.Eng
set_option maxRecDepth 1000000
set_option maxHeartbeats 1000000
/-- slices.Delete of a part that is all of an array. -/
def spDelete (xs : List (List C)) (n i j : Int) (K : List (List C) → Int → Prop) : Prop :=
  0 ≤ i ∧ i ≤ j ∧ j ≤ n ∧ n ≤ xs.length ∧ (xs.length : Int) ≤ 1000000 ∧ ∀ ys : List (List C), ys.length = xs.length →
    ys.take (n - (j - i)).toNat = (xs.take n.toNat).take i.toNat ++ (xs.take n.toNat).drop j.toNat → K ys (n - (j - i))
def DeleteC (T : TypeId) (lay : List LK) (P : Program) (f : FuncId) : Prop :=
  hasBody P f = true ∧ ∀ (xs : List (List C)) (n i j : Int) (K : List (List C) → Int → Prop), spDelete xs n i j K → ACalls P f [.own 0 0 n, .c (.int .i64 i), .c (.int .i64 j)] [.arr T lay xs] fun r H' => ∃ ys m, K ys m ∧ r = .own 0 0 m ∧ H' = [.arr T lay ys]
/-- slices.DeleteFunc of those that are k. -/
def spDelFunc (xs : List (List C)) (k : Int) (K : List (List C) → Int → Prop) : Prop :=
  ∃ zs : List Int, rowsI zs = xs ∧ zs.length ≤ 1000000 ∧ ∀ ys : List (List C), ys.length = xs.length → ys.take (zs.filter fun z => !(z == k)).length = rowsI (zs.filter fun z => !(z == k)) → K ys ((zs.filter fun z => !(z == k)).length : Int)
def DelFuncC (T : TypeId) (clo : FuncId) (P : Program) (f : FuncId) : Prop :=
  hasBody P f = true ∧ ∀ (xs : List (List C)) (k : Int) (K : List (List C) → Int → Prop), spDelFunc xs k K → ACalls P f [.gr 0, .fn clo [.ptr 1 0]] [.arr T [.int .i64] xs, .box 3 [.c (.int .i64 k)]] fun r H' => ∃ ys m, K ys m ∧ r = .own 0 0 m ∧ H' = [.arr T [.int .i64] ys, .box 3 [.c (.int .i64 k)]]
/-- Each of several equal neighbours once. -/
def dedA : List Int → List Int
  | [] => []
  | [a] => [a]
  | a :: b :: r => if a = b then dedA (b :: r) else a :: dedA (b :: r)
def spCompact (xs : List (List C)) (K : List (List C) → Int → Prop) : Prop :=
  ∃ zs : List Int, rowsI zs = xs ∧ zs.length ≤ 1000000 ∧ ∀ ys : List (List C), ys.length = xs.length → ys.take (dedA zs).length = rowsI (dedA zs) → K ys ((dedA zs).length : Int)
def CompactC (T : TypeId) (lay : List LK) (P : Program) (f : FuncId) : Prop :=
  hasBody P f = true ∧ ∀ (xs : List (List C)) (K : List (List C) → Int → Prop), spCompact xs K → ACalls P f [.gr 0] [.arr T lay xs] fun r H' => ∃ ys m, K ys m ∧ r = .own 0 0 m ∧ H' = [.arr T lay ys]
/-- A copy of a part of an array of the call's own. -/
def spCloneK (xs : List (List C)) (off len : Int) (K : List (List C) → Prop) : Prop := 0 ≤ off ∧ 0 ≤ len ∧ off + len ≤ xs.length ∧ len ≤ 1000000 ∧ K ((xs.take (off + len).toNat).drop off.toNat)
def CloneK (T : TypeId) (lay : List LK) (P : Program) (f : FuncId) : Prop :=
  hasBody P f = true ∧ ∀ (T' : TypeId) (xs : List (List C)) (off len : Int) (K : List (List C) → Prop), spCloneK xs off len K → ACalls P f [.own 0 off len] [.arr T' lay xs] fun r H' => ∃ d, K d ∧ r = .gr 1 ∧ H' = [.arr T' lay xs, .arr T lay d]
theorem CloneO.k {T : TypeId} {lay : List LK} {P : Program} {f : FuncId} (h : CloneO T lay P f) : CloneK T lay P f :=
  ⟨h.1, fun T' xs off len K ⟨h0, h1, h2, h3, hk⟩ => (h.2 T' xs off len True ⟨h0, h1, h2, h3, trivial⟩).mono fun r H' ⟨_, e1, e2⟩ => ⟨_, hk, e1, e2⟩⟩
def CloneCO (T : TypeId) (lay : List LK) (P : Program) (f : FuncId) : Prop := CloneC T lay P f ∧ CloneK T lay P f
theorem cloneco38 : CloneCO 3 [.int .i64] Try.prog 38 := ⟨clone38, CloneO.k cloneo38⟩
def vc42 (E : Env) (x1 : Int) (x2 : Int) (Q : List C → Prop) : Prop :=
  Q [.bool (E.eq x1 (E.gi (E.cell [[.int .i64 x2]] 0 0)))]
theorem w42 {P : Program} {tbl : FuncId → List A → List C}  {x1 : Int} {x2 : Int} {row : List C} (h : vc42 (stdE P tbl) x1 x2 fun c => c = row) : WPg P tbl rf42 [(false, [.bool])] row [.c (.int .i64 x1), .el [.int .i64] [[.int .i64 x2]] 0 0] := by
  refine ⟨?_⟩
  revert h
  generalize hE : stdE P tbl = E
  intro h
  unfold vc42 at h
  cbv
  have h : _ = row := h
  subst h
  repeat' (first | exact trivial | exact rfl | refine And.intro ?_ ?_)
def vc54 (E : Env) (x1 : List (List C)) (x2 : Int) (Q : List C → Prop) : Prop :=
  LoopP1 (fun (i1 : Int) (K2 : (Int) → Prop) =>
  Br (E.lt i1 (E.len x1))
    (((E.le 0 i1) = true) ∧ 
      ((E.pok 42 [(false, [.bool])] [.c (.int .i64 (E.gi (E.cell x1 i1 0))), .el [.int .i64] [[.int .i64 x2]] 0 0]) ∧ (∀ r3 : Nat → C, r3 = E.res 42 [.c (.int .i64 (E.gi (E.cell x1 i1 0))), .el [.int .i64] [[.int .i64 x2]] 0 0] → 
      (Br (E.gb (r3 0))
      (Q [.int .i64 i1])
      (K2 ((E.add .i64 i1 1)))))))
    (Q [.int .i64 (-1)]))
  (0)
theorem w54 {P : Program} {tbl : FuncId → List A → List C}  {x1 : List (List C)} {x2 : Int} {row : List C} (h : vc54 (stdE P tbl) x1 x2 fun c => c = row) : WPg P tbl rf54 [(false, [.int .i64])] row [.c (.sl [.int .i64] x1), .fn 42 [.el [.int .i64] [[.int .i64 x2]] 0 0]] := by
  refine ⟨?_⟩
  revert h
  generalize hE : stdE P tbl = E
  intro h
  unfold vc54 at h
  cbv
  obtain ⟨I, μ, h0, hI⟩ := h
  refine LoopW.inv (fun R R' s h k => RCode.wp_mono _ R R' s h k) (fun p : Int => (fun (i1 : Int) => (⟨[.c (.sl [.int .i64] x1), .fn 42 [.el [.int .i64] [[.int .i64 x2]] 0 0], .u, .u, .u, .u, .u, .c (.int .i64 (E.len x1)), .c (.int .i64 i1), .u, .u, .u, .u, .u, .u, .u, .u, .u, .u], []⟩ : St)) p) (fun p => I p) (fun p => μ p) _ h0 ?_ ?_
  · refine GSt.ren [] rfl rfl rfl (fun i hi => absurd hi (Nat.not_lt_zero i)) (Nat.zero_le _) ?_ ?_
    all_goals (repeat' (first | exact trivial | exact Or.inl rfl | exact Or.inr rfl | refine And.intro ?_ ?_))
  · rintro i1 h
    replace h := hI i1 h
    cbv
    refine ⟨fun hb4 => ?_, fun hb4 => ?_⟩
    · replace h := h.t hb4
      have c5 := h.1
      refine ⟨c5, ?_⟩
      replace h := h.2
      refine ⟨hb4, ?_⟩
      have c6 := h.1
      refine ⟨c6, ?_⟩
      replace h := h.2 _ rfl
      refine ⟨fun hb7 => ?_, fun hb7 => ?_⟩
      · replace h := h.t hb7
        have h : _ = row := h
        subst h
        repeat' (first | exact trivial | exact rfl | refine And.intro ?_ ?_)
      · replace h := h.f hb7
        refine ⟨_, h.1, GSt.ren [] rfl rfl rfl (fun i hi => absurd hi (Nat.not_lt_zero i)) (Nat.zero_le _) ?_ ?_, h.2⟩
        all_goals (repeat' (first | exact trivial | exact Or.inl rfl | exact Or.inr rfl | refine And.intro ?_ ?_))
    · replace h := h.f hb4
      have h : _ = row := h
      subst h
      repeat' (first | exact trivial | exact rfl | refine And.intro ?_ ?_)
def vc41 (E : Env) (x1 : List (List C)) (x2 : Int) (Q0 : (List (List C)) → (Int) → Prop) : Prop :=
  (E.pok 54 [(false, [.int .i64])] [.c (.sl [.int .i64] x1), .fn 42 [.el [.int .i64] [[.int .i64 x2]] 0 0]]) ∧ (∀ r3 : Nat → C, r3 = E.res 54 [.c (.sl [.int .i64] x1), .fn 42 [.el [.int .i64] [[.int .i64 x2]] 0 0]] → 
  (Br (E.eq (E.gi (r3 0)) (-1))
  (Q0 (x1) ((x1.length : Int)))
  (LoopP3 (fun (l4 : List (List C)) (i5 : Int) (i6 : Int) (K7 : (List (List C)) → (Int) → (Int) → Prop) =>
    Br (E.lt i6 (E.len l4))
      (((E.le 0 i6) = true) ∧ 
        ((E.pok 42 [(false, [.bool])] [.c (.int .i64 (E.gi (E.cell l4 i6 0))), .el [.int .i64] [[.int .i64 x2]] 0 0]) ∧ (∀ r8 : Nat → C, r8 = E.res 42 [.c (.int .i64 (E.gi (E.cell l4 i6 0))), .el [.int .i64] [[.int .i64 x2]] 0 0] → 
        (Br (E.not (E.gb (r8 0)))
        (((E.le 0 i5) = true) ∧ ((E.lt i5 (E.len l4)) = true) ∧ 
          (K7 ((E.upd l4 i5 0 (.int .i64 (E.gi (E.cell l4 i6 0))))) ((E.add .i64 i5 1)) ((E.add .i64 i6 1))))
        (K7 (l4) (i5) ((E.add .i64 i6 1)))))))
      (((E.le 0 i5) = true) ∧ ((E.le i5 (E.len l4)) = true) ∧ ((E.le (E.len l4) (E.len l4)) = true) ∧ 
        (((E.le 0 0) = true) ∧ ((E.le i5 (E.len (E.cat (E.cut l4 0 i5) (E.cat (E.rep (E.mi (E.len l4) i5) [.int .i64 0]) (E.cut l4 (E.pl i5 (E.mi (E.len l4) i5)) (E.len l4)))))) = true) ∧ 
        (Q0 ((E.cat (E.cut l4 0 i5) (E.cat (E.rep (E.mi (E.len l4) i5) [.int .i64 0]) (E.cut l4 (E.pl i5 (E.mi (E.len l4) i5)) (E.len l4))))) ((E.mi i5 0))))))
    (x1) ((E.gi (r3 0))) ((E.add .i64 (E.gi (r3 0)) 1)))))
theorem w41 {P : Program} {tbl : FuncId → List A → List C} {x1 : List (List C)} {x2 : Int}  {Q0 : (List (List C)) → (Int) → Prop} (h : vc41 (stdE P tbl) x1 x2 Q0) : WEg P tbl rf41 (fun r H' => (∃ l1 : List (List C), ∃ i2 : Int, Q0 l1 i2 ∧ r = .own 0 0 i2 ∧ H' = [.arr 3 [.int .i64] l1, .box 3 [.c (.int .i64 x2)]])) [.gr 0, .fn 42 [.ptr 1 0]] [.arr 3 [.int .i64] x1, .box 3 [.c (.int .i64 x2)]] := by
  refine ⟨?_⟩
  revert h
  generalize hE : stdE P tbl = E
  intro h
  unfold vc41 at h
  cbv
  have c9 := h.1
  refine ⟨c9, ?_⟩
  replace h := h.2 _ rfl
  refine ⟨fun hb10 => ?_, fun hb10 => ?_⟩
  · replace h := h.t hb10
    refine ⟨_, _, GFin.of (GSt.trans (GSt.grOwn 0 rfl rfl) (GSt.ren [0, 1] rfl rfl rfl (by decide) (Nat.le_add_left _ _) ?_ ?_)), ⟨_, _, h, rfl, rfl⟩⟩
    all_goals (repeat' (first | exact trivial | exact Or.inl rfl | exact Or.inr rfl | refine And.intro ?_ ?_))
  · replace h := h.f hb10
    obtain ⟨I, μ, h0, hI⟩ := h
    refine LoopW.inv (fun R R' s h k => RCode.wp_mono _ R R' s h k) (fun p : List (List C) × Int × Int => (fun (l4 : List (List C)) (i5 : Int) (i6 : Int) => (⟨[.gr 0, .fn 42 [.ptr 1 0], .u, .u, .u, .c (.int .i64 i5), .c (.int .i64 i6), .u, .u, .u, .u, .u, .u, .u, .u, .u, .u, .u, .u, .u, .u, .u, .u, .u, .u, .u, .u, .u, .u, .u, .u, .u, .u, .u, .u, .u, .u, .u, .u, .u, .u, .u], [.arr 3 [.int .i64] l4, .box 3 [.c (.int .i64 x2)]]⟩ : St)) p.1 p.2.1 p.2.2) (fun p => I p.1 p.2.1 p.2.2) (fun p => μ p.1 p.2.1 p.2.2) (_, _, _) h0 ?_ ?_
    · refine GSt.ren [0, 1] rfl rfl rfl (by decide) (Nat.le_add_left _ _) ?_ ?_
      all_goals (repeat' (first | exact trivial | exact Or.inl rfl | exact Or.inr rfl | refine And.intro ?_ ?_))
    · rintro ⟨l4, i5, i6⟩ h
      replace h := hI l4 i5 i6 h
      cbv
      refine ⟨fun hb11 => ?_, fun hb11 => ?_⟩
      · replace h := h.t hb11
        have c12 := h.1
        refine ⟨c12, ?_⟩
        replace h := h.2
        refine ⟨hb11, ?_⟩
        have c13 := h.1
        refine ⟨c13, ?_⟩
        replace h := h.2 _ rfl
        refine ⟨fun hb14 => ?_, fun hb14 => ?_⟩
        · replace h := h.t hb14
          have c15 := h.1
          refine ⟨c15, ?_⟩
          replace h := h.2
          have c16 := h.1
          refine ⟨c16, ?_⟩
          replace h := h.2
          refine ⟨(_, _, _), h.1, GSt.ren [0, 1] rfl rfl rfl (by decide) (Nat.le_add_left _ _) ?_ ?_, h.2⟩
          all_goals (repeat' (first | exact trivial | exact Or.inl rfl | exact Or.inr rfl | refine And.intro ?_ ?_))
        · replace h := h.f hb14
          refine ⟨(_, _, _), h.1, GSt.ren [0, 1] rfl rfl rfl (by decide) (Nat.le_add_left _ _) ?_ ?_, h.2⟩
          all_goals (repeat' (first | exact trivial | exact Or.inl rfl | exact Or.inr rfl | refine And.intro ?_ ?_))
      · replace h := h.f hb11
        have c17 := h.1
        refine ⟨c17, ?_⟩
        replace h := h.2
        have c18 := h.1
        refine ⟨c18, ?_⟩
        replace h := h.2
        have c19 := h.1
        refine ⟨c19, ?_⟩
        replace h := h.2
        have c20 := h.1
        refine ⟨c20, ?_⟩
        replace h := h.2
        refine ⟨c17, ?_⟩
        have c21 := h.1
        refine ⟨c21, ?_⟩
        replace h := h.2
        refine ⟨_, _, GFin.of (GSt.ren [0, 1] rfl rfl rfl (by decide) (Nat.le_add_left _ _) ?_ ?_), ⟨_, _, h, rfl, rfl⟩⟩
        all_goals (repeat' (first | exact trivial | exact Or.inl rfl | exact Or.inr rfl | refine And.intro ?_ ?_))
def vc44 (E : Env) (x1 : List (List C)) (x2 : Int) (x3 : Int) (x4 : Int) (Q0 : (List (List C)) → (Int) → (Int) → Prop) : Prop :=
  ((E.le 0 x3) = true) ∧ ((E.le x3 x4) = true) ∧ ((E.le x4 x2) = true) ∧ ((E.le x2 x2) = true) ∧ 
  (Br (E.eq x3 x4)
  (Q0 (x1) (0) (x2))
  (((E.le 0 0) = true) ∧ ((E.le (E.pl 0 x3) (E.len x1)) = true) ∧ 
    (((E.le 0 x4) = true) ∧ ((E.le (E.pl 0 x2) (E.len x1)) = true) ∧ 
    (((E.le (E.pl (E.pl (E.pl 0 0) (E.mi x3 0)) (E.len (E.cut x1 (E.pl 0 x4) (E.pl (E.pl 0 x4) (E.mi x2 x4))))) (E.len x1)) = true) ∧ 
    (((E.le 0 (E.pl (E.mi x3 0) (E.len (E.cut x1 (E.pl 0 x4) (E.pl (E.pl 0 x4) (E.mi x2 x4)))))) = true) ∧ ((E.le (E.pl (E.mi x3 0) (E.len (E.cut x1 (E.pl 0 x4) (E.pl (E.pl 0 x4) (E.mi x2 x4))))) x2) = true) ∧ ((E.le (E.pl (E.pl 0 0) x2) (E.len (E.cat (E.cut x1 0 (E.pl (E.pl 0 0) (E.mi x3 0))) (E.cat (E.cut x1 (E.pl 0 x4) (E.pl (E.pl 0 x4) (E.mi x2 x4))) (E.cut x1 (E.pl (E.pl (E.pl 0 0) (E.mi x3 0)) (E.len (E.cut x1 (E.pl 0 x4) (E.pl (E.pl 0 x4) (E.mi x2 x4))))) (E.len x1)))))) = true) ∧ 
    (Q0 ((E.cat (E.cut (E.cat (E.cut x1 0 (E.pl (E.pl 0 0) (E.mi x3 0))) (E.cat (E.cut x1 (E.pl 0 x4) (E.pl (E.pl 0 x4) (E.mi x2 x4))) (E.cut x1 (E.pl (E.pl (E.pl 0 0) (E.mi x3 0)) (E.len (E.cut x1 (E.pl 0 x4) (E.pl (E.pl 0 x4) (E.mi x2 x4))))) (E.len x1)))) 0 (E.pl (E.pl 0 0) (E.pl (E.mi x3 0) (E.len (E.cut x1 (E.pl 0 x4) (E.pl (E.pl 0 x4) (E.mi x2 x4))))))) (E.cat (E.rep (E.mi x2 (E.pl (E.mi x3 0) (E.len (E.cut x1 (E.pl 0 x4) (E.pl (E.pl 0 x4) (E.mi x2 x4)))))) [.int .i64 0]) (E.cut (E.cat (E.cut x1 0 (E.pl (E.pl 0 0) (E.mi x3 0))) (E.cat (E.cut x1 (E.pl 0 x4) (E.pl (E.pl 0 x4) (E.mi x2 x4))) (E.cut x1 (E.pl (E.pl (E.pl 0 0) (E.mi x3 0)) (E.len (E.cut x1 (E.pl 0 x4) (E.pl (E.pl 0 x4) (E.mi x2 x4))))) (E.len x1)))) (E.pl (E.pl (E.pl 0 0) (E.pl (E.mi x3 0) (E.len (E.cut x1 (E.pl 0 x4) (E.pl (E.pl 0 x4) (E.mi x2 x4)))))) (E.mi x2 (E.pl (E.mi x3 0) (E.len (E.cut x1 (E.pl 0 x4) (E.pl (E.pl 0 x4) (E.mi x2 x4))))))) (E.len (E.cat (E.cut x1 0 (E.pl (E.pl 0 0) (E.mi x3 0))) (E.cat (E.cut x1 (E.pl 0 x4) (E.pl (E.pl 0 x4) (E.mi x2 x4))) (E.cut x1 (E.pl (E.pl (E.pl 0 0) (E.mi x3 0)) (E.len (E.cut x1 (E.pl 0 x4) (E.pl (E.pl 0 x4) (E.mi x2 x4))))) (E.len x1))))))))) ((E.pl 0 0)) ((E.pl (E.mi x3 0) (E.len (E.cut x1 (E.pl 0 x4) (E.pl (E.pl 0 x4) (E.mi x2 x4))))))))))))
theorem w44 {P : Program} {tbl : FuncId → List A → List C} {x1 : List (List C)} {x2 : Int} {x3 : Int} {x4 : Int}  {Q0 : (List (List C)) → (Int) → (Int) → Prop} (h : vc44 (stdE P tbl) x1 x2 x3 x4 Q0) : WEg P tbl rf44 (fun r H' => (∃ l1 : List (List C), ∃ i2 : Int, ∃ i3 : Int, Q0 l1 i2 i3 ∧ r = .own 0 i2 i3 ∧ H' = [.arr 3 [.int .i64] l1])) [.own 0 0 x2, .c (.int .i64 x3), .c (.int .i64 x4)] [.arr 3 [.int .i64] x1] := by
  refine ⟨?_⟩
  revert h
  generalize hE : stdE P tbl = E
  intro h
  unfold vc44 at h
  cbv
  have c4 := h.1
  refine ⟨c4, ?_⟩
  replace h := h.2
  have c5 := h.1
  refine ⟨c5, ?_⟩
  replace h := h.2
  have c6 := h.1
  refine ⟨c6, ?_⟩
  replace h := h.2
  have c7 := h.1
  refine ⟨c7, ?_⟩
  replace h := h.2
  refine ⟨fun hb8 => ?_, fun hb8 => ?_⟩
  · replace h := h.t hb8
    refine ⟨_, _, GFin.of (GSt.ren [0] rfl rfl rfl (by decide) (Nat.le_add_left _ _) ?_ ?_), ⟨_, _, _, h, rfl, rfl⟩⟩
    all_goals (repeat' (first | exact trivial | exact Or.inl rfl | exact Or.inr rfl | refine And.intro ?_ ?_))
  · replace h := h.f hb8
    have c9 := h.1
    refine ⟨c9, ?_⟩
    replace h := h.2
    refine ⟨c4, ?_⟩
    have c10 := h.1
    refine ⟨c10, ?_⟩
    replace h := h.2
    have c11 := h.1
    refine ⟨c11, ?_⟩
    replace h := h.2
    refine ⟨c6, ?_⟩
    have c12 := h.1
    refine ⟨c12, ?_⟩
    replace h := h.2
    have c13 := h.1
    refine ⟨c13, ?_⟩
    replace h := h.2
    have c14 := h.1
    refine ⟨c14, ?_⟩
    replace h := h.2
    have c15 := h.1
    refine ⟨c15, ?_⟩
    replace h := h.2
    have c16 := h.1
    refine ⟨c16, ?_⟩
    replace h := h.2
    refine ⟨_, _, GFin.of (GSt.ren [0] rfl rfl rfl (by decide) (Nat.le_add_left _ _) ?_ ?_), ⟨_, _, _, h, rfl, rfl⟩⟩
    all_goals (repeat' (first | exact trivial | exact Or.inl rfl | exact Or.inr rfl | refine And.intro ?_ ?_))
def vc40 (E : Env) (x1 : List (List C)) (Q0 : (List (List C)) → (Int) → Prop) : Prop :=
  Br (E.lt (E.len x1) 2)
  (Q0 (x1) ((x1.length : Int)))
  (LoopP1 (fun (i3 : Int) (K4 : (Int) → Prop) =>
    Br (E.lt i3 (E.len x1))
      (((E.le 0 i3) = true) ∧ 
        (((E.le 0 (E.sub .i64 i3 1)) = true) ∧ ((E.lt (E.sub .i64 i3 1) (E.len x1)) = true) ∧ 
        (Br (E.eq (E.gi (E.cell x1 i3 0)) (E.gi (E.cell x1 (E.sub .i64 i3 1) 0)))
        (((E.le i3 (E.len x1)) = true) ∧ ((E.le (E.len x1) (E.len x1)) = true) ∧ 
          (LoopP3 (fun (l5 : List (List C)) (i6 : Int) (i7 : Int) (K8 : (List (List C)) → (Int) → (Int) → Prop) =>
          Br (E.lt i7 (E.mi (E.len x1) i3))
            (((E.le 0 i7) = true) ∧ 
              (((E.le 0 (E.sub .i64 i7 1)) = true) ∧ ((E.lt (E.sub .i64 i7 1) (E.mi (E.len x1) i3)) = true) ∧ 
              (Br (E.not (E.eq (E.gi (E.cell l5 (E.pl i3 i7) 0)) (E.gi (E.cell l5 (E.pl i3 (E.sub .i64 i7 1)) 0))))
              (((E.le 0 i6) = true) ∧ ((E.lt i6 (E.len l5)) = true) ∧ 
                (K8 ((E.upd l5 i6 0 (.int .i64 (E.gi (E.cell l5 (E.pl i3 i7) 0))))) ((E.add .i64 i6 1)) ((E.add .i64 i7 1))))
              (K8 (l5) (i6) ((E.add .i64 i7 1))))))
            (((E.le 0 i6) = true) ∧ ((E.le i6 (E.len l5)) = true) ∧ ((E.le (E.len l5) (E.len l5)) = true) ∧ 
              (((E.le 0 0) = true) ∧ ((E.le i6 (E.len (E.cat (E.cut l5 0 i6) (E.cat (E.rep (E.mi (E.len l5) i6) [.int .i64 0]) (E.cut l5 (E.pl i6 (E.mi (E.len l5) i6)) (E.len l5)))))) = true) ∧ 
              (Q0 ((E.cat (E.cut l5 0 i6) (E.cat (E.rep (E.mi (E.len l5) i6) [.int .i64 0]) (E.cut l5 (E.pl i6 (E.mi (E.len l5) i6)) (E.len l5))))) ((E.mi i6 0))))))
          (x1) (i3) (1)))
        (K4 ((E.add .i64 i3 1))))))
      (Q0 (x1) ((x1.length : Int))))
    (1))
theorem w40 {P : Program} {tbl : FuncId → List A → List C} {x1 : List (List C)}  {Q0 : (List (List C)) → (Int) → Prop} (h : vc40 (stdE P tbl) x1 Q0) : WEg P tbl rf40 (fun r H' => (∃ l1 : List (List C), ∃ i2 : Int, Q0 l1 i2 ∧ r = .own 0 0 i2 ∧ H' = [.arr 3 [.int .i64] l1])) [.gr 0] [.arr 3 [.int .i64] x1] := by
  refine ⟨?_⟩
  revert h
  generalize hE : stdE P tbl = E
  intro h
  unfold vc40 at h
  cbv
  refine ⟨fun hb9 => ?_, fun hb9 => ?_⟩
  · replace h := h.t hb9
    refine ⟨_, _, GFin.of (GSt.trans (GSt.grOwn 0 rfl rfl) (GSt.ren [0] rfl rfl rfl (by decide) (Nat.le_add_left _ _) ?_ ?_)), ⟨_, _, h, rfl, rfl⟩⟩
    all_goals (repeat' (first | exact trivial | exact Or.inl rfl | exact Or.inr rfl | refine And.intro ?_ ?_))
  · replace h := h.f hb9
    obtain ⟨I, μ, h0, hI⟩ := h
    refine LoopW.inv (fun R R' s h k => RCode.wp_mono _ R R' s h k) (fun p : Int => (fun (i3 : Int) => (⟨[.gr 0, .u, .u, .c (.int .i64 i3), .u, .u, .u, .u, .u, .u, .u, .u, .u, .u, .u, .u, .u, .u, .u, .u, .u, .u, .u, .u, .u, .u, .u, .u, .u, .u, .u, .u, .u, .u, .u, .u, .u, .u, .u, .u, .u, .u, .u, .u, .u, .u, .u, .u, .u, .u, .u, .u, .u, .u, .u, .u, .u, .u, .u, .u, .u], [.arr 3 [.int .i64] x1]⟩ : St)) p) (fun p => I p) (fun p => μ p) _ h0 ?_ ?_
    · refine GSt.ren [0] rfl rfl rfl (by decide) (Nat.le_add_left _ _) ?_ ?_
      all_goals (repeat' (first | exact trivial | exact Or.inl rfl | exact Or.inr rfl | refine And.intro ?_ ?_))
    · rintro i3 h
      replace h := hI i3 h
      cbv
      refine ⟨fun hb10 => ?_, fun hb10 => ?_⟩
      · replace h := h.t hb10
        have c11 := h.1
        refine ⟨c11, ?_⟩
        replace h := h.2
        refine ⟨hb10, ?_⟩
        have c12 := h.1
        refine ⟨c12, ?_⟩
        replace h := h.2
        have c13 := h.1
        refine ⟨c13, ?_⟩
        replace h := h.2
        refine ⟨fun hb14 => ?_, fun hb14 => ?_⟩
        · replace h := h.t hb14
          refine ⟨c11, ?_⟩
          have c15 := h.1
          refine ⟨c15, ?_⟩
          replace h := h.2
          have c16 := h.1
          refine ⟨c16, ?_⟩
          replace h := h.2
          obtain ⟨I, μ, h0, hI⟩ := h
          refine LoopW.inv (fun R R' s h k => RCode.wp_mono _ R R' s h k) (fun p : List (List C) × Int × Int => (fun (l5 : List (List C)) (i6 : Int) (i7 : Int) => (⟨[.gr 0, .u, .u, .c (.int .i64 i6), .own 0 i3 (E.mi (E.len x1) i3), .c (.int .i64 i7), .u, .u, .u, .u, .u, .u, .u, .u, .u, .u, .u, .u, .u, .u, .u, .u, .u, .u, .u, .u, .u, .u, .u, .u, .u, .u, .u, .u, .u, .u, .u, .u, .u, .u, .u, .u, .u, .u, .u, .u, .u, .u, .u, .u, .u, .u, .u, .u, .u, .u, .u, .u, .u, .u, .u], [.arr 3 [.int .i64] l5]⟩ : St)) p.1 p.2.1 p.2.2) (fun p => I p.1 p.2.1 p.2.2) (fun p => μ p.1 p.2.1 p.2.2) (_, _, _) h0 ?_ ?_
          · refine GSt.ren [0] rfl rfl rfl (by decide) (Nat.le_add_left _ _) ?_ ?_
            all_goals (repeat' (first | exact trivial | exact Or.inl rfl | exact Or.inr rfl | refine And.intro ?_ ?_))
          · rintro ⟨l5, i6, i7⟩ h
            replace h := hI l5 i6 i7 h
            cbv
            refine ⟨fun hb17 => ?_, fun hb17 => ?_⟩
            · replace h := h.t hb17
              have c18 := h.1
              refine ⟨c18, ?_⟩
              replace h := h.2
              refine ⟨hb17, ?_⟩
              have c19 := h.1
              refine ⟨c19, ?_⟩
              replace h := h.2
              have c20 := h.1
              refine ⟨c20, ?_⟩
              replace h := h.2
              refine ⟨fun hb21 => ?_, fun hb21 => ?_⟩
              · replace h := h.t hb21
                refine ⟨c18, ?_⟩
                refine ⟨hb17, ?_⟩
                have c22 := h.1
                refine ⟨c22, ?_⟩
                replace h := h.2
                have c23 := h.1
                refine ⟨c23, ?_⟩
                replace h := h.2
                refine ⟨(_, _, _), h.1, GSt.ren [0] rfl rfl rfl (by decide) (Nat.le_add_left _ _) ?_ ?_, h.2⟩
                all_goals (repeat' (first | exact trivial | exact Or.inl rfl | exact Or.inr rfl | refine And.intro ?_ ?_))
              · replace h := h.f hb21
                refine ⟨(_, _, _), h.1, GSt.ren [0] rfl rfl rfl (by decide) (Nat.le_add_left _ _) ?_ ?_, h.2⟩
                all_goals (repeat' (first | exact trivial | exact Or.inl rfl | exact Or.inr rfl | refine And.intro ?_ ?_))
            · replace h := h.f hb17
              have c24 := h.1
              refine ⟨c24, ?_⟩
              replace h := h.2
              have c25 := h.1
              refine ⟨c25, ?_⟩
              replace h := h.2
              have c26 := h.1
              refine ⟨c26, ?_⟩
              replace h := h.2
              have c27 := h.1
              refine ⟨c27, ?_⟩
              replace h := h.2
              refine ⟨c24, ?_⟩
              have c28 := h.1
              refine ⟨c28, ?_⟩
              replace h := h.2
              refine ⟨_, _, GFin.of (GSt.ren [0] rfl rfl rfl (by decide) (Nat.le_add_left _ _) ?_ ?_), ⟨_, _, h, rfl, rfl⟩⟩
              all_goals (repeat' (first | exact trivial | exact Or.inl rfl | exact Or.inr rfl | refine And.intro ?_ ?_))
        · replace h := h.f hb14
          refine ⟨_, h.1, GSt.ren [0] rfl rfl rfl (by decide) (Nat.le_add_left _ _) ?_ ?_, h.2⟩
          all_goals (repeat' (first | exact trivial | exact Or.inl rfl | exact Or.inr rfl | refine And.intro ?_ ?_))
      · replace h := h.f hb10
        refine ⟨_, _, GFin.of (GSt.trans (GSt.grOwn 0 rfl rfl) (GSt.ren [0] rfl rfl rfl (by decide) (Nat.le_add_left _ _) ?_ ?_)), ⟨_, _, h, rfl, rfl⟩⟩
        all_goals (repeat' (first | exact trivial | exact Or.inl rfl | exact Or.inr rfl | refine And.intro ?_ ?_))
end Go.Proofs.Ytljnpioekbdcaaa.V
