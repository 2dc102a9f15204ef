/- Knives: what Sequence returns. No conditions. -/
import Derived.Test.YtjmgphobpgajbaaAw
set_option linter.unusedVariables false
set_option linter.unusedSimpArgs false
namespace Go.Proofs.Ytjmgphobpgajbaa.V
open Go Go.Eng
set_option maxRecDepth 1000000
set_option maxHeartbeats 4000000
/-- papermill papermilllaw49.KnifeSequences -/
def rf5 : RFn := ⟨(.seq (.ops 1 [⟨(some 2), (.v (.box 0 24 (.t 0))), none, []⟩, ⟨(some 4), (.v (.mv (.k (.c (.bool false))))), none, []⟩]) (.seq (.seq (.ops 0 [⟨(some 11), (.v (.lda 5 (.t 2))), none, []⟩, ⟨(some 12), (.v (.mv (.t 1))), none, []⟩, ⟨(some 13), (.v (.det 10 [⟨false, [.bool]⟩] [(.t 11), (.t 12)])), none, []⟩, ⟨(some 14), (.v (.un .not (.t 13))), none, []⟩, ⟨(some 15), (.v (.mv (.t 14))), none, []⟩, ⟨(some 16), (.v (.mv (.t 1))), (some ⟨15, false⟩), [(.t 1)]⟩, ⟨(some 17), (.v (.lenS (.t 16))), (some ⟨15, false⟩), [(.t 16)]⟩, ⟨(some 18), (.v (.bin .gtr (.t 17) (.k (.c (.int .i64 5))))), (some ⟨15, false⟩), [(.t 17), (.k (.c (.int .i64 5)))]⟩, ⟨(some 19), (.v (.mv (.t 18))), (some ⟨15, false⟩), [(.t 18)]⟩, ⟨(some 20), (.v (.mv (.t 1))), (some ⟨19, true⟩), [(.t 1)]⟩, ⟨(some 21), (.v (.lenS (.t 20))), (some ⟨19, true⟩), [(.t 20)]⟩, ⟨(some 22), (.v (.bin .leq (.t 21) (.k (.c (.int .i64 8))))), (some ⟨19, true⟩), [(.t 21), (.k (.c (.int .i64 8)))]⟩, ⟨(some 23), (.v (.pick (.t 19) (.t 22) (.k (.c (.bool false))))), (some ⟨15, false⟩), [(.t 19), (.t 22), (.k (.c (.bool false)))]⟩, ⟨(some 24), (.v (.pick (.t 15) (.k (.c (.bool true))) (.t 23))), none, []⟩]) (.cond (.t 24) (.seq (.ops 0 [⟨(some 25), (.v (.det 11 [⟨false, [.bool]⟩] [])), none, []⟩, ⟨(some 4), (.v (.mv (.t 25))), none, []⟩]) .ret) .skip)) (.seq (.ops 0 [⟨(some 27), (.v (.lda 5 (.t 2))), none, []⟩, ⟨(some 28), (.v (.mv (.t 1))), none, []⟩, ⟨(some 29), (.v (.det 17 [⟨false, [(.sl [(.int .i64)])]⟩, ⟨false, [(.int .i64)]⟩, ⟨false, [(.int .i64)]⟩] [(.t 27), (.t 28)])), none, []⟩, ⟨(some 26), (.v (.mv (.t 29))), none, []⟩, ⟨(some 30), (.v (.ext (.t 26) 0)), none, []⟩, ⟨(some 31), (.v (.ext (.t 26) 1)), none, []⟩, ⟨(some 32), (.v (.ext (.t 26) 2)), none, []⟩, ⟨(some 5), (.v (.mv (.t 30))), none, []⟩, ⟨(some 6), (.v (.mv (.t 31))), none, []⟩, ⟨(some 7), (.v (.mv (.t 32))), none, []⟩]) (.seq (.ops 0 [⟨(some 34), (.v (.lda 5 (.t 2))), none, []⟩, ⟨(some 35), (.v (.mv (.t 1))), none, []⟩, ⟨(some 36), (.v (.det 18 [⟨false, [(.sl [(.int .i64)])]⟩, ⟨false, [(.int .i64)]⟩, ⟨false, [(.int .i64)]⟩] [(.t 34), (.t 35)])), none, []⟩, ⟨(some 33), (.v (.mv (.t 36))), none, []⟩, ⟨(some 37), (.v (.ext (.t 33) 0)), none, []⟩, ⟨(some 38), (.v (.ext (.t 33) 1)), none, []⟩, ⟨(some 39), (.v (.ext (.t 33) 2)), none, []⟩, ⟨(some 8), (.v (.mv (.t 37))), none, []⟩, ⟨(some 9), (.v (.mv (.t 38))), none, []⟩, ⟨(some 10), (.v (.mv (.t 39))), none, []⟩]) (.seq (.ops 0 [⟨(some 40), (.v (.mv (.t 5))), none, []⟩, ⟨(some 41), (.v (.mv (.t 8))), none, []⟩, ⟨(some 42), (.v (.det 14 [⟨false, [.bool]⟩] [(.t 40), (.t 41)])), none, []⟩, ⟨(some 43), (.v (.mv (.t 42))), none, []⟩, ⟨(some 44), (.v (.mv (.t 6))), (some ⟨43, true⟩), [(.t 6)]⟩, ⟨(some 45), (.v (.mv (.t 9))), (some ⟨43, true⟩), [(.t 9)]⟩, ⟨(some 46), (.v (.bin .eql (.t 44) (.t 45))), (some ⟨43, true⟩), [(.t 44), (.t 45)]⟩, ⟨(some 47), (.v (.pick (.t 43) (.t 46) (.k (.c (.bool false))))), none, []⟩, ⟨(some 48), (.v (.mv (.t 47))), none, []⟩, ⟨(some 49), (.v (.mv (.t 7))), (some ⟨48, true⟩), [(.t 7)]⟩, ⟨(some 50), (.v (.mv (.t 10))), (some ⟨48, true⟩), [(.t 10)]⟩, ⟨(some 51), (.v (.bin .eql (.t 49) (.t 50))), (some ⟨48, true⟩), [(.t 49), (.t 50)]⟩, ⟨(some 52), (.v (.pick (.t 48) (.t 51) (.k (.c (.bool false))))), none, []⟩, ⟨(some 53), (.v (.mv (.t 52))), none, []⟩, ⟨(some 54), (.v (.det 11 [⟨false, [.bool]⟩] [])), (some ⟨53, true⟩), [(.k (.fn 11 []))]⟩, ⟨(some 55), (.v (.pick (.t 53) (.t 54) (.k (.c (.bool false))))), none, []⟩, ⟨(some 4), (.v (.mv (.t 55))), none, []⟩]) .ret))))), 56, [(.t 4)]⟩
theorem h5 : fnR Try.prog DD 5 = some rf5 := by kernel_rfl
def vc5 (E : Env) (x1 : Int) (x2 : Int) (x3 : Int) (x4 : Int) (x5 : List (List C)) (x6 : List (List C)) (Q : List C → Prop) : Prop :=
  (E.pok 10 [(false, [.bool])] [.agg [.c (.int .i64 x1), .c (.int .i64 x2), .c (.int .i64 x3), .c (.int .i64 x4), .c (.sl [.int .i64] x5)], .c (.sl [.sl [.int .i64]] x6)]) ∧ (∀ r7 : Nat → C, r7 = E.res 10 [.agg [.c (.int .i64 x1), .c (.int .i64 x2), .c (.int .i64 x3), .c (.int .i64 x4), .c (.sl [.int .i64] x5)], .c (.sl [.sl [.int .i64]] x6)] → 
  ((Imp (E.not (E.not (E.gb (r7 0)))) (Imp (E.lt 5 (E.len x6)) ((E.and (E.not (E.not (E.gb (r7 0)))) (E.lt 5 (E.len x6))) = true))) ∧ 
  (Br (E.bite (E.not (E.gb (r7 0))) true (E.bite (E.lt 5 (E.len x6)) (E.le (E.len x6) 8) false))
  ((E.pok 11 [(false, [.bool])] []) ∧ (∀ r8 : Nat → C, r8 = E.res 11 [] → 
    (Q [.bool (E.gb (r8 0))])))
  ((E.pok 17 [(false, [.sl [.int .i64]]), (false, [.int .i64]), (false, [.int .i64])] [.agg [.c (.int .i64 x1), .c (.int .i64 x2), .c (.int .i64 x3), .c (.int .i64 x4), .c (.sl [.int .i64] x5)], .c (.sl [.sl [.int .i64]] x6)]) ∧ (∀ r9 : Nat → C, r9 = E.res 17 [.agg [.c (.int .i64 x1), .c (.int .i64 x2), .c (.int .i64 x3), .c (.int .i64 x4), .c (.sl [.int .i64] x5)], .c (.sl [.sl [.int .i64]] x6)] → 
    ((E.pok 18 [(false, [.sl [.int .i64]]), (false, [.int .i64]), (false, [.int .i64])] [.agg [.c (.int .i64 x1), .c (.int .i64 x2), .c (.int .i64 x3), .c (.int .i64 x4), .c (.sl [.int .i64] x5)], .c (.sl [.sl [.int .i64]] x6)]) ∧ (∀ r10 : Nat → C, r10 = E.res 18 [.agg [.c (.int .i64 x1), .c (.int .i64 x2), .c (.int .i64 x3), .c (.int .i64 x4), .c (.sl [.int .i64] x5)], .c (.sl [.sl [.int .i64]] x6)] → 
    ((E.pok 14 [(false, [.bool])] [.c (.sl [.int .i64] (E.gl (r9 0))), .c (.sl [.int .i64] (E.gl (r10 0)))]) ∧ (∀ r11 : Nat → C, r11 = E.res 14 [.c (.sl [.int .i64] (E.gl (r9 0))), .c (.sl [.int .i64] (E.gl (r10 0)))] → 
    ((Imp (E.bite (E.bite (E.gb (r11 0)) (E.eq (E.gi (r9 1)) (E.gi (r10 1))) false) (E.eq (E.gi (r9 2)) (E.gi (r10 2))) false) (E.pok 11 [(false, [.bool])] [])) ∧ (∀ r12 : Nat → C, r12 = E.res 11 [] → 
    (Q [.bool (E.bite (E.bite (E.bite (E.gb (r11 0)) (E.eq (E.gi (r9 1)) (E.gi (r10 1))) false) (E.eq (E.gi (r9 2)) (E.gi (r10 2))) false) (E.gb (r12 0)) false)]))))))))))))
theorem w5 {P : Program} {tbl : FuncId → List A → List C}  {x1 : Int} {x2 : Int} {x3 : Int} {x4 : Int} {x5 : List (List C)} {x6 : List (List C)} {row : List C} (h : vc5 (stdE P tbl) x1 x2 x3 x4 x5 x6 fun c => c = row) : WPg P tbl rf5 [(false, [.bool])] row [.agg [.c (.int .i64 x1), .c (.int .i64 x2), .c (.int .i64 x3), .c (.int .i64 x4), .c (.sl [.int .i64] x5)], .c (.sl [.sl [.int .i64]] x6)] := by
  refine ⟨?_⟩
  revert h
  generalize hE : stdE P tbl = E
  intro h
  unfold vc5 at h
  cbv
  have c13 := h.1
  refine ⟨c13, ?_⟩
  replace h := h.2 _ rfl
  refine ⟨⟨fun hh => (by first | exact hh | trivial)⟩, ?_⟩
  refine ⟨⟨fun hh => (by first | exact hh | trivial)⟩, ?_⟩
  refine ⟨⟨fun hh => (by first | exact hh | trivial)⟩, ?_⟩
  refine ⟨⟨fun hh => (by first | exact hh | trivial)⟩, ?_⟩
  refine ⟨⟨fun hh => (by first | exact hh | trivial)⟩, ?_⟩
  refine ⟨⟨fun hh => (by first | exact hh | trivial)⟩, ?_⟩
  have c14 := h.1
  refine ⟨c14, ?_⟩
  replace h := h.2
  refine ⟨⟨fun hh => (by first | exact hh | trivial)⟩, ?_⟩
  refine ⟨fun hb15 => ?_, fun hb15 => ?_⟩
  · replace h := h.t hb15
    have c16 := h.1
    refine ⟨c16, ?_⟩
    replace h := h.2 _ rfl
    have h : _ = row := h
    subst h
    repeat' (first | exact trivial | exact rfl | refine And.intro ?_ ?_)
  · replace h := h.f hb15
    have c17 := h.1
    refine ⟨c17, ?_⟩
    replace h := h.2 _ rfl
    have c18 := h.1
    refine ⟨c18, ?_⟩
    replace h := h.2 _ rfl
    have c19 := h.1
    refine ⟨c19, ?_⟩
    replace h := h.2 _ rfl
    refine ⟨⟨fun hh => (by first | exact hh | trivial)⟩, ?_⟩
    refine ⟨⟨fun hh => (by first | exact hh | trivial)⟩, ?_⟩
    refine ⟨⟨fun hh => (by first | exact hh | trivial)⟩, ?_⟩
    refine ⟨⟨fun hh => (by first | exact hh | trivial)⟩, ?_⟩
    refine ⟨⟨fun hh => (by first | exact hh | trivial)⟩, ?_⟩
    refine ⟨⟨fun hh => (by first | exact hh | trivial)⟩, ?_⟩
    have c20 := h.1
    refine ⟨c20, ?_⟩
    replace h := h.2 _ rfl
    refine ⟨⟨fun hh => (by first | exact hh | trivial)⟩, ?_⟩
    have h : _ = row := h
    subst h
    repeat' (first | exact trivial | exact rfl | refine And.intro ?_ ?_)
def S5 : List A → List C := fun _ => [.bool true]
def tbl5 : FuncId → List A → List C := fun f ds => match f with
  | 10 => S10 ds
  | 11 => S11 ds
  | 14 => S14 ds
  | 17 => S17 ds
  | 18 => S18 ds
  | _ => []
theorem pc5  {x1 : Int} {x2 : Int} {x3 : Int} {x4 : Int} {x5 : List (List C)} {x6 : List (List C)} {row : List C} (hS : S5 [.agg [.c (.int .i64 x1), .c (.int .i64 x2), .c (.int .i64 x3), .c (.int .i64 x4), .c (.sl [.int .i64] x5)], .c (.sl [.sl [.int .i64]] x6)] = row) (h : vc5 (stdE Try.prog tbl5) x1 x2 x3 x4 x5 x6 fun c => c = row) : PCg Try.prog 5 S5 [(false, [.bool])] [.agg [.c (.int .i64 x1), .c (.int .i64 x2), .c (.int .i64 x3), .c (.int .i64 x4), .c (.sl [.int .i64] x5)], .c (.sl [.sl [.int .i64]] x6)] := PureC_vc mo h5 (by kernel_rfl) hS (w5  h)
theorem sqV_shape (w e t k : Int) (ss : List Int) (l : List (List Int)) : ∃ x n z, sqV w e t k ss l = [.sl [.int .i64] (rowsI x), .int .i64 n, .int .i64 z] ∧ x.length ≤ 1000000 := by
  unfold sqV
  split
  · rename_i h
    have h8 := allE_ok h
    obtain ⟨r, t1, t2, _⟩ := sqT_spec (allP_ok w e t k ss l).2
    have hl := t2.length_eq
    rw [rgI_len, allP_len] at hl
    exact ⟨_, _, _, rfl, by rw [t1, List.tail_cons]; omega⟩
  · exact ⟨[], _, _, rfl, by simp⟩
theorem p5 (w e t k : Int) (ss : List Int) (l : List (List Int)) : PureC Try.prog 5 [kB] [dk w e t k ss, sL (rowL l)] fun _ => .bool true := by
  refine PureC.one (get := fun i => (S5 [dk w e t k ss, sL (rowL l)]).getD i .nil) (pc5 (row := [.bool true]) rfl ?_) rfl
  unfold vc5
  simp only [stdE, baseE, Br_iff, Imp_iff, tbl5, forall_eq, rowL_len]
  simp only [p10, p11, implies_true, true_and]
  simp only [e10, e11, List.getD_cons_zero, gb_bool]
  cases h : lightB ss l with
  | false => simp
  | true =>
    have hl : ∀ c ∈ l, c.length ≤ 1000000 := fun c hc => by have := (light_spec h).2 c hc; omega
    refine ⟨fun q1 q2 => by simp at q2 ⊢; exact q2, fun q => trivial, fun _ => ⟨p17 w e t k ss hl, p18 w e t k ss hl, ?_⟩⟩
    simp only [e17, e18]
    obtain ⟨x, n, z, hv, hx⟩ := sqV_shape w e t k ss l
    simp only [hv, List.getD_cons_zero, List.getD_cons_succ, gi_int, gl_sl]
    refine ⟨p14 hx _, ?_⟩
    simp only [e14, List.getD_cons_zero, gb_bool]
    simp
end Go.Proofs.Ytjmgphobpgajbaa.V
