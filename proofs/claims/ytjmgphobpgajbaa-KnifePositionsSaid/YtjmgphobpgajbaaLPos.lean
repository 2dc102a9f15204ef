/- Knives: what Knives returns. No conditions. -/
import Derived.Test.YtjmgphobpgajbaaAw
set_option linter.unusedVariables false
set_option linter.unusedSimpArgs false
namespace Go.Proofs.Ytjmgphobpgajbaa.V
open Go Go.Eng
set_option maxRecDepth 1000000
set_option maxHeartbeats 4000000
/-- papermill papermilllaw49.KnifePositions -/
def rf3 : RFn := ⟨(.seq (.ops 1 [⟨(some 2), (.v (.box 0 24 (.t 0))), none, []⟩, ⟨(some 4), (.v (.mv (.k (.c (.bool false))))), none, []⟩]) (.seq (.seq (.ops 1 [⟨(some 9), (.v (.lda 5 (.t 2))), none, []⟩, ⟨(some 10), (.v (.mv (.t 1))), none, []⟩, ⟨(some 11), (.v (.bsl 0 22 [(.sl [(.int .i64)])] [(.t 10)])), none, []⟩, ⟨(some 12), (.v (.det 10 [⟨false, [.bool]⟩] [(.t 9), (.t 11)])), none, []⟩, ⟨(some 13), (.v (.un .not (.t 12))), none, []⟩]) (.cond (.t 13) (.seq (.ops 0 [⟨(some 14), (.v (.det 11 [⟨false, [.bool]⟩] [])), none, []⟩, ⟨(some 4), (.v (.mv (.t 14))), none, []⟩]) .ret) .skip)) (.seq (.ops 0 [⟨(some 16), (.v (.lda 5 (.t 2))), none, []⟩, ⟨(some 17), (.v (.mv (.t 1))), none, []⟩, ⟨(some 18), (.v (.det 12 [⟨false, [(.sl [(.int .i64)])]⟩, ⟨false, [(.int .i64)]⟩] [(.t 16), (.t 17)])), none, []⟩, ⟨(some 15), (.v (.mv (.t 18))), none, []⟩, ⟨(some 19), (.v (.ext (.t 15) 0)), none, []⟩, ⟨(some 20), (.v (.ext (.t 15) 1)), none, []⟩, ⟨(some 5), (.v (.mv (.t 19))), none, []⟩, ⟨(some 6), (.v (.mv (.t 20))), none, []⟩]) (.seq (.ops 0 [⟨(some 22), (.v (.lda 5 (.t 2))), none, []⟩, ⟨(some 23), (.v (.mv (.t 1))), none, []⟩, ⟨(some 24), (.v (.det 13 [⟨false, [(.sl [(.int .i64)])]⟩, ⟨false, [(.int .i64)]⟩] [(.t 22), (.t 23)])), none, []⟩, ⟨(some 21), (.v (.mv (.t 24))), none, []⟩, ⟨(some 25), (.v (.ext (.t 21) 0)), none, []⟩, ⟨(some 26), (.v (.ext (.t 21) 1)), none, []⟩, ⟨(some 7), (.v (.mv (.t 25))), none, []⟩, ⟨(some 8), (.v (.mv (.t 26))), none, []⟩]) (.seq (.ops 0 [⟨(some 27), (.v (.mv (.t 5))), none, []⟩, ⟨(some 28), (.v (.mv (.t 7))), none, []⟩, ⟨(some 29), (.v (.det 14 [⟨false, [.bool]⟩] [(.t 27), (.t 28)])), none, []⟩, ⟨(some 30), (.v (.mv (.t 29))), none, []⟩, ⟨(some 31), (.v (.mv (.t 6))), (some ⟨30, true⟩), [(.t 6)]⟩, ⟨(some 32), (.v (.mv (.t 8))), (some ⟨30, true⟩), [(.t 8)]⟩, ⟨(some 33), (.v (.bin .eql (.t 31) (.t 32))), (some ⟨30, true⟩), [(.t 31), (.t 32)]⟩, ⟨(some 34), (.v (.pick (.t 30) (.t 33) (.k (.c (.bool false))))), none, []⟩, ⟨(some 35), (.v (.mv (.t 34))), none, []⟩, ⟨(some 36), (.v (.det 11 [⟨false, [.bool]⟩] [])), (some ⟨35, true⟩), [(.k (.fn 11 []))]⟩, ⟨(some 37), (.v (.pick (.t 35) (.t 36) (.k (.c (.bool false))))), none, []⟩, ⟨(some 4), (.v (.mv (.t 37))), none, []⟩]) .ret))))), 38, [(.t 4)]⟩
theorem h3 : fnR Try.prog DD 3 = some rf3 := by kernel_rfl
def vc3 (E : Env) (x1 : Int) (x2 : Int) (x3 : Int) (x4 : Int) (x5 : List (List C)) (x6 : List (List C)) (Q : List C → Prop) : Prop :=
  (E.pok 10 [(false, [.bool])] [.agg [.c (.int .i64 x1), .c (.int .i64 x2), .c (.int .i64 x3), .c (.int .i64 x4), .c (.sl [.int .i64] x5)], .c (.sl [.sl [.int .i64]] [[.sl [.int .i64] x6]])]) ∧ (∀ r7 : Nat → C, r7 = E.res 10 [.agg [.c (.int .i64 x1), .c (.int .i64 x2), .c (.int .i64 x3), .c (.int .i64 x4), .c (.sl [.int .i64] x5)], .c (.sl [.sl [.int .i64]] [[.sl [.int .i64] x6]])] → 
  (Br (E.not (E.gb (r7 0)))
  ((E.pok 11 [(false, [.bool])] []) ∧ (∀ r8 : Nat → C, r8 = E.res 11 [] → 
    (Q [.bool (E.gb (r8 0))])))
  ((E.pok 12 [(false, [.sl [.int .i64]]), (false, [.int .i64])] [.agg [.c (.int .i64 x1), .c (.int .i64 x2), .c (.int .i64 x3), .c (.int .i64 x4), .c (.sl [.int .i64] x5)], .c (.sl [.int .i64] x6)]) ∧ (∀ r9 : Nat → C, r9 = E.res 12 [.agg [.c (.int .i64 x1), .c (.int .i64 x2), .c (.int .i64 x3), .c (.int .i64 x4), .c (.sl [.int .i64] x5)], .c (.sl [.int .i64] x6)] → 
    ((E.pok 13 [(false, [.sl [.int .i64]]), (false, [.int .i64])] [.agg [.c (.int .i64 x1), .c (.int .i64 x2), .c (.int .i64 x3), .c (.int .i64 x4), .c (.sl [.int .i64] x5)], .c (.sl [.int .i64] x6)]) ∧ (∀ r10 : Nat → C, r10 = E.res 13 [.agg [.c (.int .i64 x1), .c (.int .i64 x2), .c (.int .i64 x3), .c (.int .i64 x4), .c (.sl [.int .i64] x5)], .c (.sl [.int .i64] x6)] → 
    ((E.pok 14 [(false, [.bool])] [.c (.sl [.int .i64] (E.gl (r9 0))), .c (.sl [.int .i64] (E.gl (r10 0)))]) ∧ (∀ r11 : Nat → C, r11 = E.res 14 [.c (.sl [.int .i64] (E.gl (r9 0))), .c (.sl [.int .i64] (E.gl (r10 0)))] → 
    ((Imp (E.bite (E.gb (r11 0)) (E.eq (E.gi (r9 1)) (E.gi (r10 1))) false) (E.pok 11 [(false, [.bool])] [])) ∧ (∀ r12 : Nat → C, r12 = E.res 11 [] → 
    (Q [.bool (E.bite (E.bite (E.gb (r11 0)) (E.eq (E.gi (r9 1)) (E.gi (r10 1))) false) (E.gb (r12 0)) false)])))))))))))
theorem w3 {P : Program} {tbl : FuncId → List A → List C}  {x1 : Int} {x2 : Int} {x3 : Int} {x4 : Int} {x5 : List (List C)} {x6 : List (List C)} {row : List C} (h : vc3 (stdE P tbl) x1 x2 x3 x4 x5 x6 fun c => c = row) : WPg P tbl rf3 [(false, [.bool])] row [.agg [.c (.int .i64 x1), .c (.int .i64 x2), .c (.int .i64 x3), .c (.int .i64 x4), .c (.sl [.int .i64] x5)], .c (.sl [.int .i64] x6)] := by
  refine ⟨?_⟩
  revert h
  generalize hE : stdE P tbl = E
  intro h
  unfold vc3 at h
  cbv
  have c13 := h.1
  refine ⟨c13, ?_⟩
  replace h := h.2 _ rfl
  refine ⟨fun hb14 => ?_, fun hb14 => ?_⟩
  · replace h := h.t hb14
    have c15 := h.1
    refine ⟨c15, ?_⟩
    replace h := h.2 _ rfl
    have h : _ = row := h
    subst h
    repeat' (first | exact trivial | exact rfl | refine And.intro ?_ ?_)
  · replace h := h.f hb14
    have c16 := h.1
    refine ⟨c16, ?_⟩
    replace h := h.2 _ rfl
    have c17 := h.1
    refine ⟨c17, ?_⟩
    replace h := h.2 _ rfl
    have c18 := h.1
    refine ⟨c18, ?_⟩
    replace h := h.2 _ rfl
    refine ⟨⟨fun hh => (by first | exact hh | trivial)⟩, ?_⟩
    refine ⟨⟨fun hh => (by first | exact hh | trivial)⟩, ?_⟩
    refine ⟨⟨fun hh => (by first | exact hh | trivial)⟩, ?_⟩
    have c19 := h.1
    refine ⟨c19, ?_⟩
    replace h := h.2 _ rfl
    refine ⟨⟨fun hh => (by first | exact hh | trivial)⟩, ?_⟩
    have h : _ = row := h
    subst h
    repeat' (first | exact trivial | exact rfl | refine And.intro ?_ ?_)
def S3 : List A → List C := fun _ => [.bool true]
def tbl3 : FuncId → List A → List C := fun f ds => match f with
  | 10 => S10 ds
  | 11 => S11 ds
  | 12 => S12 ds
  | 13 => S13 ds
  | 14 => S14 ds
  | _ => []
theorem pc3  {x1 : Int} {x2 : Int} {x3 : Int} {x4 : Int} {x5 : List (List C)} {x6 : List (List C)} {row : List C} (hS : S3 [.agg [.c (.int .i64 x1), .c (.int .i64 x2), .c (.int .i64 x3), .c (.int .i64 x4), .c (.sl [.int .i64] x5)], .c (.sl [.int .i64] x6)] = row) (h : vc3 (stdE Try.prog tbl3) x1 x2 x3 x4 x5 x6 fun c => c = row) : PCg Try.prog 3 S3 [(false, [.bool])] [.agg [.c (.int .i64 x1), .c (.int .i64 x2), .c (.int .i64 x3), .c (.int .i64 x4), .c (.sl [.int .i64] x5)], .c (.sl [.int .i64] x6)] := PureC_vc mo h3 (by kernel_rfl) hS (w3  h)
theorem p3 (w e t k : Int) (ss c : List Int) : PureC Try.prog 3 [kB] [dk w e t k ss, sI (rowsI c)] fun _ => .bool true := by
  refine PureC.one (get := fun i => (S3 [dk w e t k ss, sI (rowsI c)]).getD i .nil) (pc3 (row := [.bool true]) rfl ?_) rfl
  unfold vc3
  have hrow : ([[C.sl [.int .i64] (rowsI c)]] : List (List C)) = rowL [c] := rfl
  simp only [stdE, baseE, Br_iff, Imp_iff, tbl3, forall_eq, hrow]
  simp only [p10, p11, implies_true, true_and]
  simp only [e10, e11, List.getD_cons_zero, gb_bool]
  cases h : lightB ss [c] with
  | false => simp
  | true =>
    have hc : c.length ≤ 20 := (light_spec h).2 c (by simp)
    refine ⟨fun q => by simp at q, fun _ => ⟨p12 w e t k ss (by omega), p13 w e t k ss (by omega), ?_⟩⟩
    simp only [e12, e13, knV, List.getD_cons_zero, List.getD_cons_succ, gi_int, gl_sl]
    have hq := (knL_lt w e t k ss c).2
    refine ⟨p14 (by omega) _, ?_⟩
    simp only [e14, List.getD_cons_zero, gb_bool]
    simp
end Go.Proofs.Ytjmgphobpgajbaa.V
