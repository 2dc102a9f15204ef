/- Knives: the cost of two patterns. No conditions. -/
import Derived.Test.YtjmgphobpgajbaaAw
set_option linter.unusedVariables false
set_option linter.unusedSimpArgs false
namespace Go.Proofs.Ytjmgphobpgajbaa.V
open Go Go.Eng
set_option maxRecDepth 1000000
set_option maxHeartbeats 4000000
/-- papermill papermilllaw49.KnifeTurns -/
def rf9 : RFn := ⟨(.seq (.ops 1 [⟨(some 3), (.v (.box 0 24 (.t 0))), none, []⟩, ⟨(some 6), (.v (.mv (.k (.c (.bool false))))), none, []⟩]) (.seq (.seq (.ops 1 [⟨(some 13), (.v (.lda 5 (.t 3))), none, []⟩, ⟨(some 14), (.v (.mv (.t 1))), none, []⟩, ⟨(some 15), (.v (.mv (.t 2))), none, []⟩, ⟨(some 16), (.v (.bsl 0 22 [(.sl [(.int .i64)])] [(.t 14), (.t 15)])), none, []⟩, ⟨(some 17), (.v (.det 10 [⟨false, [.bool]⟩] [(.t 13), (.t 16)])), none, []⟩, ⟨(some 18), (.v (.un .not (.t 17))), none, []⟩]) (.cond (.t 18) (.seq (.ops 0 [⟨(some 19), (.v (.det 11 [⟨false, [.bool]⟩] [])), none, []⟩, ⟨(some 6), (.v (.mv (.t 19))), none, []⟩]) .ret) .skip)) (.seq (.ops 0 [⟨(some 21), (.v (.lda 5 (.t 3))), none, []⟩, ⟨(some 22), (.v (.mv (.t 1))), none, []⟩, ⟨(some 23), (.v (.det 12 [⟨false, [(.sl [(.int .i64)])]⟩, ⟨false, [(.int .i64)]⟩] [(.t 21), (.t 22)])), none, []⟩, ⟨(some 20), (.v (.mv (.t 23))), none, []⟩, ⟨(some 24), (.v (.ext (.t 20) 0)), none, []⟩, ⟨(some 25), (.v (.ext (.t 20) 1)), none, []⟩, ⟨(some 7), (.v (.mv (.t 24))), none, []⟩, ⟨(some 8), (.v (.mv (.t 25))), none, []⟩]) (.seq (.ops 0 [⟨(some 27), (.v (.lda 5 (.t 3))), none, []⟩, ⟨(some 28), (.v (.mv (.t 1))), none, []⟩, ⟨(some 29), (.v (.mv (.t 2))), none, []⟩, ⟨(some 30), (.v (.det 15 [⟨false, [(.int .i64)]⟩, ⟨false, [(.int .i64)]⟩] [(.t 27), (.t 28), (.t 29)])), none, []⟩, ⟨(some 26), (.v (.mv (.t 30))), none, []⟩, ⟨(some 31), (.v (.ext (.t 26) 0)), none, []⟩, ⟨(some 32), (.v (.ext (.t 26) 1)), none, []⟩, ⟨(some 9), (.v (.mv (.t 31))), none, []⟩, ⟨(some 10), (.v (.mv (.t 32))), none, []⟩]) (.seq (.ops 2 [⟨(some 34), (.v (.lda 5 (.t 3))), none, []⟩, ⟨(some 35), (.v (.mv (.t 1))), none, []⟩, ⟨(some 36), (.v (.mv (.t 2))), none, []⟩, ⟨(some 37), (.v (.bsl 0 22 [(.sl [(.int .i64)])] [(.t 35), (.t 36)])), none, []⟩, ⟨(some 38), (.v (.bsl 1 3 [(.int .i64)] [(.k (.c (.int .i64 0))), (.k (.c (.int .i64 1)))])), none, []⟩, ⟨(some 39), (.v (.det 19 [⟨false, [(.int .i64)]⟩, ⟨false, [(.int .i64)]⟩] [(.t 34), (.t 37), (.t 38)])), none, []⟩, ⟨(some 33), (.v (.mv (.t 39))), none, []⟩, ⟨(some 40), (.v (.ext (.t 33) 0)), none, []⟩, ⟨(some 41), (.v (.ext (.t 33) 1)), none, []⟩, ⟨(some 11), (.v (.mv (.t 40))), none, []⟩, ⟨(some 12), (.v (.mv (.t 41))), none, []⟩]) (.seq (.seq (.ops 0 [⟨(some 42), (.v (.mv (.t 8))), none, []⟩, ⟨(some 43), (.v (.bin .neq (.t 42) (.k (.c (.int .i64 0))))), none, []⟩, ⟨(some 44), (.v (.mv (.t 43))), none, []⟩, ⟨(some 45), (.v (.mv (.t 10))), (some ⟨44, false⟩), [(.t 10)]⟩, ⟨(some 46), (.v (.bin .neq (.t 45) (.k (.c (.int .i64 0))))), (some ⟨44, false⟩), [(.t 45), (.k (.c (.int .i64 0)))]⟩, ⟨(some 47), (.v (.pick (.t 44) (.k (.c (.bool true))) (.t 46))), none, []⟩]) (.cond (.t 47) (.seq (.ops 0 [⟨(some 48), (.v (.mv (.t 12))), none, []⟩, ⟨(some 49), (.v (.bin .neq (.t 48) (.k (.c (.int .i64 0))))), none, []⟩, ⟨(some 50), (.v (.mv (.t 49))), none, []⟩, ⟨(some 51), (.v (.det 11 [⟨false, [.bool]⟩] [])), (some ⟨50, true⟩), [(.k (.fn 11 []))]⟩, ⟨(some 52), (.v (.pick (.t 50) (.t 51) (.k (.c (.bool false))))), none, []⟩, ⟨(some 6), (.v (.mv (.t 52))), none, []⟩]) .ret) .skip)) (.seq (.ops 0 [⟨(some 53), (.v (.mv (.t 12))), none, []⟩, ⟨(some 54), (.v (.bin .eql (.t 53) (.k (.c (.int .i64 0))))), none, []⟩, ⟨(some 55), (.v (.mv (.t 54))), none, []⟩, ⟨(some 56), (.v (.mv (.t 11))), (some ⟨55, true⟩), [(.t 11)]⟩, ⟨(some 57), (.v (.mv (.t 7))), (some ⟨55, true⟩), [(.t 7)]⟩, ⟨(some 58), (.v (.lenS (.t 57))), (some ⟨55, true⟩), [(.t 57)]⟩, ⟨(some 59), (.v (.mv (.t 9))), (some ⟨55, true⟩), [(.t 9)]⟩, ⟨(some 60), (.v (.bin .add (.t 58) (.t 59))), (some ⟨55, true⟩), [(.t 58), (.t 59)]⟩, ⟨(some 61), (.v (.bin .eql (.t 56) (.t 60))), (some ⟨55, true⟩), [(.t 56), (.t 60)]⟩, ⟨(some 62), (.v (.pick (.t 55) (.t 61) (.k (.c (.bool false))))), none, []⟩, ⟨(some 63), (.v (.mv (.t 62))), none, []⟩, ⟨(some 64), (.v (.det 11 [⟨false, [.bool]⟩] [])), (some ⟨63, true⟩), [(.k (.fn 11 []))]⟩, ⟨(some 65), (.v (.pick (.t 63) (.t 64) (.k (.c (.bool false))))), none, []⟩, ⟨(some 6), (.v (.mv (.t 65))), none, []⟩]) .ret))))))), 66, [(.t 6)]⟩
theorem h9 : fnR Try.prog DD 9 = some rf9 := by kernel_rfl
def vc9 (E : Env) (x1 : Int) (x2 : Int) (x3 : Int) (x4 : Int) (x5 : List (List C)) (x6 : List (List C)) (x7 : List (List C)) (Q : List C → Prop) : Prop :=
  (E.pok 10 [(false, [.bool])] [.agg [.c (.int .i64 x1), .c (.int .i64 x2), .c (.int .i64 x3), .c (.int .i64 x4), .c (.sl [.int .i64] x5)], .c (.sl [.sl [.int .i64]] [[.sl [.int .i64] x6], [.sl [.int .i64] x7]])]) ∧ (∀ r8 : Nat → C, r8 = E.res 10 [.agg [.c (.int .i64 x1), .c (.int .i64 x2), .c (.int .i64 x3), .c (.int .i64 x4), .c (.sl [.int .i64] x5)], .c (.sl [.sl [.int .i64]] [[.sl [.int .i64] x6], [.sl [.int .i64] x7]])] → 
  (Br (E.not (E.gb (r8 0)))
  ((E.pok 11 [(false, [.bool])] []) ∧ (∀ r9 : Nat → C, r9 = E.res 11 [] → 
    (Q [.bool (E.gb (r9 0))])))
  ((E.pok 12 [(false, [.sl [.int .i64]]), (false, [.int .i64])] [.agg [.c (.int .i64 x1), .c (.int .i64 x2), .c (.int .i64 x3), .c (.int .i64 x4), .c (.sl [.int .i64] x5)], .c (.sl [.int .i64] x6)]) ∧ (∀ r10 : Nat → C, r10 = E.res 12 [.agg [.c (.int .i64 x1), .c (.int .i64 x2), .c (.int .i64 x3), .c (.int .i64 x4), .c (.sl [.int .i64] x5)], .c (.sl [.int .i64] x6)] → 
    ((E.pok 15 [(false, [.int .i64]), (false, [.int .i64])] [.agg [.c (.int .i64 x1), .c (.int .i64 x2), .c (.int .i64 x3), .c (.int .i64 x4), .c (.sl [.int .i64] x5)], .c (.sl [.int .i64] x6), .c (.sl [.int .i64] x7)]) ∧ (∀ r11 : Nat → C, r11 = E.res 15 [.agg [.c (.int .i64 x1), .c (.int .i64 x2), .c (.int .i64 x3), .c (.int .i64 x4), .c (.sl [.int .i64] x5)], .c (.sl [.int .i64] x6), .c (.sl [.int .i64] x7)] → 
    ((E.pok 19 [(false, [.int .i64]), (false, [.int .i64])] [.agg [.c (.int .i64 x1), .c (.int .i64 x2), .c (.int .i64 x3), .c (.int .i64 x4), .c (.sl [.int .i64] x5)], .c (.sl [.sl [.int .i64]] [[.sl [.int .i64] x6], [.sl [.int .i64] x7]]), .c (.sl [.int .i64] [[.int .i64 0], [.int .i64 1]])]) ∧ (∀ r12 : Nat → C, r12 = E.res 19 [.agg [.c (.int .i64 x1), .c (.int .i64 x2), .c (.int .i64 x3), .c (.int .i64 x4), .c (.sl [.int .i64] x5)], .c (.sl [.sl [.int .i64]] [[.sl [.int .i64] x6], [.sl [.int .i64] x7]]), .c (.sl [.int .i64] [[.int .i64 0], [.int .i64 1]])] → 
    (Br (E.bite (E.not (E.eq (E.gi (r10 1)) 0)) true (E.not (E.eq (E.gi (r11 1)) 0)))
    ((Imp (E.not (E.eq (E.gi (r12 1)) 0)) (E.pok 11 [(false, [.bool])] [])) ∧ (∀ r13 : Nat → C, r13 = E.res 11 [] → 
      (Q [.bool (E.bite (E.not (E.eq (E.gi (r12 1)) 0)) (E.gb (r13 0)) false)])))
    ((Imp (E.bite (E.eq (E.gi (r12 1)) 0) (E.eq (E.gi (r12 0)) (E.add .i64 (E.len (E.gl (r10 0))) (E.gi (r11 0)))) false) (E.pok 11 [(false, [.bool])] [])) ∧ (∀ r14 : Nat → C, r14 = E.res 11 [] → 
      (Q [.bool (E.bite (E.bite (E.eq (E.gi (r12 1)) 0) (E.eq (E.gi (r12 0)) (E.add .i64 (E.len (E.gl (r10 0))) (E.gi (r11 0)))) false) (E.gb (r14 0)) false)]))))))))))))
theorem w9 {P : Program} {tbl : FuncId → List A → List C}  {x1 : Int} {x2 : Int} {x3 : Int} {x4 : Int} {x5 : List (List C)} {x6 : List (List C)} {x7 : List (List C)} {row : List C} (h : vc9 (stdE P tbl) x1 x2 x3 x4 x5 x6 x7 fun c => c = row) : WPg P tbl rf9 [(false, [.bool])] row [.agg [.c (.int .i64 x1), .c (.int .i64 x2), .c (.int .i64 x3), .c (.int .i64 x4), .c (.sl [.int .i64] x5)], .c (.sl [.int .i64] x6), .c (.sl [.int .i64] x7)] := by
  refine ⟨?_⟩
  revert h
  generalize hE : stdE P tbl = E
  intro h
  unfold vc9 at h
  cbv
  have c15 := h.1
  refine ⟨c15, ?_⟩
  replace h := h.2 _ rfl
  refine ⟨fun hb16 => ?_, fun hb16 => ?_⟩
  · replace h := h.t hb16
    have c17 := h.1
    refine ⟨c17, ?_⟩
    replace h := h.2 _ rfl
    have h : _ = row := h
    subst h
    repeat' (first | exact trivial | exact rfl | refine And.intro ?_ ?_)
  · replace h := h.f hb16
    have c18 := h.1
    refine ⟨c18, ?_⟩
    replace h := h.2 _ rfl
    have c19 := h.1
    refine ⟨c19, ?_⟩
    replace h := h.2 _ rfl
    have c20 := h.1
    refine ⟨c20, ?_⟩
    replace h := h.2 _ rfl
    refine ⟨⟨fun hh => (by first | exact hh | trivial)⟩, ?_⟩
    refine ⟨⟨fun hh => (by first | exact hh | trivial)⟩, ?_⟩
    refine ⟨fun hb21 => ?_, fun hb21 => ?_⟩
    · replace h := h.t hb21
      have c22 := h.1
      refine ⟨c22, ?_⟩
      replace h := h.2 _ rfl
      refine ⟨⟨fun hh => (by first | exact hh | trivial)⟩, ?_⟩
      have h : _ = row := h
      subst h
      repeat' (first | exact trivial | exact rfl | refine And.intro ?_ ?_)
    · replace h := h.f hb21
      refine ⟨⟨fun hh => (by first | exact hh | trivial)⟩, ?_⟩
      refine ⟨⟨fun hh => (by first | exact hh | trivial)⟩, ?_⟩
      refine ⟨⟨fun hh => (by first | exact hh | trivial)⟩, ?_⟩
      refine ⟨⟨fun hh => (by first | exact hh | trivial)⟩, ?_⟩
      refine ⟨⟨fun hh => (by first | exact hh | trivial)⟩, ?_⟩
      refine ⟨⟨fun hh => (by first | exact hh | trivial)⟩, ?_⟩
      have c23 := h.1
      refine ⟨c23, ?_⟩
      replace h := h.2 _ rfl
      refine ⟨⟨fun hh => (by first | exact hh | trivial)⟩, ?_⟩
      have h : _ = row := h
      subst h
      repeat' (first | exact trivial | exact rfl | refine And.intro ?_ ?_)
def S9 : List A → List C := fun _ => [.bool true]
def tbl9 : FuncId → List A → List C := fun f ds => match f with
  | 10 => S10 ds
  | 11 => S11 ds
  | 12 => S12 ds
  | 15 => S15 ds
  | 19 => S19 ds
  | _ => []
theorem pc9  {x1 : Int} {x2 : Int} {x3 : Int} {x4 : Int} {x5 : List (List C)} {x6 : List (List C)} {x7 : List (List C)} {row : List C} (hS : S9 [.agg [.c (.int .i64 x1), .c (.int .i64 x2), .c (.int .i64 x3), .c (.int .i64 x4), .c (.sl [.int .i64] x5)], .c (.sl [.int .i64] x6), .c (.sl [.int .i64] x7)] = row) (h : vc9 (stdE Try.prog tbl9) x1 x2 x3 x4 x5 x6 x7 fun c => c = row) : PCg Try.prog 9 S9 [(false, [.bool])] [.agg [.c (.int .i64 x1), .c (.int .i64 x2), .c (.int .i64 x3), .c (.int .i64 x4), .c (.sl [.int .i64] x5)], .c (.sl [.int .i64] x6), .c (.sl [.int .i64] x7)] := PureC_vc mo h9 (by kernel_rfl) hS (w9  h)
theorem p9 (w e t k : Int) (ss a b : List Int) : PureC Try.prog 9 [kB] [dk w e t k ss, sI (rowsI a), sI (rowsI b)] fun _ => .bool true := by
  refine PureC.one (get := fun i => (S9 [dk w e t k ss, sI (rowsI a), sI (rowsI b)]).getD i .nil) (pc9 (row := [.bool true]) rfl ?_) rfl
  unfold vc9
  have hrow : ([[C.sl [.int .i64] (rowsI a)], [C.sl [.int .i64] (rowsI b)]] : List (List C)) = rowL [a, b] := rfl
  have hord : ([[.int .i64 0], [.int .i64 1]] : List (List C)) = rowsI [0, 1] := rfl
  simp only [stdE, baseE, Br_iff, Imp_iff, tbl9, forall_eq, hrow, hord]
  simp only [p10, p11, implies_true, true_and]
  simp only [e10, e11, List.getD_cons_zero, gb_bool]
  cases h : lightB ss [a, b] with
  | false => simp
  | true =>
    have ha : a.length ≤ 20 := (light_spec h).2 a (by simp)
    have hb : b.length ≤ 20 := (light_spec h).2 b (by simp)
    have hl : ∀ c ∈ [a, b], c.length ≤ 1000000 := fun c hc => by have := (light_spec h).2 c hc; omega
    refine ⟨fun q => by simp at q, fun _ => ⟨p12 w e t k ss (by omega), p15 w e t k ss (by omega) (by omega), p19 w e t k ss hl _, ?_⟩⟩
    simp only [e12, e15, e19, knV, mvV, List.getD_cons_zero, List.getD_cons_succ, gi_int, gl_sl, rowsI_len]
    have hqa := knL_lt w e t k ss a
    have hqb := knL_lt w e t k ss b
    have hmv := mvN_le (knL w e t k ss a) (knL w e t k ss b)
    have hE : mvE w e t k ss a b = 0 ↔ fitsE w e t k ss a = 0 ∧ fitsE w e t k ss b = 0 := by
      unfold mvE
      by_cases q : fitsE w e t k ss a = 0
      · rw [if_neg (fun r => r q)]; simp [q]
      · rw [if_pos q]; simp [q]
    have hA : allE w e t k ss [a, b] = 0 ↔ fitsE w e t k ss a = 0 ∧ fitsE w e t k ss b = 0 := by
      have hck : fitsE w e t k ss a = 0 → chkE w e t k ss = 0 := fun q => by
        unfold fitsE at q
        split at q
        · rename_i r; exact absurd q r
        · exact Classical.not_not.1 (by assumption)
      unfold allE
      by_cases q : chkE w e t k ss = 0
      · rw [if_neg (fun r => r q), if_neg (by simp)]
        simp only [firE]
        by_cases q1 : fitsE w e t k ss a = 0
        · rw [if_neg (fun r => r q1)]
          by_cases q2 : fitsE w e t k ss b = 0
          · rw [if_neg (fun r => r q2)]; simp [q1, q2]
          · rw [if_pos q2]; simp [q2]
        · rw [if_pos q1]; simp [q1]
      · rw [if_pos q]
        exact ⟨fun r => absurd r q, fun r => absurd (hck r.1) q⟩
    by_cases q : fitsE w e t k ss a = 0 ∧ fitsE w e t k ss b = 0
    · have hcs : csV w e t k ss [a, b] [0, 1] = [.int .i64 (lenL (allP w e t k ss [a, b]) [-1, 0, 1]), .int .i64 0] := by
        rw [csV, if_neg (fun r => r (hA.2 q)), if_neg (by simp), if_pos (show vO [a, b].length [0, 1] from (by decide : vO 2 [0, 1]))]
      have hlen : lenL (allP w e t k ss [a, b]) [-1, 0, 1] = ((knL w e t k ss a).length : Int) + mvN (knL w e t k ss a) (knL w e t k ss b) := by
        simp only [lenL, stp]
        rw [if_pos (by decide), if_neg (by decide), Int.add_zero]; rfl
      simp only [hcs, hlen, hE.2 q, q.1, List.getD_cons_zero, List.getD_cons_succ, gi_int]
      rw [wrap_in (by omega) (by omega)]
      simp
    · have hm : mvE w e t k ss a b ≠ 0 := fun r => q (hE.1 r)
      have hcs : csV w e t k ss [a, b] [0, 1] = [.int .i64 0, .int .i64 (allE w e t k ss [a, b])] := by rw [csV, if_pos (fun r => q (hA.1 r))]
      have hA' : (allE w e t k ss [a, b] == 0) = false := by simpa using fun r => q (hA.1 r)
      have hm' : (mvE w e t k ss a b == 0) = false := by simpa using hm
      simp only [hcs, List.getD_cons_zero, List.getD_cons_succ, gi_int, hA', hm']
      simp
end Go.Proofs.Ytjmgphobpgajbaa.V
