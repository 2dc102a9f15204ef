/- Ledgers: postings compared. No conditions. -/
import Derived.Test.YtlmllogbaacoeaaPeek2
set_option linter.unusedVariables false
set_option linter.unusedSimpArgs false
namespace Go.Proofs.Ytlmllogbaacoeaa.V
open Go Go.Eng
set_option maxRecDepth 1000000
set_option maxHeartbeats 1000000
theorem ixF_none {n : Nat} {p : Nat → Bool} (h : ixF n p 0 = -1) : ∀ i, i < n → p i = false := by
  rcases ixF_spec n p _ 0 rfl with ⟨_, h2⟩ | ⟨m, _, _, h3, _, _⟩
  · exact fun i hi => h2 i (Nat.zero_le _) hi
  · omega
theorem ext_getD {α : Type} {xs ys : List α} (z : α) (hl : xs.length = ys.length) (h : ∀ i, i < xs.length → xs.getD i z = ys.getD i z) : xs = ys := by
  refine List.ext_getElem hl fun i h1 h2 => ?_
  have := h i h1
  rwa [getD_get h1, getD_get h2] at this
abbrev paP (p : PT) : A := poA p.1 p.2.1 (row2 p.2.2)
def S30 : List A → List C := fun ds => match ds with
  | [.agg [.c (.int _ a), .c (.int _ b), .c (.sl _ x)], .agg [.c (.int _ c), .c (.int _ d), .c (.sl _ y)]] => [.bool (decide (((a, b, un2 x) : PT) = (c, d, un2 y)))]
  | _ => []
theorem e30 (p q : PT) : S30 [paP p, paP q] = [.bool (decide (p = q))] := by
  show [C.bool (decide (((p.1, p.2.1, un2 (row2 p.2.2)) : PT) = (q.1, q.2.1, un2 (row2 q.2.2))))] = _
  rw [un2_row, un2_row]
def tbl30 : FuncId → List A → List C := fun f ds => match f with
  | _ => []
theorem pc30  {x1 : Int} {x2 : Int} {x3 : List (List C)} {x4 : Int} {x5 : Int} {x6 : List (List C)} {row : List C} (hS : S30 [.agg [.c (.int .i64 x1), .c (.int .i64 x2), .c (.sl [.int .i64, .int .i64] x3)], .agg [.c (.int .i64 x4), .c (.int .i64 x5), .c (.sl [.int .i64, .int .i64] x6)]] = row) (h : vc30 (stdE Try.prog tbl30) x1 x2 x3 x4 x5 x6 fun c => c = row) : PCg Try.prog 30 S30 [(false, [.bool])] [.agg [.c (.int .i64 x1), .c (.int .i64 x2), .c (.sl [.int .i64, .int .i64] x3)], .agg [.c (.int .i64 x4), .c (.int .i64 x5), .c (.sl [.int .i64, .int .i64] x6)]] := PureC_vc mo h30 (by kernel_rfl) hS (w30  h)
theorem p30 (p q : PT) (hl : p.2.2.length ≤ 1000000) : PCg Try.prog 30 S30 [kB] [paP p, paP q] := by
  refine pc30 (e30 ..) ?_
  unfold vc30
  simp only [stdE, baseE, Br_iff, bite_or, row2_len]
  simp only [Bool.or_eq_true, Bool.or_eq_false_iff, Bool.not_eq_true', Bool.not_eq_false', beq_iff_eq, beq_eq_false_iff_ne, Bool.and_true, decide_eq_true_eq, decide_eq_false_iff_not]
  refine ⟨fun h => ?_, fun h => ?_⟩
  · rw [decide_eq_false]
    intro e
    subst e
    simp at h
  obtain ⟨⟨h1, h2⟩, h3⟩ := h
  have h3' : p.2.2.length = q.2.2.length := by omega
  refine find_loop (p := fun i => decide (p.2.2.getD i z2 ≠ q.2.2.getD i z2)) (n := p.2.2.length) (A' := fun k => p ≠ q) (B := p = q) (by omega) ?_ ?_ ?_ ?_
  · intro k K hk ha hf
    simp only [toNat_cast, row2_c0, row2_c1]
    have key : (((p.2.2.getD k z2).1 == (q.2.2.getD k z2).1) && ((p.2.2.getD k z2).2 == (q.2.2.getD k z2).2)) = decide (p.2.2.getD k z2 = q.2.2.getD k z2) := by
      by_cases e : p.2.2.getD k z2 = q.2.2.getD k z2
      · rw [e]; simp
      · rw [decide_eq_false e]
        cases e1 : ((p.2.2.getD k z2).1 == (q.2.2.getD k z2).1)
        · rfl
        · cases e2 : ((p.2.2.getD k z2).2 == (q.2.2.getD k z2).2)
          · rfl
          · exact absurd (Prod.ext (by simpa using e1) (by simpa using e2)) e
    simp only [key]
    refine ⟨fun _ => ⟨by omega, by omega, fun h => ?_, fun h => ?_⟩, fun h => by omega⟩
    · rw [decide_eq_false (ha (by simpa using h))]
    · rw [wrap_up rfl (by omega)]
      exact hf (by simpa using h)
  · intro K hB
    exact ⟨fun h => by omega, fun _ => by rw [decide_eq_true hB]⟩
  · intro k hk h4 h5 e
    subst e
    simp at h5
  · intro h
    have := ixF_none h
    exact Prod.ext h1 (Prod.ext h2 (ext_getD z2 h3' fun i hi => by simpa using this i hi))
def S20 : List A → List C := fun ds => match ds with
  | [.c (.sl _ x), .c (.sl _ y)] => [.bool (decide (unP x = unP y))]
  | _ => []
theorem e20 (ps qs : List PT) : S20 [sP (rowsP ps), sP (rowsP qs)] = [.bool (decide (ps = qs))] := by
  show [C.bool (decide (unP (rowsP ps) = unP (rowsP qs)))] = _
  rw [unP_rows, unP_rows]
def tbl20 : FuncId → List A → List C := fun f ds => match f with
  | 30 => S30 ds
  | _ => []
theorem pc20  {x1 : List (List C)} {x2 : List (List C)} {row : List C} (hS : S20 [.c (.sl [.int .i64, .int .i64, .sl [.int .i64, .int .i64]] x1), .c (.sl [.int .i64, .int .i64, .sl [.int .i64, .int .i64]] x2)] = row) (h : vc20 (stdE Try.prog tbl20) x1 x2 fun c => c = row) : PCg Try.prog 20 S20 [(false, [.bool])] [.c (.sl [.int .i64, .int .i64, .sl [.int .i64, .int .i64]] x1), .c (.sl [.int .i64, .int .i64, .sl [.int .i64, .int .i64]] x2)] := PureC_vc mo h20 (by kernel_rfl) hS (w20  h)
theorem p20 {ps qs : List PT} (hl : ps.length ≤ 1000000) (hi : ∀ p ∈ ps, p.2.2.length ≤ 1000000) : PCg Try.prog 20 S20 [kB] [sP (rowsP ps), sP (rowsP qs)] := by
  refine pc20 (e20 ..) ?_
  unfold vc20
  simp only [stdE, baseE, Br_iff, rowsP_len, tbl20, forall_eq]
  simp only [Bool.not_eq_true', Bool.not_eq_false', beq_iff_eq, beq_eq_false_iff_ne, decide_eq_true_eq, decide_eq_false_iff_not]
  refine ⟨fun h => ?_, fun h => ?_⟩
  · rw [decide_eq_false]
    intro e
    subst e
    simp at h
  have h3' : ps.length = qs.length := by omega
  refine find_loop (p := fun i => decide (ps.getD i zP ≠ qs.getD i zP)) (n := ps.length) (A' := fun k => ps ≠ qs) (B := ps = qs) (by omega) ?_ ?_ ?_ ?_
  · intro k K hk ha hf
    simp only [toNat_cast, rowsP_c0, rowsP_c1, rowsP_c2]
    have hm : (ps.getD k zP).2.2.length ≤ 1000000 := hi _ (by rw [getD_get hk]; exact List.getElem_mem _)
    simp only [p30 (ps.getD k zP) (qs.getD k zP) hm, true_and]
    simp only [e30, List.getD_cons_zero, gb_bool]
    refine ⟨fun _ => ⟨by omega, by omega, fun h => ?_, fun h => ?_⟩, fun h => by omega⟩
    · rw [decide_eq_false (ha (by simpa using h))]
    · rw [wrap_up rfl (by omega)]
      exact hf (by simpa using h)
  · intro K hB
    exact ⟨fun h => by omega, fun _ => by rw [decide_eq_true hB]⟩
  · intro k hk h4 h5 e
    subst e
    simp at h5
  · intro h
    have := ixF_none h
    exact ext_getD zP h3' fun i hi => by simpa using this i hi

abbrev sI (xs : List (List C)) : A := .c (.sl [.int .i64] xs)
def S23 : List A → List C := fun ds => match ds with
  | [.c (.sl _ x), .c (.sl _ y)] => [.bool (decide (prI x = prI y))]
  | _ => []
theorem e23 (ps qs : List Int) : S23 [sI (rowsI ps), sI (rowsI qs)] = [.bool (decide (ps = qs))] := by
  show [C.bool (decide (prI (rowsI ps) = prI (rowsI qs)))] = _
  rw [prI_rowsI, prI_rowsI]
def tbl23 : FuncId → List A → List C := fun f ds => match f with
  | _ => []
theorem pc23  {x1 : List (List C)} {x2 : List (List C)} {row : List C} (hS : S23 [.c (.sl [.int .i64] x1), .c (.sl [.int .i64] x2)] = row) (h : vc23 (stdE Try.prog tbl23) x1 x2 fun c => c = row) : PCg Try.prog 23 S23 [(false, [.bool])] [.c (.sl [.int .i64] x1), .c (.sl [.int .i64] x2)] := PureC_vc mo h23 (by kernel_rfl) hS (w23  h)
theorem p23 {ps : List Int} (hl : ps.length ≤ 1000000) (qs : List Int) : PCg Try.prog 23 S23 [kB] [sI (rowsI ps), sI (rowsI qs)] := by
  refine pc23 (e23 ..) ?_
  unfold vc23
  simp only [stdE, baseE, Br_iff, rowsI_len]
  simp only [Bool.not_eq_true', Bool.not_eq_false', beq_iff_eq, beq_eq_false_iff_ne, decide_eq_true_eq, decide_eq_false_iff_not]
  refine ⟨fun h => ?_, fun h => ?_⟩
  · rw [decide_eq_false]
    intro e
    subst e
    simp at h
  have h3' : ps.length = qs.length := by omega
  refine find_loop (p := fun i => decide (ps.getD i 0 ≠ qs.getD i 0)) (n := ps.length) (A' := fun k => ps ≠ qs) (B := ps = qs) (by omega) ?_ ?_ ?_ ?_
  · intro k K hk ha hf
    simp only [toNat_cast, rowsI_getD]
    refine ⟨fun _ => ⟨by omega, by omega, fun h => ?_, fun h => ?_⟩, fun h => by omega⟩
    · rw [decide_eq_false (ha (by simpa using h))]
    · rw [wrap_up rfl (by omega)]
      exact hf (by simpa using h)
  · intro K hB
    exact ⟨fun h => by omega, fun _ => by rw [decide_eq_true hB]⟩
  · intro k hk h4 h5 e
    subst e
    simp at h5
  · intro h
    have := ixF_none h
    exact ext_getD 0 h3' fun i hi => by simpa using this i hi
/-- A posting has more than 40 items. -/
def wideB (ps : List PT) : Bool := ps.any fun p => decide (40 < p.2.2.length)
def S17 : List A → List C := fun ds => match ds with
  | [.c (.sl _ x)] => [.bool (wideB (unP x))]
  | _ => []
theorem e17 (ps : List PT) : S17 [sP (rowsP ps)] = [.bool (wideB ps)] := by
  show [C.bool (wideB (unP (rowsP ps)))] = _
  rw [unP_rows]
def tbl17 : FuncId → List A → List C := fun f ds => match f with
  | _ => []
theorem pc17  {x1 : List (List C)} {row : List C} (hS : S17 [.c (.sl [.int .i64, .int .i64, .sl [.int .i64, .int .i64]] x1)] = row) (h : vc17 (stdE Try.prog tbl17) x1 fun c => c = row) : PCg Try.prog 17 S17 [(false, [.bool])] [.c (.sl [.int .i64, .int .i64, .sl [.int .i64, .int .i64]] x1)] := PureC_vc mo h17 (by kernel_rfl) hS (w17  h)
theorem p17 {ps : List PT} (hl : ps.length ≤ 1000000) : PCg Try.prog 17 S17 [kB] [sP (rowsP ps)] := by
  refine pc17 (e17 ..) ?_
  unfold vc17
  simp only [stdE, baseE, Br_iff, rowsP_len, decide_eq_true_eq, decide_eq_false_iff_not]
  have ha := ix_any ps zP (fun p => decide (40 < p.2.2.length))
  refine find_loop (p := fun i => decide (40 < (ps.getD i zP).2.2.length)) (n := ps.length) (A' := fun k => wideB ps = true) (B := wideB ps = false) (by omega) ?_ ?_ ?_ ?_
  · intro k K hk ha hf
    simp only [toNat_cast, rowsP_c2, row2_len]
    refine ⟨fun _ => ⟨by omega, fun h => ?_, fun h => ?_⟩, fun h => by omega⟩
    · rw [ha (decide_eq_true (by omega))]
    · rw [wrap_up rfl (by omega)]
      exact hf (decide_eq_false (by omega))
  · intro K hB
    exact ⟨fun h => by omega, fun _ => by rw [hB]⟩
  · intro k hk h4 h5
    rw [h4] at ha
    unfold wideB
    rw [← ha]; simp
  · intro h
    rw [h] at ha
    unfold wideB
    rw [← ha]; rfl
theorem wide_no {ps : List PT} (h : wideB ps = false) : ∀ p ∈ ps, p.2.2.length ≤ 40 := fun p hp => by
  unfold wideB at h
  rw [List.any_eq_false] at h
  have := h p hp
  simpa using this
end Go.Proofs.Ytlmllogbaacoeaa.V
