/- Knives: the chapter's example; what the statements share. No conditions. -/
import Derived.Test.YtjmgphobpgajbaaGL
set_option linter.unusedVariables false
set_option linter.unusedSimpArgs false
namespace Go.Proofs.Ytjmgphobpgajbaa.V
open Go Go.Eng
set_option maxRecDepth 1000000
set_option maxHeartbeats 1000000
def tbl14 : FuncId → List A → List C := fun f ds => match f with
  | _ => []
theorem pc14  {x1 : List (List C)} {x2 : List (List C)} {row : List C} (hS : S14 [.c (.sl [.int .i64] x1), .c (.sl [.int .i64] x2)] = row) (h : vc14 (stdE Try.prog tbl14) x1 x2 fun c => c = row) : PCg Try.prog 14 S14 [(false, [.bool])] [.c (.sl [.int .i64] x1), .c (.sl [.int .i64] x2)] := PureC_vc mo h14 (by kernel_rfl) hS (w14  h)
theorem p14 {a : List Int} (ha : a.length ≤ 1000000) (b : List Int) : PCg Try.prog 14 S14 [kB] [sI (rowsI a), sI (rowsI b)] := by
  refine pc14 (e14 a b) ?_
  unfold vc14
  simp only [stdE, baseE, Br_iff, rowsI_len, rowsI_getD, Bool.not_eq_true', Bool.not_eq_false', beq_iff_eq, beq_eq_false_iff_ne, decide_eq_true_eq, decide_eq_false_iff_not]
  refine ⟨fun h => ?_, fun h => ?_⟩
  · rw [decide_eq_false (fun q => h (by rw [q]))]
  have hl : a.length = b.length := by omega
  refine LoopP1.run (x1 := 0) (fun k : Nat => (k : Int)) (fun k => k ≤ a.length ∧ ∀ j, j < k → a.getD j 0 = b.getD j 0) (fun k => a.length - k) 0 ⟨Nat.zero_le _, fun j hj => absurd hj (Nat.not_lt_zero j)⟩ rfl ?_
  rintro k ⟨hk, hj⟩ K hK
  simp only [toNat_cast]
  refine ⟨fun h1 => ⟨by omega, by omega, fun h2 => ?_, fun h2 => ?_⟩, fun h1 => ?_⟩
  · rw [decide_eq_false (fun q => h2 (by rw [q]))]
  · refine hK _ (k + 1) ⟨by omega, fun j hjk => ?_⟩ (by omega) (wrap_up rfl (by omega))
    by_cases e : j = k
    · rw [e]; exact h2
    · exact hj j (by omega)
  · have : k = a.length := by omega
    subst this
    rw [decide_eq_true]
    refine List.ext_getElem hl fun i h3 h4 => ?_
    have := hj i h3
    rwa [getD_get h3, getD_get h4] at this
def lightB (ss : List Int) (l : List (List Int)) : Bool := decide (ss.length ≤ 20) && (decide (l.length ≤ 20) && l.all fun c => decide (c.length ≤ 20))
def S10 : List A → List C := fun ds => match ds with
  | [.agg [_, _, _, _, .c (.sl _ xs)], .c (.sl _ l)] => [.bool (lightB (prI xs) (unL l))]
  | _ => []
theorem e10 (w e t k : Int) (ss : List Int) (l : List (List Int)) : S10 [dk w e t k ss, sL (rowL l)] = [.bool (lightB ss l)] := by
  show [C.bool (lightB (prI (rowsI ss)) (unL (rowL l)))] = _
  rw [prI_rowsI, unL_rowL]
theorem light_spec {ss : List Int} {l : List (List Int)} (h : lightB ss l = true) : l.length ≤ 20 ∧ ∀ c ∈ l, c.length ≤ 20 := by
  unfold lightB at h
  simp only [Bool.and_eq_true, List.all_eq_true, decide_eq_true_eq] at h
  exact ⟨h.2.1, h.2.2⟩
def tbl10 : FuncId → List A → List C := fun f ds => match f with
  | _ => []
theorem pc10  {x1 : Int} {x2 : Int} {x3 : Int} {x4 : Int} {x5 : List (List C)} {x6 : List (List C)} {row : List C} (hS : S10 [.agg [.c (.int .i64 x1), .c (.int .i64 x2), .c (.int .i64 x3), .c (.int .i64 x4), .c (.sl [.int .i64] x5)], .c (.sl [.sl [.int .i64]] x6)] = row) (h : vc10 (stdE Try.prog tbl10) x1 x2 x3 x4 x5 x6 fun c => c = row) : PCg Try.prog 10 S10 [(false, [.bool])] [.agg [.c (.int .i64 x1), .c (.int .i64 x2), .c (.int .i64 x3), .c (.int .i64 x4), .c (.sl [.int .i64] x5)], .c (.sl [.sl [.int .i64]] x6)] := PureC_vc mo h10 (by kernel_rfl) hS (w10  h)
theorem p10 (w e t k : Int) (ss : List Int) (l : List (List Int)) : PCg Try.prog 10 S10 [kB] [dk w e t k ss, sL (rowL l)] := by
  refine pc10 (e10 ..) ?_
  unfold vc10
  simp only [stdE, baseE, Br_iff, rowsI_len, rowL_len, rowL_cell]
  have hg : (if decide ((20 : Int) < ss.length) = true then true else decide ((20 : Int) < l.length)) = decide (20 < ss.length ∨ 20 < l.length) := by
    by_cases a : 20 < ss.length <;> by_cases b : 20 < l.length <;> simp [a, b] <;> omega
  rw [hg]
  refine ⟨fun h => ?_, fun h => ?_⟩
  · have h := of_decide_eq_true h
    have : lightB ss l = false := by
      unfold lightB
      rcases h with h | h
      · rw [decide_eq_false (by omega)]; rfl
      · rw [decide_eq_false (p := l.length ≤ 20) (by omega)]; simp
    rw [this]
  have h := of_decide_eq_false h
  have hL : lightB ss l = l.all fun c => decide (c.length ≤ 20) := by
    unfold lightB
    rw [decide_eq_true (p := ss.length ≤ 20) (by omega), decide_eq_true (p := l.length ≤ 20) (by omega)]; rfl
  rw [hL]
  refine LoopP1.run (x1 := 0) (fun k : Nat => (k : Int)) (fun k => k ≤ l.length ∧ (l.take k).all (fun c => decide (c.length ≤ 20)) = true) (fun k => l.length - k) 0 ⟨Nat.zero_le _, rfl⟩ rfl ?_
  rintro k ⟨hk, hj⟩ K hK
  simp only [toNat_cast, decide_eq_true_eq, decide_eq_false_iff_not]
  refine ⟨fun h1 => ⟨by omega, fun h2 => ?_, fun h2 => ?_⟩, fun h1 => ?_⟩
  · have hlt : k < l.length := by omega
    have : (l.all fun c => decide (c.length ≤ 20)) = false := by
      cases hc : (l.all fun c => decide (c.length ≤ 20)) with
      | false => rfl
      | true =>
        have := List.all_eq_true.1 hc _ (getD_mem (d := []) hlt)
        have := of_decide_eq_true this
        omega
    rw [this]
  · have hlt : k < l.length := by omega
    refine hK _ (k + 1) ⟨hlt, ?_⟩ (by omega) (wrap_up rfl (by omega))
    rw [all_take _ l [] hlt, hj, Bool.true_and]
    exact decide_eq_true (by omega)
  · have : k = l.length := by omega
    subst this
    rw [List.take_length] at hj
    rw [hj]
/-- Lexicographically less. -/
def lx : List Int → List Int → Bool
  | a :: l, b :: m => if a = b then lx l m else decide (a < b)
  | _, _ => false
theorem lx_iff : ∀ (a b : List Int), lx a b = true ↔ lexB a b
  | a :: l, b :: m => by
    rw [lx, lexB]
    by_cases h : a = b
    · rw [if_pos h, lx_iff l m]
      exact ⟨fun q => .inr ⟨h, q⟩, fun q => q.elim (fun q => by omega) fun q => q.2⟩
    · rw [if_neg h]; simp only [decide_eq_true_eq]
      exact ⟨.inl, fun q => q.elim id fun q => absurd q.1 h⟩
  | [], b => by simp [lx, lexB]
  | a :: l, [] => by simp [lx, lexB]
def S21 : List A → List C := fun ds => match ds with
  | [.c (.sl _ a), .c (.sl _ b)] => [.bool (lx (prI a) (prI b))]
  | _ => []
theorem e21 (a b : List Int) : S21 [sI (rowsI a), sI (rowsI b)] = [.bool (lx a b)] := by
  show [C.bool (lx (prI (rowsI a)) (prI (rowsI b)))] = _
  rw [prI_rowsI, prI_rowsI]
def tbl21 : FuncId → List A → List C := fun f ds => match f with
  | _ => []
theorem pc21  {x1 : List (List C)} {x2 : List (List C)} {row : List C} (hS : S21 [.c (.sl [.int .i64] x1), .c (.sl [.int .i64] x2)] = row) (h : vc21 (stdE Try.prog tbl21) x1 x2 fun c => c = row) : PCg Try.prog 21 S21 [(false, [.bool])] [.c (.sl [.int .i64] x1), .c (.sl [.int .i64] x2)] := PureC_vc mo h21 (by kernel_rfl) hS (w21  h)
theorem p21 {a : List Int} (ha : a.length ≤ 1000000) (b : List Int) : PCg Try.prog 21 S21 [kB] [sI (rowsI a), sI (rowsI b)] := by
  refine pc21 (e21 a b) ?_
  unfold vc21
  simp only [stdE, baseE, Br_iff, Imp_iff, forall_eq, rowsI_len, rowsI_getD]
  refine LoopP1.run (fun k : Nat => (k : Int)) (fun k => k ≤ a.length ∧ lx (a.drop k) (b.drop k) = lx a b) (fun k => a.length - k) 0 ⟨Nat.zero_le _, rfl⟩ rfl ?_
  rintro k ⟨h1, h2⟩ K hK
  simp only [toNat_cast]
  by_cases q1 : k < a.length
  · by_cases q2 : k < b.length
    · have e : lx (a.drop k) (b.drop k) = if a.getD k 0 = b.getD k 0 then lx (a.drop (k + 1)) (b.drop (k + 1)) else decide (a.getD k 0 < b.getD k 0) := by
        rw [List.drop_eq_getElem_cons q1, List.drop_eq_getElem_cons q2, lx, getD_get q1, getD_get q2]
      rw [if_pos (by simp; omega)]
      refine ⟨fun _ => ⟨by simp, by simp; omega, by simp; omega, fun h3 => ?_, fun h3 => ?_⟩, fun h => by have := of_decide_eq_false h; omega⟩
      · have h3' : ¬ a.getD k 0 = b.getD k 0 := by simpa using h3
        rw [if_neg h3'] at e
        rw [← h2, e]
      · have h3' : a.getD k 0 = b.getD k 0 := by simpa using h3
        rw [if_pos h3'] at e
        exact hK _ (k + 1) ⟨by omega, by rw [← e]; exact h2⟩ (by omega) (wrap_up rfl (by omega))
    · rw [if_pos (by simp; omega)]
      refine ⟨fun h => by have := of_decide_eq_true h; omega, fun _ => ?_⟩
      rw [← h2, List.drop_of_length_le (l := b) (by omega)]
      cases a.drop k <;> rfl
  · rw [if_neg (by simp; omega)]
    refine ⟨fun h => (by cases h), fun _ => ?_⟩
    rw [← h2, List.drop_of_length_le (l := a) (by omega)]
    rfl
/-! ### The chapter's example -/
theorem ixF_no2 {n : Nat} {p : Nat → Bool} (h : ∀ i, i < n → p i = false) : ixF n p 0 = -1 := by
  rcases ixF_spec n p _ 0 rfl with ⟨h1, _⟩ | ⟨m, _, h2, _, h4, _⟩
  · exact h1
  · rw [h m h2] at h4; cases h4
theorem exD : chkE 5000 50 900 4 [2400, 1600] = 0 := by
  have hu : usb 5000 50 = 4900 := usb_eq (by decide) (by decide) (by decide) (by decide)
  have hr : rngE 5000 50 900 4 [2400, 1600] = 0 := by
    rw [rngE, if_neg (by decide), if_neg (by decide), if_neg (by decide), if_neg, if_neg]
    · intro q
      refine q (ixF_no2 fun i hi => ?_)
      match i, hi with
      | 0, _ => decide
    · intro q
      refine q (ixF_no2 fun i hi => ?_)
      unfold badS
      rw [hu]
      match i, hi with
      | 0, _ => decide
      | 1, _ => decide
  rw [chkE, if_neg (fun q => q hr), if_neg (by decide)]
theorem exF {c : List Int} (h0 : c.length = 2) (h1 : ∀ a ∈ c, 0 ≤ a) (h2 : sumL c ≠ 0) (h3 : ¬ 4 < sumL c) (h4 : ¬ 5000 - 2 * 50 < dot c [2400, 1600]) (h5 : ¬ 900 < 5000 - 2 * 50 - dot c [2400, 1600]) : fitsE 5000 50 900 4 [2400, 1600] c = 0 := by
  rw [fitsE, if_neg (fun q => q exD), fitE, if_neg (fun q => q h0), if_neg (fun q => q (neg_no h1)), if_neg h2, if_neg h3, if_neg h4, if_neg h5]
theorem f1 : fitsE 5000 50 900 4 [2400, 1600] [2, 0] = 0 := exF rfl (by decide) (by decide) (by decide) (by decide) (by decide)
theorem f2 : fitsE 5000 50 900 4 [2400, 1600] [1, 1] = 0 := exF rfl (by decide) (by decide) (by decide) (by decide) (by decide)
theorem f3 : fitsE 5000 50 900 4 [2400, 1600] [0, 3] = 0 := exF rfl (by decide) (by decide) (by decide) (by decide) (by decide)
theorem g1 : knL 5000 50 900 4 [2400, 1600] [2, 0] = [50, 2450, 4850] := by rw [knL, if_pos f1]; rfl
theorem g2 : knL 5000 50 900 4 [2400, 1600] [1, 1] = [50, 2450, 4050] := by rw [knL, if_pos f2]; rfl
theorem g3 : knL 5000 50 900 4 [2400, 1600] [0, 3] = [50, 1650, 3250, 4850] := by rw [knL, if_pos f3]; rfl
theorem exP : allP 5000 50 900 4 [2400, 1600] [[2, 0], [1, 1], [0, 3]] = [[50, 2450, 4850], [50, 2450, 4050], [50, 1650, 3250, 4850]] := by
  show [knL 5000 50 900 4 [2400, 1600] [2, 0], knL 5000 50 900 4 [2400, 1600] [1, 1], knL 5000 50 900 4 [2400, 1600] [0, 3]] = _
  rw [g1, g2, g3]
theorem exA : allE 5000 50 900 4 [2400, 1600] [[2, 0], [1, 1], [0, 3]] = 0 := by
  rw [allE, if_neg (fun q => q exD), if_neg (by decide), firE, if_neg (fun q => q f1), firE, if_neg (fun q => q f2), firE, if_neg (fun q => q f3)]; rfl
theorem v12 : knV 5000 50 900 4 [2400, 1600] [0, 3] = [.sl [.int .i64] (rowsI [50, 1650, 3250, 4850]), .int .i64 0] := by rw [knV, g3, f3]
theorem v15 : mvV 5000 50 900 4 [2400, 1600] [2, 0] [1, 1] = [.int .i64 1, .int .i64 0] := by
  have hE : mvE 5000 50 900 4 [2400, 1600] [2, 0] [1, 1] = 0 := by rw [mvE, if_neg (fun q => q f1), f2]
  rw [mvV, hE, if_pos rfl, g1, g2]; rfl
theorem v17 : sqV 5000 50 900 4 [2400, 1600] [[2, 0], [1, 1], [0, 3]] = [.sl [.int .i64] (rowsI [1, 0, 2]), .int .i64 6, .int .i64 0] := by
  rw [sqV, if_pos exA, exP]
  have h : sqT [[50, 2450, 4850], [50, 2450, 4050], [50, 1650, 3250, 4850]] = [-1, 1, 0, 2] := by decide
  rw [h]
  have h2 : lenL [[50, 2450, 4850], [50, 2450, 4050], [50, 1650, 3250, 4850]] [-1, 1, 0, 2] = 6 := by decide
  rw [h2]; rfl
theorem v19 : csV 5000 50 900 4 [2400, 1600] [[2, 0], [1, 1], [0, 3]] [0, 1, 2] = [.int .i64 7, .int .i64 0] := by
  rw [csV, if_neg (fun q => q exA), if_neg (by decide), if_pos (by decide), exP]
  have h2 : lenL [[50, 2450, 4850], [50, 2450, 4050], [50, 1650, 3250, 4850]] [-1, 0, 1, 2] = 7 := by decide
  rw [h2]
def S23 : List A → List C := fun _ => [.int .i64 5000, .int .i64 50, .int .i64 900, .int .i64 4, .sl [.int .i64] (rowsI [2400, 1600])]
theorem e23 : S23 [] = [.int .i64 5000, .int .i64 50, .int .i64 900, .int .i64 4, .sl [.int .i64] (rowsI [2400, 1600])] := rfl
def tbl23 : FuncId → List A → List C := fun f ds => match f with
  | _ => []
theorem pc23   {row : List C} (hS : S23 [] = row) (h : vc23 (stdE Try.prog tbl23)  fun c => c = row) : PCg Try.prog 23 S23 [(true, [.int .i64, .int .i64, .int .i64, .int .i64, .sl [.int .i64]])] [] := PureC_vc mo h23 (by kernel_rfl) hS (w23  h)
theorem p23 : PCg Try.prog 23 S23 [(true, [.int .i64, .int .i64, .int .i64, .int .i64, .sl [.int .i64]])] [] := by
  refine pc23 e23 ?_
  unfold vc23
  rfl
def S11 : List A → List C := fun _ => [.bool true]
theorem e11 : S11 [] = [.bool true] := rfl
theorem lit1 : ([[.int .i64 2], [.int .i64 0]] : List (List C)) = rowsI [2, 0] := rfl
theorem litL : ([[.sl [.int .i64] [[.int .i64 2], [.int .i64 0]]], [.sl [.int .i64] [[.int .i64 1], [.int .i64 1]]], [.sl [.int .i64] [[.int .i64 0], [.int .i64 3]]]] : List (List C)) = rowL [[2, 0], [1, 1], [0, 3]] := rfl
theorem lit012 : ([[.int .i64 0], [.int .i64 1], [.int .i64 2]] : List (List C)) = rowsI [0, 1, 2] := rfl
theorem lit102 : ([[.int .i64 1], [.int .i64 0], [.int .i64 2]] : List (List C)) = rowsI [1, 0, 2] := rfl
theorem litK : ([[.int .i64 50], [.int .i64 1650], [.int .i64 3250], [.int .i64 4850]] : List (List C)) = rowsI [50, 1650, 3250, 4850] := rfl
def tbl11 : FuncId → List A → List C := fun f ds => match f with
  | 12 => S12 ds
  | 14 => S14 ds
  | 15 => S15 ds
  | 17 => S17 ds
  | 19 => S19 ds
  | 23 => S23 ds
  | _ => []
theorem pc11   {row : List C} (hS : S11 [] = row) (h : vc11 (stdE Try.prog tbl11)  fun c => c = row) : PCg Try.prog 11 S11 [(false, [.bool])] [] := PureC_vc mo h11 (by kernel_rfl) hS (w11  h)
theorem p11 : PCg Try.prog 11 S11 [kB] [] := by
  refine pc11 e11 ?_
  unfold vc11
  simp only [stdE, baseE, Imp_iff, tbl11, forall_eq]
  simp only [p23, true_and]
  simp only [e23, List.getD_cons_zero, List.getD_cons_succ, gi_int, gl_sl, litL, lit012, lit102, litK, rowL_len, rowL_cell]
  have hl : ∀ c ∈ ([[2, 0], [1, 1], [0, 3]] : List (List Int)), c.length ≤ 1000000 := by decide
  refine ⟨by decide, by decide, p12 _ _ _ _ _ (by decide), by decide, by decide, by decide, by decide, p15 _ _ _ _ _ (by decide) (by decide), p17 _ _ _ _ _ hl, p19 _ _ _ _ _ hl _, ?_⟩
  have a1 : ([[2, 0], [1, 1], [0, 3]] : List (List Int)).getD (Int.toNat 2) [] = [0, 3] := rfl
  have a2 : ([[2, 0], [1, 1], [0, 3]] : List (List Int)).getD (Int.toNat 0) [] = [2, 0] := rfl
  have a3 : ([[2, 0], [1, 1], [0, 3]] : List (List Int)).getD (Int.toNat 1) [] = [1, 1] := rfl
  simp only [a1, a2, a3, e12, e15, e17, e19, v12, v15, v17, v19, List.getD_cons_zero, List.getD_cons_succ, gi_int, gl_sl]
  refine ⟨fun _ => p14 (by decide) _, fun _ => p14 (by decide) _, ?_⟩
  simp only [e14, List.getD_cons_zero, gb_bool]
  rfl
end Go.Proofs.Ytjmgphobpgajbaa.V
