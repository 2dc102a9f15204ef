/- Warehouses: what the reference's operations make. No conditions. -/
import Derived.Test.YtniijahjfbgfpaaVal2
set_option linter.unusedVariables false
set_option linter.unusedSimpArgs false
namespace Go.Proofs.Ytniijahjfbgfpaa.V
open Go Go.Eng
set_option maxRecDepth 1000000
set_option maxHeartbeats 1000000
theorem bite_orP (p : Prop) [Decidable p] (b : Bool) : (if p then true else b) = (decide p || b) := by by_cases h : p <;> simp [h]
theorem isN_b (bs : List I2) (b : Int) : isN bs.length b = isB bs b := rfl
theorem rng_no {r w t : Int} (h : ¬ (((r < 1 ∨ 1000000 < r) ∨ w < 1) ∨ 12000 < w) ∧ momB t = true) : ¬ (r < 1 ∨ 1000000 < r ∨ w < 1 ∨ 12000 < w ∨ momB t = false) := by
  rintro (a | a | a | a | a)
  · exact h.1 (.inl (.inl (.inl a)))
  · exact h.1 (.inl (.inl (.inr a)))
  · exact h.1 (.inl (.inr a))
  · exact h.1 (.inr a)
  · rw [a] at h; simp at h
def S44 : List A → List C := fun ds => match ds with
  | [.agg [.c (.sl _ x), .c (.sl _ y), .c (.int _ la)], .c (.int _ r), .c (.int _ w), .c (.int _ b), .c (.int _ t)] => let o := putR (un2 x) (un4 y) la r w b t; [.sl C2 x, .sl C4 (row4 o.1), .int .i64 o.2.1, .int .i64 o.2.2]
  | _ => []
theorem e44 (bs : List I2) (its : List I4) (la r w b t : Int) : S44 [agR (row2 bs) (row4 its) la, iC r, iC w, iC b, iC t] = [.sl C2 (row2 bs), .sl C4 (row4 (putR bs its la r w b t).1), .int .i64 (putR bs its la r w b t).2.1, .int .i64 (putR bs its la r w b t).2.2] := by
  show (let o := putR (un2 (row2 bs)) (un4 (row4 its)) la r w b t; [C.sl C2 (row2 bs), .sl C4 (row4 o.1), .int .i64 o.2.1, .int .i64 o.2.2]) = _
  rw [un2_row, un4_row]
theorem plc_fnd {its : List I4} (hn : (its.map (·.1)).Nodup) (k : Int) : (0 ≤ plc its k ↔ (fnd4 its k).isSome = true) := by
  rcases plc_spec hn k with ⟨h1, h2⟩ | ⟨m, h1, h2, h3, _⟩
  · rw [h1, h2]; simp
  · rw [h2, h3]; simp
def tbl44 : FuncId → List A → List C := fun f ds => match f with
  | 33 => S33 ds
  | 38 => S38 ds
  | 40 => S40 ds
  | 50 => S50 ds
  | 51 => S51 ds
  | _ => []
theorem pc44  {x1 : List (List C)} {x2 : List (List C)} {x3 : Int} {x4 : Int} {x5 : Int} {x6 : Int} {x7 : Int} {row : List C} (hS : S44 [.agg [.c (.sl [.int .i64, .int .i64] x1), .c (.sl [.int .i64, .int .i64, .int .i64, .int .i64] x2), .c (.int .i64 x3)], .c (.int .i64 x4), .c (.int .i64 x5), .c (.int .i64 x6), .c (.int .i64 x7)] = row) (h : vc44 (stdE Try.prog tbl44) x1 x2 x3 x4 x5 x6 x7 fun c => c = row) : PCg Try.prog 44 S44 [(true, [.sl [.int .i64, .int .i64], .sl [.int .i64, .int .i64, .int .i64, .int .i64], .int .i64]), (false, [.int .i64])] [.agg [.c (.sl [.int .i64, .int .i64] x1), .c (.sl [.int .i64, .int .i64, .int .i64, .int .i64] x2), .c (.int .i64 x3)], .c (.int .i64 x4), .c (.int .i64 x5), .c (.int .i64 x6), .c (.int .i64 x7)] := PureC_vc mo h44 (by kernel_rfl) hS (w44  h)
theorem p44 {bs : List I2} {its : List I4} (hl : its.length ≤ 1000000) (hn : (its.map (·.1)).Nodup) (la r w b t : Int) : PCg Try.prog 44 S44 [kW, kI] [agR (row2 bs) (row4 its) la, iC r, iC w, iC b, iC t] := by
  refine pc44 (e44 ..) ?_
  unfold vc44
  simp only [stdE, baseE, Br_iff, Imp_iff, tbl44, forall_eq]
  simp only [p50, p40 _ hl, p38, p33 _ hl, p51 _ hl, implies_true, true_and]
  simp only [e50, e40, e38, e33, e51, List.getD_cons_zero, List.getD_cons_succ, gb_bool, gi_int, gl_sl, isN_b, row2_len, row2_c0, row2_c1]
  simp only [bite_orP, Bool.decide_eq_true, Bool.or_eq_true, Bool.or_eq_false_iff, Bool.not_eq_true', Bool.not_eq_false', decide_eq_true_eq, decide_eq_false_iff_not, plc_fnd hn]
  unfold putR
  refine ⟨fun h => ?_, fun h => ⟨fun h2 => ?_, fun h2 => ⟨fun h3 => ?_, fun h3 => ?_⟩⟩⟩
  · rw [if_pos (by rcases h with (((h | h) | h) | h) | h <;> simp [h])]
  · rw [if_neg (rng_no h), if_pos h2]
  · rw [if_neg (rng_no h), if_neg (by rw [h2]; simp), if_pos h3]
  · have hb := h3
    simp only [isB, Bool.and_eq_true, decide_eq_true_eq] at hb
    refine ⟨hb.1, hb.2, fun h4 => ?_, fun h4 => ⟨fun h5 => ?_, fun h5 => ⟨fun h6 => ?_, fun h6 => ?_⟩⟩⟩
    all_goals rw [if_neg (rng_no h), if_neg (by rw [h2]; simp), if_neg (by rw [h3]; simp)]
    · rw [if_pos h4]
    · rw [if_neg h4, if_pos h5]
    · rw [if_neg h4, if_neg h5, if_pos h6]
    · rw [if_neg h4, if_neg h5, if_neg h6]
def S45 : List A → List C := fun ds => match ds with
  | [.agg [.c (.sl _ x), .c (.sl _ y), .c (.int _ la)], .c (.int _ r), .c (.int _ b), .c (.int _ t)] => let o := movR (un2 x) (un4 y) la r b t; [.sl C2 x, .sl C4 (row4 o.1), .int .i64 o.2.1, .int .i64 o.2.2]
  | _ => []
theorem e45 (bs : List I2) (its : List I4) (la r b t : Int) : S45 [agR (row2 bs) (row4 its) la, iC r, iC b, iC t] = [.sl C2 (row2 bs), .sl C4 (row4 (movR bs its la r b t).1), .int .i64 (movR bs its la r b t).2.1, .int .i64 (movR bs its la r b t).2.2] := by
  show (let o := movR (un2 (row2 bs)) (un4 (row4 its)) la r b t; [C.sl C2 (row2 bs), .sl C4 (row4 o.1), .int .i64 o.2.1, .int .i64 o.2.2]) = _
  rw [un2_row, un4_row]
def tbl45 : FuncId → List A → List C := fun f ds => match f with
  | 33 => S33 ds
  | 38 => S38 ds
  | 40 => S40 ds
  | 50 => S50 ds
  | 51 => S51 ds
  | 52 => S52 ds
  | _ => []
theorem pc45  {x1 : List (List C)} {x2 : List (List C)} {x3 : Int} {x4 : Int} {x5 : Int} {x6 : Int} {row : List C} (hS : S45 [.agg [.c (.sl [.int .i64, .int .i64] x1), .c (.sl [.int .i64, .int .i64, .int .i64, .int .i64] x2), .c (.int .i64 x3)], .c (.int .i64 x4), .c (.int .i64 x5), .c (.int .i64 x6)] = row) (h : vc45 (stdE Try.prog tbl45) x1 x2 x3 x4 x5 x6 fun c => c = row) : PCg Try.prog 45 S45 [(true, [.sl [.int .i64, .int .i64], .sl [.int .i64, .int .i64, .int .i64, .int .i64], .int .i64]), (false, [.int .i64])] [.agg [.c (.sl [.int .i64, .int .i64] x1), .c (.sl [.int .i64, .int .i64, .int .i64, .int .i64] x2), .c (.int .i64 x3)], .c (.int .i64 x4), .c (.int .i64 x5), .c (.int .i64 x6)] := PureC_vc mo h45 (by kernel_rfl) hS (w45  h)
theorem p45 {bs : List I2} {its : List I4} (hl : its.length ≤ 1000000) (hn : (its.map (·.1)).Nodup) (la r b t : Int) : PCg Try.prog 45 S45 [kW, kI] [agR (row2 bs) (row4 its) la, iC r, iC b, iC t] := by
  refine pc45 (e45 ..) ?_
  unfold vc45
  simp only [stdE, baseE, Br_iff, Imp_iff, tbl45, forall_eq]
  simp only [p50, p40 _ hl, p38, p33 _ hl, implies_true, true_and]
  rcases plc_spec hn r with ⟨hf, hp⟩ | ⟨m, hm, hp, hf, hd⟩
  · simp only [e40, List.getD_cons_zero, gi_int, hp]
    refine ⟨fun _ => ?_, fun h => absurd h (by simp)⟩
    simp [movR, hf]
  · have hc : cnt4 its b = cnt4 its b := rfl
    have hl' : (its.take m ++ its.drop (m + 1)).length ≤ 1000000 := by simp; omega
    simp only [e40, List.getD_cons_zero, gi_int, hp]
    simp only [p52 _ hl _ hm, true_and]
    simp only [e52, List.getD_cons_zero, List.getD_cons_succ, gl_sl, gi_int, toNat_cast, row4_c1]
    simp only [p51 _ hl', true_and]
    simp only [e38, List.getD_cons_zero, gi_int, gb_bool, isN_b, row4_len, row2_len, row4_c2, row2_c0, row2_c1, List.getD_cons_succ, gl_sl, e51, e50, e33]
    simp only [bite_orP, Bool.decide_eq_true, Bool.or_eq_true, Bool.or_eq_false_iff, Bool.not_eq_true', Bool.not_eq_false', decide_eq_true_eq, decide_eq_false_iff_not, beq_iff_eq, beq_eq_false_iff_ne]
    simp only [movR, hf]
    refine ⟨fun h => ?_, fun h => ⟨by omega, by omega, fun h2 => ?_, fun h2 => ?_⟩⟩
    · rw [if_pos (by rcases h with h | h; omega; exact h)]
    · rw [if_neg (by rw [h.2]; simp), if_pos h2]
    · have hb := h.2
      simp only [isB, Bool.and_eq_true, decide_eq_true_eq] at hb
      refine ⟨hb.1, hb.2, fun h4 => ?_, fun h4 => ⟨fun h5 => ?_, fun h5 => ⟨fun h6 => ?_, fun h6 => ⟨fun h7 => ?_, fun h7 => ?_⟩⟩⟩⟩
      all_goals rw [if_neg (by rw [h.2]; simp), if_neg h2]
      · rw [if_pos h4]
      · rw [if_neg h4, if_pos h5]
      · rw [if_neg h4, if_neg (by rw [h5]; simp), if_pos h6]
      · rw [if_neg h4, if_neg (by rw [h5]; simp), if_neg h6, if_pos h7]
      · rw [if_neg h4, if_neg (by rw [h5]; simp), if_neg h6, if_neg h7, hd]
def S46 : List A → List C := fun ds => match ds with
  | [.agg [.c (.sl _ x), .c (.sl _ y), .c (.int _ la)], .c (.int _ r)] => let o := takR (un4 y) la r; [.sl C2 x, .sl C4 (row4 o.1), .int .i64 o.2.1, .int .i64 o.2.2.1, .int .i64 o.2.2.2]
  | _ => []
theorem e46 (x : List (List C)) (its : List I4) (la r : Int) : S46 [agR x (row4 its) la, iC r] = [.sl C2 x, .sl C4 (row4 (takR its la r).1), .int .i64 (takR its la r).2.1, .int .i64 (takR its la r).2.2.1, .int .i64 (takR its la r).2.2.2] := by
  show (let o := takR (un4 (row4 its)) la r; [C.sl C2 x, .sl C4 (row4 o.1), .int .i64 o.2.1, .int .i64 o.2.2.1, .int .i64 o.2.2.2]) = _
  rw [un4_row]
def tbl46 : FuncId → List A → List C := fun f ds => match f with
  | 40 => S40 ds
  | 52 => S52 ds
  | _ => []
theorem pc46  {x1 : List (List C)} {x2 : List (List C)} {x3 : Int} {x4 : Int} {row : List C} (hS : S46 [.agg [.c (.sl [.int .i64, .int .i64] x1), .c (.sl [.int .i64, .int .i64, .int .i64, .int .i64] x2), .c (.int .i64 x3)], .c (.int .i64 x4)] = row) (h : vc46 (stdE Try.prog tbl46) x1 x2 x3 x4 fun c => c = row) : PCg Try.prog 46 S46 [(true, [.sl [.int .i64, .int .i64], .sl [.int .i64, .int .i64, .int .i64, .int .i64], .int .i64]), (false, [.int .i64]), (false, [.int .i64])] [.agg [.c (.sl [.int .i64, .int .i64] x1), .c (.sl [.int .i64, .int .i64, .int .i64, .int .i64] x2), .c (.int .i64 x3)], .c (.int .i64 x4)] := PureC_vc mo h46 (by kernel_rfl) hS (w46  h)
theorem p46 (x : List (List C)) {its : List I4} (hl : its.length ≤ 1000000) (hn : (its.map (·.1)).Nodup) (la r : Int) : PCg Try.prog 46 S46 [kW, kI, kI] [agR x (row4 its) la, iC r] := by
  refine pc46 (e46 ..) ?_
  unfold vc46
  simp only [stdE, baseE, Br_iff, Imp_iff, tbl46, forall_eq]
  simp only [p40 _ hl, true_and]
  rcases plc_spec hn r with ⟨hf, hp⟩ | ⟨m, hm, hp, hf, hd⟩
  · simp only [e40, List.getD_cons_zero, gi_int, hp]
    refine ⟨fun _ => ?_, fun h => absurd h (by simp)⟩
    simp [takR, hf]
  · simp only [e40, List.getD_cons_zero, gi_int, hp]
    simp only [p52 _ hl _ hm, true_and]
    simp only [row4_len, toNat_cast, row4_c2, e52, List.getD_cons_zero, List.getD_cons_succ, gl_sl, gi_int, decide_eq_true_eq, decide_eq_false_iff_not]
    simp only [takR, hf, hd]
    exact ⟨fun h => by omega, fun _ => ⟨by omega, by omega, trivial⟩⟩
def rfV (its : List I4) (k : Int) : List C := match fnd4 its k with
  | some x => [.int .i64 x.1, .int .i64 x.2.2.1, .int .i64 x.2.2.2, .bool true]
  | none => [.int .i64 0, .int .i64 0, .int .i64 0, .bool false]
def S21 : List A → List C := fun ds => match ds with
  | [.el _ [[_, .sl _ y, _]] _ _, .c (.int _ k)] => rfV (un4 y) k
  | _ => []
theorem e21 (x : List (List C)) (its : List I4) (la k : Int) : S21 [elR x (row4 its) la, iC k] = rfV its k := by
  show rfV (un4 (row4 its)) k = _
  rw [un4_row]
def tbl21 : FuncId → List A → List C := fun f ds => match f with
  | 39 => S39 ds
  | 40 => S40 ds
  | _ => []
theorem pc21  {x1 : List (List C)} {x2 : List (List C)} {x3 : Int} {x5 : Int} {row : List C} (hS : S21 [.el [.sl [.int .i64, .int .i64], .sl [.int .i64, .int .i64, .int .i64, .int .i64], .int .i64] [[.sl [.int .i64, .int .i64] x1, .sl [.int .i64, .int .i64, .int .i64, .int .i64] x2, .int .i64 x3]] 0 0, .c (.int .i64 x5)] = row) (h : vc21 (stdE Try.prog tbl21) x1 x2 x3 x5 fun c => c = row) : PCg Try.prog 21 S21 [(true, [.int .i64, .int .i64, .int .i64]), (false, [.bool])] [.el [.sl [.int .i64, .int .i64], .sl [.int .i64, .int .i64, .int .i64, .int .i64], .int .i64] [[.sl [.int .i64, .int .i64] x1, .sl [.int .i64, .int .i64, .int .i64, .int .i64] x2, .int .i64 x3]] 0 0, .c (.int .i64 x5)] := PureC_vc mo h21 (by kernel_rfl) hS (w21  h)
theorem p21 (x : List (List C)) {its : List I4} (hl : its.length ≤ 1000000) (hn : (its.map (·.1)).Nodup) (la k : Int) : PCg Try.prog 21 S21 [kA3, kB] [elR x (row4 its) la, iC k] := by
  refine pc21 (e21 ..) ?_
  unfold vc21
  simp only [stdE, baseE, Br_iff, Imp_iff, tbl21, forall_eq]
  simp only [el0, List.getD_cons_zero, List.getD_cons_succ, gl_sl, gi_int]
  simp only [p40 _ hl, p39, true_and]
  simp only [e40, e39, List.getD_cons_zero, List.getD_cons_succ, gi_int, row4_len, decide_eq_true_eq, decide_eq_false_iff_not]
  rcases plc_spec hn k with ⟨hf, hp⟩ | ⟨m, hm, hp, hf, hd⟩
  · rw [hp]
    simp [rfV, hf]
  · rw [hp]
    simp only [toNat_cast, row4_c0, row4_c2, row4_c3, rfV, hf]
    simp
    omega
/-- The first of the items that the rolls name. -/
def oldR (its : List I4) (ks : List Int) : List C := match its.find? (fun x => ks.any fun k => k == x.1) with
  | some x => [.int .i64 x.1, .int .i64 0]
  | none => [.int .i64 0, .int .i64 7]
def S23 : List A → List C := fun ds => match ds with
  | [.el _ [[_, .sl _ y, _]] _ _, .c (.sl _ ks)] => oldR (un4 y) (prI ks)
  | _ => []
theorem e23 (x : List (List C)) (its : List I4) (la : Int) (ks : List Int) : S23 [elR x (row4 its) la, sI (rowsI ks)] = oldR its ks := by
  show oldR (un4 (row4 its)) (prI (rowsI ks)) = _
  rw [un4_row, prI_rowsI]
def tbl23 : FuncId → List A → List C := fun f ds => match f with
  | _ => []
theorem pc23  {x1 : List (List C)} {x2 : List (List C)} {x3 : Int} {x5 : List (List C)} {row : List C} (hS : S23 [.el [.sl [.int .i64, .int .i64], .sl [.int .i64, .int .i64, .int .i64, .int .i64], .int .i64] [[.sl [.int .i64, .int .i64] x1, .sl [.int .i64, .int .i64, .int .i64, .int .i64] x2, .int .i64 x3]] 0 0, .c (.sl [.int .i64] x5)] = row) (h : vc23 (stdE Try.prog tbl23) x1 x2 x3 x5 fun c => c = row) : PCg Try.prog 23 S23 [(false, [.int .i64]), (false, [.int .i64])] [.el [.sl [.int .i64, .int .i64], .sl [.int .i64, .int .i64, .int .i64, .int .i64], .int .i64] [[.sl [.int .i64, .int .i64] x1, .sl [.int .i64, .int .i64, .int .i64, .int .i64] x2, .int .i64 x3]] 0 0, .c (.sl [.int .i64] x5)] := PureC_vc mo h23 (by kernel_rfl) hS (w23  h)
theorem p23 (x : List (List C)) {its : List I4} (hl : its.length ≤ 1000000) (la : Int) {ks : List Int} (hk : ks.length ≤ 1000000) : PCg Try.prog 23 S23 [kI, kI] [elR x (row4 its) la, sI (rowsI ks)] := by
  refine pc23 (e23 ..) ?_
  unfold vc23
  simp only [stdE, baseE, Br_iff, Imp_iff, el0, List.getD_cons_zero, List.getD_cons_succ, gl_sl, rowsI_len, row4_len, decide_eq_true_eq, decide_eq_false_iff_not]
  simp only [Bool.false_eq_true, false_implies, true_and, true_implies]
  refine find_loop (p := fun i => ks.any fun k => k == (its.getD i z4).1) (n := its.length) (A' := fun i => oldR its ks = [.int .i64 (its.getD i z4).1, .int .i64 0]) (B := oldR its ks = [.int .i64 0, .int .i64 7]) (by omega) ?_ ?_ ?_ ?_
  · intro i K hi ha hf
    simp only [toNat_cast, row4_c0]
    refine ⟨fun _ => ?_, fun h => by omega⟩
    refine find_loop (p := fun j => ks.getD j 0 == (its.getD i z4).1) (n := ks.length) (A' := fun j => oldR its ks = [.int .i64 (ks.getD j 0), .int .i64 0]) (B := (ks.any fun k => k == (its.getD i z4).1) = false) (by omega) ?_ ?_ ?_ ?_
    · intro j K2 hj ha2 hf2
      simp only [toNat_cast, rowsI_getD]
      refine ⟨fun _ => ⟨by omega, by omega, fun c => by rw [ha2 c], fun c => ?_⟩, fun h => by omega⟩
      rw [wrap_up rfl (by omega)]
      exact hf2 c
    · intro K2 hB
      refine ⟨fun h => by omega, fun _ => ?_⟩
      rw [wrap_up rfl (by omega)]
      exact hf hB
    · intro j hj _ c
      have c' := beq_iff_eq.1 c
      rw [c']
      exact ha (List.any_eq_true.2 ⟨ks[j], List.getElem_mem hj, by rw [getD_el hj] at c; exact c⟩)
    · intro h
      have := ixF_none h
      refine List.any_eq_false.2 fun k hk => ?_
      obtain ⟨j, hj, rfl⟩ := List.getElem_of_mem hk
      have := this j hj
      rw [getD_el hj] at this
      rw [this]; simp
  · intro K hB
    exact ⟨fun h => by omega, fun _ => by rw [hB]⟩
  · intro i hi h4 h5
    rcases ixF_spec its.length (fun i => ks.any fun k => k == (its.getD i z4).1) _ 0 rfl with ⟨g1, _⟩ | ⟨m, _, g2, g3, g4, g5⟩
    · omega
    · have : m = i := by omega
      subst this
      have hfd : its.find? (fun x => ks.any fun k => k == x.1) = some (its.getD m z4) := List.find?_eq_some_iff_getElem.2 ⟨h5, m, g2, (getD_el g2).symm, fun j hj => by
        have := g5 j (Nat.zero_le _) hj
        rw [getD_el (by omega)] at this
        rw [this]; rfl⟩
      unfold oldR
      rw [hfd]
  · intro h
    have h2 := ixF_none h
    have hfd : its.find? (fun x => ks.any fun k => k == x.1) = none := List.find?_eq_none.2 fun x hx => by
      obtain ⟨i, hi, rfl⟩ := List.getElem_of_mem hx
      have := h2 i hi
      rw [getD_el hi] at this
      rw [this]; simp
    unfold oldR
    rw [hfd]
end Go.Proofs.Ytniijahjfbgfpaa.V
