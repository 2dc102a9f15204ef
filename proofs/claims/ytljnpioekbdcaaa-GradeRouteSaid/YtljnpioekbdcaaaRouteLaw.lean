/- Routes: in the reference, and what is said of them. No conditions. -/
import Derived.Test.YtljnpioekbdcaaaRouteR
set_option linter.unusedVariables false
set_option linter.unusedSimpArgs false
namespace Go.Proofs.Ytljnpioekbdcaaa.V
open Go Go.Eng
set_option maxRecDepth 1000000
set_option maxHeartbeats 1000000
def S45 : List A → List C := fun ds => match ds with
  | [.c (.sl _ xs), .c (.int _ x)] => [.bool (decide (x ∈ prI xs))]
  | _ => []
theorem e45 (w : List Int) (x : Int) : S45 [sI (rowsI w), iC x] = [.bool (decide (x ∈ w))] := by
  show [C.bool (decide (x ∈ prI (rowsI w)))] = _
  rw [prI_rowsI]
theorem ix_mem {w : List Int} {x : Int} : ixF w.length (fun j => w.getD j 0 == x) 0 = -1 ↔ x ∉ w := by
  rcases ixF_spec w.length (fun j => w.getD j 0 == x) _ 0 rfl with ⟨h1, h2⟩ | ⟨m, _, h2, h3, h4, _⟩
  · refine ⟨fun _ hm => ?_, fun _ => h1⟩
    obtain ⟨i, hi, e⟩ := List.mem_iff_getElem.1 hm
    have := h2 i (Nat.zero_le _) hi
    rw [getD_get hi] at this
    simp [e] at this
  · refine ⟨fun h => by omega, fun h => absurd ?_ h⟩
    have : w.getD m 0 = x := by simpa using h4
    rw [← this]; exact getD_mem h2
def tbl45 : FuncId → List A → List C := fun f ds => match f with
  | _ => []
theorem pc45  {x1 : List (List C)} {x2 : Int} {row : List C} (hS : S45 [.c (.sl [.int .i64] x1), .c (.int .i64 x2)] = row) (h : vc45 (stdE Try.prog tbl45) x1 x2 fun c => c = row) : PCg Try.prog 45 S45 [(false, [.bool])] [.c (.sl [.int .i64] x1), .c (.int .i64 x2)] := PureC_vc mo h45 (by kernel_rfl) hS (w45  h)
theorem p45 {w : List Int} (hw : w.length ≤ 1000000) (x : Int) : PCg Try.prog 45 S45 [kB] [sI (rowsI w), iC x] := by
  refine pc45 (e45 ..) ?_
  unfold vc45
  simp only [stdE, baseE, Br_iff, Imp_iff, tbl45, forall_eq, rowsI_len, rowsI_getD]
  refine find_loop (p := fun j => w.getD j 0 == x) (n := w.length) (A' := fun k => [C.bool true] = [.bool (decide (x ∈ w))]) (B := [C.bool false] = [.bool (decide (x ∈ w))]) (by omega) ?_ ?_ ?_ ?_
  · intro k K hk ha hf
    simp only [decide_eq_true_eq, decide_eq_false_iff_not, toNat_cast]
    refine ⟨fun _ => ⟨by omega, fun h => ha h, fun h => ?_⟩, fun h => by omega⟩
    rw [wrap_up rfl (by omega)]; exact hf h
  · intro K hB
    simp only [decide_eq_true_eq, decide_eq_false_iff_not]
    exact ⟨fun h => by omega, fun _ => hB⟩
  · intro k hk h1 h2
    rw [decide_eq_true (Classical.not_not.1 fun q => by rw [ix_mem.2 q] at h1; omega)]
  · intro h
    rw [decide_eq_false (ix_mem.1 h)]
def S47 : List A → List C := fun ds => match ds with
  | [.c (.sl _ xs)] => [.sl [.int .i64] (rowsI (rsg (prI xs)))]
  | _ => []
theorem e47 (w : List Int) : S47 [sI (rowsI w)] = [.sl [.int .i64] (rowsI (rsg w))] := by
  show [C.sl [.int .i64] (rowsI (rsg (prI (rowsI w))))] = _
  rw [prI_rowsI]
theorem rsg_len (w : List Int) : (rsg w).length = w.length := (rsg_spec w).1.length_eq
def tbl47 : FuncId → List A → List C := fun f ds => match f with
  | _ => []
theorem pc47  {x1 : List (List C)} {row : List C} (hS : S47 [.c (.sl [.int .i64] x1)] = row) (h : vc47 (stdE Try.prog tbl47) x1 fun c => c = row) : PCg Try.prog 47 S47 [(false, [.sl [.int .i64]])] [.c (.sl [.int .i64] x1)] := PureC_vc mo h47 (by kernel_rfl) hS (w47  h)
theorem p47 {w : List Int} (hw : w.length ≤ 1000000) : PCg Try.prog 47 S47 [kL] [sI (rowsI w)] := by
  refine pc47 (e47 ..) ?_
  unfold vc47
  simp only [stdE, baseE, Br_iff, Imp_iff, tbl47, forall_eq, rowsI_len, rowsI_getD]
  refine LoopP2.run (fun n : Nat => rowsI (rsg (w.take n))) (fun n => (n : Int)) (fun n => n ≤ w.length) (fun n => w.length - n) 0 (Nat.zero_le _) rfl rfl ?_
  intro n hn K4 hK4
  simp only [decide_eq_true_eq, decide_eq_false_iff_not, toNat_cast]
  refine ⟨fun h1 => ?_, fun h1 => ?_⟩
  · have hlt : n < w.length := by omega
    obtain ⟨l, hl⟩ : ∃ l, rsg (w.take n) = l := ⟨_, rfl⟩
    have hll : l.length ≤ 1000000 := by rw [← hl, rsg_len]; simp; omega
    rw [hl]
    simp only [rowsI_len, rowsI_getD]
    refine LoopP1.run (fun j : Nat => (j : Int)) (fun j => j ≤ l.length ∧ ∀ q, q < j → l.getD q 0 < w.getD n 0) (fun j => l.length - j) 0 ⟨Nat.zero_le _, fun q hq => absurd hq (Nat.not_lt_zero q)⟩ rfl ?_
    rintro j ⟨hj, hq⟩ K6 hK6
    simp only [toNat_cast]
    refine ⟨fun _ => by omega, fun _ => by omega, fun h2 => ?_, fun h2 => ?_⟩
    · by_cases h3 : (j : Int) < l.length
      · rw [if_pos h3] at h2
        have h2 := of_decide_eq_true h2
        refine hK6 _ (j + 1) ⟨by omega, fun q hq' => ?_⟩ (by omega) (wrap_up rfl (by omega))
        by_cases e : q = j
        · rw [e]; exact h2
        · exact hq q (by omega)
      · rw [if_neg h3] at h2; cases h2
    · have h2' : j < l.length → ¬ l.getD j 0 < w.getD n 0 := fun h3 => by
        rw [if_pos (show (j : Int) < l.length by omega)] at h2
        exact of_decide_eq_false h2
      obtain ⟨t1, t2⟩ := tw_take (p := fun y => decide (y < w.getD n 0)) l j (fun q hq' => ⟨by omega, by simpa using hq q hq'⟩) (fun h3 => by simpa using h2' h3)
      have hins : rsg (w.take (n + 1)) = l.take j ++ [w.getD n 0] ++ l.drop j := by rw [take1 hlt, rsg_snoc, hl, insA, t1, t2]
      have e1 : (0 + ((j : Int) - 0)).toNat = j := by omega
      have e2 : ((j : Int) + ((l.length : Int) - (j : Int))).toNat = l.length := by omega
      simp only [e1, e2, Int.toNat_zero, List.drop_zero, List.nil_append]
      have e3 : (rowsI l).take l.length = rowsI l := by rw [← rowsI_len l, List.take_length]
      have e4 : List.take j (rowsI l) ++ [[C.int IntKind.i64 (w.getD n 0)]] ++ List.drop j (List.take l.length (rowsI l)) = rowsI (rsg (w.take (n + 1))) := by
        rw [e3, hins]; simp [rowsI, List.map_take, List.map_drop]
      rw [e4]
      refine ⟨Int.le_refl _, by omega, by omega, by simp [rowsI_len]; omega, by omega, by simp [rowsI_len]; omega, Int.le_refl _, by rw [e3]; simp [rowsI_len]; omega, hK4 _ _ (n + 1) (by omega) (by omega) rfl (wrap_up rfl (by omega))⟩
  · have : n = w.length := by omega
    rw [this, List.take_length]
theorem lenL_take {g : List (List C)} {w : List Int} {n : Nat} (h : n + 1 < w.length) : lenL g (w.take (n + 2)) = lenL g (w.take (n + 1)) + stp g (w.getD n 0) (w.getD (n + 1) 0) := by
  rw [show n + 2 = (n + 1) + 1 by omega, take1 (show n + 1 < w.length by omega), lenL_snoc _ _ (fun e => by have := congrArg List.length e; rw [List.length_take] at this; simp only [List.length_nil] at this; omega)]
  have hl : (w.take (n + 1)).length = n + 1 := by simp; omega
  rw [hl]
  congr 2
  simp [List.getD]
noncomputable def lnc : { f : List (List C) → List Int → Int // f = lenL } := ⟨lenL, rfl⟩
def S26 : List A → List C := fun ds => match ds with
  | [.c (.sl _ g), .c (.sl _ xs)] => [.int .i64 (lenL g (prI xs))]
  | _ => []
theorem e26 (g : List (List C)) (w : List Int) : S26 [sG g, sI (rowsI w)] = [.int .i64 (lenL g w)] := by
  show [C.int .i64 (lenL g (prI (rowsI w)))] = _
  rw [prI_rowsI]
def tbl26 : FuncId → List A → List C := fun f ds => match f with
  | 37 => S37 ds
  | _ => []
theorem pc26  {x1 : List (List C)} {x2 : List (List C)} {row : List C} (hS : S26 [.c (.sl [.str, .int .i64, .int .i64, .int .i64, .int .i64, .int .i64, .sl [.int .i64], .int .i64] x1), .c (.sl [.int .i64] x2)] = row) (h : vc26 (stdE Try.prog tbl26) x1 x2 fun c => c = row) : PCg Try.prog 26 S26 [(false, [.int .i64])] [.c (.sl [.str, .int .i64, .int .i64, .int .i64, .int .i64, .int .i64, .sl [.int .i64], .int .i64] x1), .c (.sl [.int .i64] x2)] := PureC_vc mo h26 (by kernel_rfl) hS (w26  h)
theorem p26 {g : List (List C)} (hg : okG g) {w : List Int} (hi : inG g w) (hw : w.length ≤ 1000) : PCg Try.prog 26 S26 [kI] [sG g, sI (rowsI w)] := by
  refine pc26 (e26 ..) ?_
  unfold vc26
  simp only [stdE, baseE, Br_iff, Imp_iff, tbl26, forall_eq, rowsI_len, rowsI_getD]
  simp only [p37, implies_true, true_and]
  simp only [e37, List.getD_cons_zero, gi_int, decide_eq_true_eq, decide_eq_false_iff_not, bas_cell]
  refine LoopP2.run (fun n : Nat => lenL g (w.take (n + 1))) (fun n => ((n + 1 : Nat) : Int)) (fun n => n ≤ w.length ∧ (0 < n → n + 1 ≤ w.length)) (fun n => w.length - n) 0 ⟨Nat.zero_le _, fun h => absurd h (Nat.lt_irrefl 0)⟩ ?_ rfl ?_
  · cases w with
    | nil => rfl
    | cons a t => simp [lenL]
  rintro n ⟨h1, h2⟩ K hK
  have ew : IntKind.i64.wrap (((n + 1 : Nat) : Int) - 1) = n := by rw [wrap_in (by omega) (by omega)]; omega
  simp only [ew, toNat_cast]
  refine ⟨fun h3 => ?_, fun h3 => ?_⟩
  · have hlt : n + 1 < w.length := by omega
    have i1 := hi _ (getD_mem (d := 0) (show n < w.length by omega))
    have i2 := hi _ (getD_mem (d := 0) hlt)
    have hs := stp_ok hg i1 i2
    have hlo := lenL_ok hg (w.take (n + 1)) fun q hq => hi q (List.mem_of_mem_take hq)
    have htl : (w.take (n + 1)).length ≤ 1000 := by simp; omega
    refine ⟨by omega, by omega, i1.1, i1.2, by omega, i2.1, i2.2, ?_⟩
    rw [stp_apart hg i1 i2, wrap_in (n := lenL g (w.take (n + 1)) + stp g (w.getD n 0) (w.getD (n + 1) 0)) (by omega) (by omega), wrap_up rfl (by omega), ← lenL_take hlt]
    exact hK _ _ (n + 1) ⟨by omega, fun _ => by omega⟩ (by omega) rfl rfl
  · rw [List.take_of_length_le (by omega)]
def S46 : List A → List C := fun ds => match ds with
  | [.c (.sl _ g), .c (.sl _ b), .c (.sl _ l)] => [.sl [.int .i64] (rowsI (best g (prI l).length (prI b) (prI l)))]
  | _ => []
theorem e46 (g : List (List C)) (b l : List Int) : S46 [sG g, sI (rowsI b), sI (rowsI l)] = [.sl [.int .i64] (rowsI (best g l.length b l))] := by
  show [C.sl [.int .i64] (rowsI (best g (prI (rowsI l)).length (prI (rowsI b)) (prI (rowsI l))))] = _
  rw [prI_rowsI, prI_rowsI]
def tbl46 : FuncId → List A → List C := fun f ds => match f with
  | 26 => S26 ds
  | 46 => S46 ds
  | _ => []
theorem pc46  {x1 : List (List C)} {x2 : List (List C)} {x3 : List (List C)} {row : List C} (hS : S46 [.c (.sl [.str, .int .i64, .int .i64, .int .i64, .int .i64, .int .i64, .sl [.int .i64], .int .i64] x1), .c (.sl [.int .i64] x2), .c (.sl [.int .i64] x3)] = row) (h : vc46 (stdE Try.prog tbl46) x1 x2 x3 fun c => c = row) : PCg Try.prog 46 S46 [(false, [.sl [.int .i64]])] [.c (.sl [.str, .int .i64, .int .i64, .int .i64, .int .i64, .int .i64, .sl [.int .i64], .int .i64] x1), .c (.sl [.int .i64] x2), .c (.sl [.int .i64] x3)] := PureC_vc mo h46 (by kernel_rfl) hS (w46  h)
theorem p46 {g : List (List C)} (hg : okG g) : ∀ (n : Nat) (b l : List Int), l.length = n → b ≠ [] → inG g (b ++ l) → b.length + l.length ≤ 8 → PCg Try.prog 46 S46 [kL] [sG g, sI (rowsI b), sI (rowsI l)] := by
  intro n
  induction n with
  | zero =>
    intro b l hl hb hi h8
    have : l = [] := List.length_eq_zero_iff.1 hl
    subst this
    refine pc46 (e46 ..) ?_
    unfold vc46
    simp only [stdE, baseE, Br_iff, rowsI_len, best_nil]
    exact ⟨fun _ => trivial, fun h => by simp at h⟩
  | succ n ih =>
    intro b l hl hb hi h8
    have hne : l ≠ [] := fun e => by rw [e] at hl; simp at hl
    refine pc46 (e46 ..) ?_
    unfold vc46
    simp only [stdE, baseE, Br_iff, Imp_iff, tbl46, forall_eq, rowsI_len, rowsI_getD]
    refine ⟨fun h => by have := eq_of_beq h; omega, fun _ => ?_⟩
    have hX : ∀ i, i < l.length → cho g n b l i ≠ [] := fun i hi' => best_ne (by rw [List.length_eraseIdx_of_lt hi']; omega) (by simp)
    have hXl : ∀ i, i < l.length → inG g (cho g n b l i) ∧ (cho g n b l i).length ≤ 8 := fun i hi' => by
      have hle := List.length_eraseIdx_of_lt hi'
      have hin : inG g ((b ++ [l.getD i 0]) ++ l.eraseIdx i) := fun q hq => hi q (by
        rcases List.mem_append.1 hq with hq | hq
        · rcases List.mem_append.1 hq with hq | hq
          · exact List.mem_append.2 (.inl hq)
          · simp at hq; subst hq; exact List.mem_append.2 (.inr (by have := getD_mem (d := 0) hi'; simpa using this))
        · exact List.mem_append.2 (.inr (List.eraseIdx_subset hq)))
      refine ⟨best_in (by omega) (by simp) hin, ?_⟩
      obtain ⟨r, e, hp, _⟩ := best_spec (g := g) n (b ++ [l.getD i 0]) (l.eraseIdx i) (by omega) (by simp)
      unfold cho
      rw [e]
      have := hp.length_eq
      simp; omega
    have hbest : best g l.length b l = mn (cho g n b l) g l.length := by rw [hl, best_succ, if_neg hne, hl]
    rw [hbest]
    refine LoopP2.run (fun k : Nat => rowsI (mn (cho g n b l) g k)) (fun k => (k : Int)) (fun k => k ≤ l.length) (fun k => l.length - k) 0 (Nat.zero_le _) rfl rfl ?_
    intro k hk K hK
    simp only [decide_eq_true_eq, decide_eq_false_iff_not, toNat_cast]
    refine ⟨fun h1 => ?_, fun h1 => ?_⟩
    · have hkl : k < l.length := by omega
      rw [wrap_up rfl (by omega)]
      have c1 : List.drop (Int.toNat 0) (List.take k (rowsI l)) = rowsI (l.take k) := by simp [rowsI, List.map_take]
      have c2 : List.drop (((k + 1 : Nat) : Int)).toNat (List.take l.length (rowsI l)) = rowsI (l.drop (k + 1)) := by
        rw [Int.toNat_natCast, ← rowsI_len l, List.take_length]; simp [rowsI, List.map_drop]
      have c3 : ([] : List (List C)) ++ rowsI (l.take k) ++ rowsI (l.drop (k + 1)) = rowsI (l.eraseIdx k) := by rw [List.nil_append, ← rowsI_append, ← List.eraseIdx_eq_take_drop_succ]
      have c4 : ([] : List (List C)) ++ rowsI b ++ [[C.int IntKind.i64 (l.getD k 0)]] = rowsI (b ++ [l.getD k 0]) := by rw [rowsI_append]; rfl
      have hle := List.length_eraseIdx_of_lt hkl
      simp only [c1, c2, c3, c4]
      have hin : inG g ((b ++ [l.getD k 0]) ++ l.eraseIdx k) := fun q hq => hi q (by
        rcases List.mem_append.1 hq with hq | hq
        · rcases List.mem_append.1 hq with hq | hq
          · exact List.mem_append.2 (.inl hq)
          · simp at hq; subst hq; exact List.mem_append.2 (.inr (by have := getD_mem (d := 0) hkl; simpa using this))
        · exact List.mem_append.2 (.inr (List.eraseIdx_subset hq)))
      simp only [ih (b ++ [l.getD k 0]) (l.eraseIdx k) (by omega) (by simp) hin (by rw [hle]; simp; omega), true_and]
      simp only [e46, List.getD_cons_zero, gl_sl]
      have hcho : best g (l.eraseIdx k).length (b ++ [l.getD k 0]) (l.eraseIdx k) = cho g n b l k := by unfold cho; rw [hle, hl]; rfl
      rw [hcho]
      have hm8 : mn (cho g n b l) g k ≠ [] → inG g (mn (cho g n b l) g k) ∧ (mn (cho g n b l) g k).length ≤ 8 := fun q => by
        cases k with
        | zero => exact absurd rfl q
        | succ k =>
          obtain ⟨i, i1, i2, _⟩ := mn_spec (g := g) (X := cho g n b l) k fun i hi' => hX i (by omega)
          rw [i2]; exact hXl i (by omega)
      have hL1 := p26 hg (hXl k hkl).1 (by have := (hXl k hkl).2; omega)
      refine ⟨Int.le_refl _, by omega, by omega, by simp [rowsI_len]; omega, by omega, by omega, Int.le_refl _, by simp [rowsI_len]; omega, by simp [rowsI_len]; omega, by simp [rowsI_len]; omega, fun _ => hL1, fun q => ?_, ?_⟩
      · have hmn : mn (cho g n b l) g k ≠ [] := fun e => by rw [e] at q; simp [rowsI] at q
        have := hm8 hmn
        exact p26 hg this.1 (by omega)
      · simp only [e26, List.getD_cons_zero, gi_int, rowsI_len]
        refine ⟨fun q => ?_, fun q => ?_⟩
        · refine hK _ _ (k + 1) (by omega) (by omega) ?_ rfl
          rw [mn_succ, if_pos]
          by_cases e : mn (cho g n b l) g k = []
          · exact .inl e
          · refine .inr ?_
            have h0 : ((mn (cho g n b l) g k).length : Int) ≠ 0 := fun h0 => e (List.length_eq_zero_iff.1 (by omega))
            rw [if_neg (by simpa using h0)] at q
            exact of_decide_eq_true q
        · refine hK _ _ (k + 1) (by omega) (by omega) ?_ rfl
          rw [mn_succ, if_neg]
          by_cases e : ((mn (cho g n b l) g k).length : Int) = 0
          · rw [if_pos (by simpa using e)] at q; cases q
          · rw [if_neg (by simpa using e)] at q
            have := of_decide_eq_false q
            rintro (h | h)
            · rw [h] at e; simp at e
            · exact this h
    · rw [show k = l.length by omega]
def tbl23 : FuncId → List A → List C := fun f ds => match f with
  | 13 => S13 ds
  | 45 => S45 ds
  | 46 => S46 ds
  | 47 => S47 ds
  | _ => []
theorem pc23  {x1 : List (List C)} {x2 : Int} {x3 : List (List C)} {row : List C} (hS : S23 [.c (.sl [.str, .int .i64, .int .i64, .int .i64, .int .i64, .int .i64, .sl [.int .i64], .int .i64] x1), .c (.int .i64 x2), .c (.sl [.int .i64] x3)] = row) (h : vc23 (stdE Try.prog tbl23) x1 x2 x3 fun c => c = row) : PCg Try.prog 23 S23 [(false, [.sl [.int .i64]]), (false, [.int .i64])] [.c (.sl [.str, .int .i64, .int .i64, .int .i64, .int .i64, .int .i64, .sl [.int .i64], .int .i64] x1), .c (.int .i64 x2), .c (.sl [.int .i64] x3)] := PureC_vc mo h23 (by kernel_rfl) hS (w23  h)
theorem p23 {g : List (List C)} (hg : recsB g) (k : Int) (w : List Int) : PCg Try.prog 23 S23 [kL, kI] [sG g, iC k, sI (rowsI w)] := by
  refine pc23 (e23 g k w) ?_
  unfold vc23
  simp only [stdE, baseE, Br_iff, Imp_iff, tbl23, forall_eq, rowsI_len, rowsI_getD]
  simp only [p13 hg, true_and]
  simp only [e13, List.getD_cons_zero, gi_int]
  simp only [Bool.not_eq_true', Bool.not_eq_false', decide_eq_true_eq, decide_eq_false_iff_not, beq_iff_eq, beq_eq_false_iff_ne, ne_eq]
  have hR : ∀ e : Int, rtE g k w = e → e ≠ 0 → [C.sl [.int .i64] [], C.int .i64 e] = [C.sl [.int .i64] (rowsI (rtL g k w)), .int .i64 (rtE g k w)] := fun e h1 h2 => by
    rw [h1, rtL, if_neg (fun q => h2 (h1 ▸ q.1))]; rfl
  refine ⟨fun h1 => hR _ ?_ h1, fun h1 => ⟨fun h2 => hR _ ?_ (by decide), fun h2 => ?_⟩⟩
  · rw [rtE, if_pos h1]
  · rw [rtE, if_neg (by simpa using h1), if_pos (by omega)]
  have hg0 := chk_okG h1
  have h2' : w.length ≤ 8 := by omega
  refine find_loop (p := outW g.length w) (n := w.length) (A' := fun _ => [C.sl [.int .i64] [], C.int .i64 7] = [C.sl [.int .i64] (rowsI (rtL g k w)), .int .i64 (rtE g k w)]) (B := ixF w.length (outW g.length w) 0 = -1) (by omega) ?_ ?_ ?_ ?_
  · intro j K hj ha hf
    simp only [toNat_cast]
    unfold outW at ha hf
    simp only [decide_eq_true_eq, decide_eq_false_iff_not] at ha hf
    refine ⟨fun _ => ⟨by omega, fun h => ha ?_, fun h => ?_⟩, fun h => by omega⟩
    · by_cases q : w.getD j 0 < 0
      · exact .inl q
      · rw [if_neg q] at h; exact .inr (by simpa using h)
    · rw [wrap_up rfl (by omega)]
      refine hf ?_
      by_cases q : w.getD j 0 < 0
      · rw [if_pos q] at h; cases h
      · rw [if_neg q] at h; have := of_decide_eq_false h; omega
  · intro K hB
    refine ⟨fun h => by omega, fun _ => ?_⟩
    have hi := out_in hB
    have cutI : ∀ j : Nat, List.drop (Int.toNat 0) (List.take j (rowsI w)) = rowsI (w.take j) := fun j => by simp [rowsI, List.map_take]
    have tw : (ixF w.length (fun i => decide (w.getD i 0 ∈ w.take i)) 0 = -1) ↔ w.Nodup := by
      rw [← nodup_take]
      rcases ixF_spec w.length (fun i => decide (w.getD i 0 ∈ w.take i)) _ 0 rfl with ⟨h3, h4⟩ | ⟨m, _, h4, h5, h6, _⟩
      · exact ⟨fun _ i hi => by simpa using h4 i (Nat.zero_le _) hi, fun _ => h3⟩
      · exact ⟨fun h => by omega, fun h => absurd (by simpa using h6) (h m h4)⟩
    refine find_loop (p := fun i => decide (w.getD i 0 ∈ w.take i)) (n := w.length) (A' := fun _ => [C.sl [.int .i64] [], C.int .i64 6] = [C.sl [.int .i64] (rowsI (rtL g k w)), .int .i64 (rtE g k w)]) (B := w.Nodup) (by omega) ?_ ?_ ?_ ?_
    · intro j K hj ha hf
      simp only [toNat_cast, cutI]
      simp only [p45 (show (w.take j).length ≤ 1000000 by simp; omega), true_and]
      simp only [e45, List.getD_cons_zero, gb_bool]
      refine ⟨fun _ => ⟨Int.le_refl _, by omega, by omega, fun h => ha h, fun h => ?_⟩, fun h => by omega⟩
      rw [wrap_up rfl (by omega)]; exact hf h
    · intro K hnd
      have hE : rtE g k w = 0 := by rw [rtE, if_neg (by simpa using h1), if_neg (by omega), if_neg (by simpa using hB), if_pos hnd]
      refine ⟨fun h => by omega, fun _ => ⟨fun h4 => ?_, fun h4 => ?_⟩⟩
      · have : w = [] := List.length_eq_zero_iff.1 (by omega)
        rw [hE, rtL, if_neg (fun q => q.2 this)]; rfl
      obtain ⟨a, t, rfl⟩ : ∃ a t, w = a :: t := by
        cases w with
        | nil => simp at h4
        | cons a t => exact ⟨a, t, rfl⟩
      have hp := lft_perm hnd
      have hlen : (lft (a :: t)).length = t.length := hp.length_eq
      have c1 : List.drop (Int.toNat 1) (List.take (((a :: t).length : Int)).toNat (rowsI (a :: t))) = rowsI t := by
        rw [Int.toNat_natCast, ← rowsI_len (a :: t), List.take_length]; rfl
      have c2 : List.drop (Int.toNat 0) (List.take (Int.toNat 1) (rowsI (a :: t))) = rowsI [a] := rfl
      simp only [c1, c2]
      simp only [List.length_cons] at h2'
      simp only [p47 (show t.length ≤ 1000000 by omega), true_and]
      simp only [e47, List.getD_cons_zero, gl_sl]
      rw [← lft_rsg hnd]
      have hin : inG g ([a] ++ lft (a :: t)) := fun z hz => by
        refine hi z ?_
        simp only [List.singleton_append, List.mem_cons] at hz ⊢
        exact hz.imp id fun hz => hp.subset hz
      simp only [p46 hg0 (lft (a :: t)).length [a] (lft (a :: t)) rfl (by simp) hin (by simp [hlen]; omega), true_and]
      simp only [e46, List.getD_cons_zero, gl_sl]
      refine ⟨Int.le_refl _, by omega, by simp only [List.length_cons]; omega, Int.le_refl _, ?_⟩
      rw [rtL, if_pos ⟨hE, by simp⟩, hE]; rfl
    · intro j hj h3 h4
      refine hR _ ?_ (by decide)
      rw [rtE, if_neg (by simpa using h1), if_neg (by omega), if_neg (by simpa using hB), if_neg (fun q => by rw [tw.2 q] at h3; omega)]
    · intro h3; exact tw.1 h3
  · intro j hj h3 h4
    exact hR _ (by rw [rtE, if_neg (by simpa using h1), if_neg (by omega), if_pos (by omega)]) (by decide)
  · intro h3; exact h3
def S24 : List A → List C := fun ds => match ds with
  | [.c (.sl _ a), .c (.sl _ b)] => [.bool (decide (prI a = prI b))]
  | _ => []
theorem e24 (a b : List Int) : S24 [sI (rowsI a), sI (rowsI b)] = [.bool (decide (a = b))] := by
  show [C.bool (decide (prI (rowsI a) = prI (rowsI b)))] = _
  rw [prI_rowsI, prI_rowsI]
theorem ints_eq {a b : List Int} (hl : a.length = b.length) : ixF a.length (fun j => !(a.getD j 0 == b.getD j 0)) 0 = -1 ↔ a = b := by
  rcases ixF_spec a.length (fun j => !(a.getD j 0 == b.getD j 0)) _ 0 rfl with ⟨h1, h2⟩ | ⟨m, _, h2, h3, h4, _⟩
  · refine ⟨fun _ => List.ext_getElem hl fun i i1 i2 => ?_, fun _ => h1⟩
    have := h2 i (Nat.zero_le _) i1
    rw [getD_get i1, getD_get i2] at this
    simpa using this
  · refine ⟨fun h => by omega, fun h => ?_⟩
    subst h
    simp at h4
def tbl24 : FuncId → List A → List C := fun f ds => match f with
  | _ => []
theorem pc24  {x1 : List (List C)} {x2 : List (List C)} {row : List C} (hS : S24 [.c (.sl [.int .i64] x1), .c (.sl [.int .i64] x2)] = row) (h : vc24 (stdE Try.prog tbl24) x1 x2 fun c => c = row) : PCg Try.prog 24 S24 [(false, [.bool])] [.c (.sl [.int .i64] x1), .c (.sl [.int .i64] x2)] := PureC_vc mo h24 (by kernel_rfl) hS (w24  h)
theorem p24 {a : List Int} (ha : a.length ≤ 1000000) (b : List Int) : PCg Try.prog 24 S24 [kB] [sI (rowsI a), sI (rowsI b)] := by
  refine pc24 (e24 a b) ?_
  unfold vc24
  simp only [stdE, baseE, Br_iff, Imp_iff, tbl24, forall_eq, rowsI_len, rowsI_getD]
  refine ⟨fun h => ?_, fun h => ?_⟩
  · rw [decide_eq_false (fun e => by rw [e] at h; simp at h)]
  have hl : a.length = b.length := by simp at h; omega
  refine find_loop (p := fun j => !(a.getD j 0 == b.getD j 0)) (n := a.length) (A' := fun _ => [C.bool false] = [.bool (decide (a = b))]) (B := [C.bool true] = [.bool (decide (a = b))]) (by omega) ?_ ?_ ?_ ?_
  · intro k K hk h1 h2
    simp only [decide_eq_true_eq, decide_eq_false_iff_not, toNat_cast]
    refine ⟨fun _ => ⟨by omega, by omega, fun h => h1 h, fun h => ?_⟩, fun h => by omega⟩
    rw [wrap_up rfl (by omega)]; exact h2 h
  · intro K hB
    simp only [decide_eq_true_eq, decide_eq_false_iff_not]
    exact ⟨fun h => by omega, fun _ => hB⟩
  · intro k hk h1 h2
    rw [decide_eq_false (fun e => by rw [(ints_eq hl).2 e] at h1; omega)]
  · intro h1
    rw [decide_eq_true ((ints_eq hl).1 h1)]
theorem rtL_len (g : List (List C)) (k : Int) (w : List Int) : (rtL g k w).length ≤ 1000000 := by
  unfold rtL
  split
  · rename_i h
    obtain ⟨a, t, rfl⟩ : ∃ a t, w = a :: t := by
      cases w with
      | nil => exact absurd rfl h.2
      | cons a t => exact ⟨a, t, rfl⟩
    obtain ⟨r, e, hp, _⟩ := best_spec (g := g) (lft (a :: t)).length [a] (lft (a :: t)) rfl (by simp)
    have h8 : (a :: t).length ≤ 8 := by
      have h1 := h.1
      unfold rtE at h1
      split at h1
      · rename_i q; exact absurd h1 q
      · split at h1
        · cases h1
        · omega
    show (best g (lft (a :: t)).length [a] (lft (a :: t))).length ≤ _
    rw [e]
    have h1 := hp.length_eq
    have h2 : (lft (a :: t)).length ≤ (a :: t).length := by
      unfold lft
      exact Nat.le_trans (List.length_filter_le _ _) (Nat.le_of_eq (ms_perm _).length_eq)
    simp only [List.length_append, List.length_singleton]
    omega
  · simp
def S7 : List A → List C := fun _ => [.bool true]
def tbl7 : FuncId → List A → List C := fun f ds => match f with
  | 10 => S10 ds
  | 11 => S11 ds
  | 22 => S22 ds
  | 23 => S23 ds
  | 24 => S24 ds
  | _ => []
theorem pc7  {x1 : List (List C)} {x2 : Int} {x3 : List (List C)} {row : List C} (hS : S7 [.c (.sl [.str, .int .i64, .int .i64, .int .i64, .int .i64, .int .i64, .sl [.int .i64], .int .i64] x1), .c (.int .i64 x2), .c (.sl [.int .i64] x3)] = row) (h : vc7 (stdE Try.prog tbl7) x1 x2 x3 fun c => c = row) : PCg Try.prog 7 S7 [(false, [.bool])] [.c (.sl [.str, .int .i64, .int .i64, .int .i64, .int .i64, .int .i64, .sl [.int .i64], .int .i64] x1), .c (.int .i64 x2), .c (.sl [.int .i64] x3)] := PureC_vc mo h7 (by kernel_rfl) hS (w7  h)
theorem p7 (g : List (List C)) (k : Int) (w : List Int) : PureC Try.prog 7 [kB] [sG g, iC k, sI (rowsI w)] fun _ => .bool true := by
  refine PureC.one (get := fun i => (S7 [sG g, iC k, sI (rowsI w)]).getD i .nil) (pc7 (row := [.bool true]) rfl ?_) rfl
  unfold vc7
  simp only [stdE, baseE, Br_iff, Imp_iff, tbl7, forall_eq]
  simp only [p11, p10, implies_true, true_and]
  simp only [e11, e10, List.getD_cons_zero, gb_bool]
  cases h : lightB g
  · simp
  · have hr := (light_spec h).2
    refine ⟨fun _ => trivial, fun _ => ?_⟩
    simp only [p22 hr, p23 hr, true_and]
    simp only [e22, e23, List.getD_cons_zero, List.getD_cons_succ, gi_int, gl_sl]
    simp only [p24 (rtL_len g k w), true_and]
    simp only [e24, List.getD_cons_zero, gb_bool]
    simp
end Go.Proofs.Ytljnpioekbdcaaa.V
