/- Defects: checked and compared, in the program and in the reference. No conditions. -/
import Derived.Test.YtkdapoipnkpbeaaGDa
set_option linter.unusedVariables false
set_option linter.unusedSimpArgs false
namespace Go.Proofs.Ytkdapoipnkpbeaa.V
open Go Go.Eng
set_option maxRecDepth 1000000
set_option maxHeartbeats 1000000
/-- A valid defect. -/
def okD (q : I6) : Prop := 0 ≤ q.1 ∧ q.1 < q.2.1 ∧ q.2.1 ≤ 12000 ∧ 0 ≤ q.2.2.1 ∧ q.2.2.1 < q.2.2.2.1 ∧ q.2.2.2.1 ≤ 17179869184 ∧ 1 ≤ q.2.2.2.2.1 ∧ q.2.2.2.2.1 ≤ 16 ∧ 1 ≤ q.2.2.2.2.2 ∧ q.2.2.2.2.2 ≤ 100
theorem mx_or (a b : Int) : mx a b = a ∨ mx a b = b := by unfold mx; split <;> simp
theorem le_mx (a b : Int) : a ≤ mx a b ∧ b ≤ mx a b := by unfold mx; split <;> omega
abbrev q6 (r : I6) : A := ag6 r.1 r.2.1 r.2.2.1 r.2.2.2.1 r.2.2.2.2.1 r.2.2.2.2.2
/-- The error of one defect. -/
def chkD (q : I6) : Int := if chk q.1 q.2.1 q.2.2.1 q.2.2.2.1 = 0 then (if q.1 = q.2.1 ∨ q.2.2.1 = q.2.2.2.1 then 10 else if q.2.2.2.2.1 < 1 ∨ 16 < q.2.2.2.2.1 ∨ q.2.2.2.2.2 < 1 ∨ 100 < q.2.2.2.2.2 then 1 else 0) else chk q.1 q.2.1 q.2.2.1 q.2.2.2.1
def firstD : List I6 → Int
  | [] => 0
  | q :: l => if chkD q = 0 then firstD l else chkD q
def allD (rs : List I6) : Int := if 128 < rs.length then 8 else firstD rs
theorem firstD_drop {rs : List I6} {n : Nat} (h : n < rs.length) : firstD (rs.drop n) = if chkD (rs.getD n z6) = 0 then firstD (rs.drop (n + 1)) else chkD (rs.getD n z6) := by
  rw [List.drop_eq_getElem_cons h, firstD, getD_get h]
theorem chk0 {l r a b : Int} : chk l r a b = 0 ↔ 0 ≤ l ∧ l ≤ r ∧ r ≤ 12000 ∧ 0 ≤ a ∧ a ≤ b ∧ b ≤ 17179869184 := by
  unfold chk
  by_cases h : l < 0 ∨ r < l ∨ 12000 < r ∨ a < 0 ∨ b < a ∨ 17179869184 < b
  · rw [if_pos h]; exact ⟨fun h => (by cases h), fun h => by omega⟩
  · rw [if_neg h]; exact ⟨fun _ => by omega, fun _ => rfl⟩
theorem chkD_ok {q : I6} (h : chkD q = 0) : okD q := by
  unfold chkD at h
  by_cases h1 : chk q.1 q.2.1 q.2.2.1 q.2.2.2.1 = 0
  · rw [if_pos h1] at h
    have h1 := chk0.1 h1
    by_cases h2 : q.1 = q.2.1 ∨ q.2.2.1 = q.2.2.2.1
    · rw [if_pos h2] at h; cases h
    · rw [if_neg h2] at h
      by_cases h3 : q.2.2.2.2.1 < 1 ∨ 16 < q.2.2.2.2.1 ∨ q.2.2.2.2.2 < 1 ∨ 100 < q.2.2.2.2.2
      · rw [if_pos h3] at h; cases h
      · unfold okD; omega
  · rw [if_neg h1] at h; exact absurd h h1
theorem ok_chkD {q : I6} (h : okD q) : chkD q = 0 := by
  unfold okD at h
  unfold chkD
  rw [if_pos (chk0.2 (by omega)), if_neg (by omega), if_neg (by omega)]
theorem firstD_ok : ∀ {rs : List I6}, firstD rs = 0 → ∀ r ∈ rs, okD r
  | [], _, r, hr => by cases hr
  | q :: l, h, r, hr => by
    rw [firstD] at h
    split at h
    · rename_i hq
      rcases List.mem_cons.1 hr with rfl | hr
      · exact chkD_ok hq
      · exact firstD_ok h r hr
    · rename_i hq; exact absurd h hq
theorem ok_firstD : ∀ {rs : List I6}, (∀ r ∈ rs, okD r) → firstD rs = 0
  | [], _ => rfl
  | q :: l, h => by rw [firstD, if_pos (ok_chkD (h q (by simp))), ok_firstD fun r hr => h r (by simp [hr])]
theorem allD_ok {rs : List I6} (h : allD rs = 0) : rs.length ≤ 128 ∧ ∀ r ∈ rs, okD r := by
  unfold allD at h
  split at h
  · cases h
  · exact ⟨by omega, firstD_ok h⟩
theorem ok_allD {rs : List I6} (h1 : rs.length ≤ 128) (h : ∀ r ∈ rs, okD r) : allD rs = 0 := by
  unfold allD
  rw [if_neg (by omega), ok_firstD h]
/-! ### The contracts that lie -/
def S37 : List A → List C := tbl 37
def S38 : List A → List C := tbl 38
theorem p37 (l r a b : Int) : PCg Try.prog 37 S37 [kI] [rc l r a b] := c30 l r a b
theorem p38 (l r a b : Int) : PCg Try.prog 38 S38 [kI] [rc l r a b] := c31 l r a b
theorem e37 (l r a b : Int) : S37 [rc l r a b] = [.int .i64 (chk l r a b)] := rfl
theorem e38 (l r a b : Int) : S38 [rc l r a b] = [.int .i64 (chk l r a b)] := rfl
def S10 : List A → List C := fun _ => [.bool true]
theorem p10 : PCg Try.prog 10 S10 [kB] [] := awake.one rfl
theorem e10 : S10 [] = [.bool true] := rfl
/-! ### What is handed back -/
def sAll : List A → List C := fun ds => match ds with
  | [.c (.sl _ xs)] => [.int .i64 (allD (un6 xs))]
  | _ => []
def S13 : List A → List C := sAll
def S14 : List A → List C := sAll
theorem e13 (rs : List I6) : S13 [s6 (row6 rs)] = [.int .i64 (allD rs)] := by
  show [C.int .i64 (allD (un6 (row6 rs)))] = _
  rw [un6_row]
theorem e14 (rs : List I6) : S14 [s6 (row6 rs)] = [.int .i64 (allD rs)] := e13 rs
def tbl13 : FuncId → List A → List C := fun f ds => match f with
  | 37 => S37 ds
  | _ => []
theorem pc13  {x1 : List (List C)} {row : List C} (hS : S13 [.c (.sl [.int .i64, .int .i64, .int .i64, .int .i64, .int .i64, .int .i64] x1)] = row) (h : vc13 (stdE Try.prog tbl13) x1 fun c => c = row) : PCg Try.prog 13 S13 [(false, [.int .i64])] [.c (.sl [.int .i64, .int .i64, .int .i64, .int .i64, .int .i64, .int .i64] x1)] := PureC_vc mo h13 (by kernel_rfl) hS (w13  h)
def tbl14 : FuncId → List A → List C := fun f ds => match f with
  | 38 => S38 ds
  | _ => []
theorem pc14  {x1 : List (List C)} {row : List C} (hS : S14 [.c (.sl [.int .i64, .int .i64, .int .i64, .int .i64, .int .i64, .int .i64] x1)] = row) (h : vc14 (stdE Try.prog tbl14) x1 fun c => c = row) : PCg Try.prog 14 S14 [(false, [.int .i64])] [.c (.sl [.int .i64, .int .i64, .int .i64, .int .i64, .int .i64, .int .i64] x1)] := PureC_vc mo h14 (by kernel_rfl) hS (w14  h)
theorem ite_or (p : Prop) [Decidable p] (y : Bool) : (if p then true else y) = (decide p || y) := by by_cases h : p <;> simp [h]
theorem ite_and (p : Prop) [Decidable p] (y : Bool) : (if p then y else false) = (decide p && y) := by by_cases h : p <;> simp [h]
theorem firstD_one {rs : List I6} {n : Nat} (h : n < rs.length) (hf : firstD (rs.drop n) = firstD rs) : firstD rs = if chkD (rs.getD n z6) = 0 then firstD (rs.drop (n + 1)) else chkD (rs.getD n z6) := by rw [← hf, firstD_drop h]
theorem v13 {rs : List I6} (hl : rs.length ≤ 1000000) : vc13 (stdE Try.prog tbl13) (row6 rs) fun c => c = [.int .i64 (allD rs)] := by
  unfold vc13
  simp only [stdE, baseE, Br_iff, tbl13, p37, true_and, forall_eq, decide_eq_true_eq, decide_eq_false_iff_not, row6_len, row6_c0, row6_c1, row6_c2, row6_c3, row6_c4, row6_c5]
  simp only [e37, List.getD_cons_zero, gi_int, ite_or, Bool.decide_eq_true]
  refine ⟨fun h => ?_, fun h => ?_⟩
  · rw [allD, if_pos (by omega)]
  rw [allD, if_neg (by omega)]
  refine LoopP1.run (fun n : Nat => (n : Int)) (fun n => n ≤ rs.length ∧ firstD (rs.drop n) = firstD rs) (fun n => rs.length - n) 0 ⟨Nat.zero_le _, rfl⟩ rfl ?_
  rintro n ⟨hn, hf⟩ K hK
  simp only [toNat_cast, Bool.not_eq_true', Bool.not_eq_false', beq_iff_eq, beq_eq_false_iff_ne, Bool.or_eq_true, Bool.or_eq_false_iff, decide_eq_true_eq, decide_eq_false_iff_not, ne_eq]
  refine ⟨fun h2 => ?_, fun h2 => ?_⟩
  · have hlt : n < rs.length := by omega
    have hd := firstD_one hlt hf
    have hK := fun w : firstD rs = firstD (rs.drop (n + 1)) => hK _ (n + 1) ⟨hlt, w.symm⟩ (by omega) (wrap_up rfl (by omega))
    generalize rs.getD n z6 = q at *
    unfold chkD at hd
    refine ⟨by omega, fun h3 => ?_, fun h3 => ⟨fun h4 => ?_, fun h4 => ⟨fun h5 => ?_, fun h5 => hK ?_⟩⟩⟩
    · rw [if_neg h3, if_neg h3] at hd; rw [hd]
    · rw [if_pos h3, if_pos h4, if_neg (by decide)] at hd; rw [hd]
    · have h4' : ¬ (q.1 = q.2.1 ∨ q.2.2.1 = q.2.2.2.1) := by omega
      have h5' : q.2.2.2.2.1 < 1 ∨ 16 < q.2.2.2.2.1 ∨ q.2.2.2.2.2 < 1 ∨ 100 < q.2.2.2.2.2 := by omega
      rw [if_pos h3, if_neg h4', if_pos h5', if_neg (by decide)] at hd; rw [hd]
    · have h4' : ¬ (q.1 = q.2.1 ∨ q.2.2.1 = q.2.2.2.1) := by omega
      have h5' : ¬ (q.2.2.2.2.1 < 1 ∨ 16 < q.2.2.2.2.1 ∨ q.2.2.2.2.2 < 1 ∨ 100 < q.2.2.2.2.2) := by omega
      rw [if_pos h3, if_neg h4', if_neg h5', if_pos rfl] at hd; exact hd
  · have : n = rs.length := by omega
    subst this
    rw [← hf, List.drop_length]; rfl
theorem p13 {rs : List I6} (hl : rs.length ≤ 1000000) : PCg Try.prog 13 S13 [kI] [s6 (row6 rs)] := pc13 (e13 rs) (v13 hl)
theorem v14 {rs : List I6} (hl : rs.length ≤ 1000000) : vc14 (stdE Try.prog tbl14) (row6 rs) fun c => c = [.int .i64 (allD rs)] := by
  unfold vc14
  simp only [stdE, baseE, Br_iff, tbl14, p38, true_and, forall_eq, decide_eq_true_eq, decide_eq_false_iff_not, row6_len, row6_c0, row6_c1, row6_c2, row6_c3, row6_c4, row6_c5]
  simp only [e38, List.getD_cons_zero, gi_int, ite_or, Bool.decide_eq_true]
  refine ⟨fun h => ?_, fun h => ?_⟩
  · rw [allD, if_pos (by omega)]
  rw [allD, if_neg (by omega)]
  refine LoopP1.run (fun n : Nat => (n : Int)) (fun n => n ≤ rs.length ∧ firstD (rs.drop n) = firstD rs) (fun n => rs.length - n) 0 ⟨Nat.zero_le _, rfl⟩ rfl ?_
  rintro n ⟨hn, hf⟩ K hK
  simp only [toNat_cast, Bool.not_eq_true', Bool.not_eq_false', beq_iff_eq, beq_eq_false_iff_ne, Bool.or_eq_true, Bool.or_eq_false_iff, decide_eq_true_eq, decide_eq_false_iff_not, ne_eq]
  refine ⟨fun h2 => ?_, fun h2 => ?_⟩
  · have hlt : n < rs.length := by omega
    have hd := firstD_one hlt hf
    have hK := fun w : firstD rs = firstD (rs.drop (n + 1)) => hK _ (n + 1) ⟨hlt, w.symm⟩ (by omega) (wrap_up rfl (by omega))
    generalize rs.getD n z6 = q at *
    unfold chkD at hd
    refine ⟨by omega, fun h3 => ?_, fun h3 => ⟨fun h4 => ?_, fun h4 => ⟨fun h5 => ?_, fun h5 => hK ?_⟩⟩⟩
    · rw [if_neg h3, if_neg h3] at hd; rw [hd]
    · rw [if_pos h3, if_pos h4, if_neg (by decide)] at hd; rw [hd]
    · have h4' : ¬ (q.1 = q.2.1 ∨ q.2.2.1 = q.2.2.2.1) := by omega
      have h5' : q.2.2.2.2.1 < 1 ∨ 16 < q.2.2.2.2.1 ∨ q.2.2.2.2.2 < 1 ∨ 100 < q.2.2.2.2.2 := by omega
      rw [if_pos h3, if_neg h4', if_pos h5', if_neg (by decide)] at hd; rw [hd]
    · have h4' : ¬ (q.1 = q.2.1 ∨ q.2.2.1 = q.2.2.2.1) := by omega
      have h5' : ¬ (q.2.2.2.2.1 < 1 ∨ 16 < q.2.2.2.2.1 ∨ q.2.2.2.2.2 < 1 ∨ 100 < q.2.2.2.2.2) := by omega
      rw [if_pos h3, if_neg h4', if_neg h5', if_pos rfl] at hd; exact hd
  · have : n = rs.length := by omega
    subst this
    rw [← hf, List.drop_length]; rfl
theorem p14 {rs : List I6} (hl : rs.length ≤ 1000000) : PCg Try.prog 14 S14 [kI] [s6 (row6 rs)] := pc14 (e14 rs) (v14 hl)
def S15 : List A → List C := fun ds => match ds with
  | [.c (.sl _ xs), .c (.sl _ ys)] => [.bool (decide (un6 xs = un6 ys))]
  | _ => []
theorem e15 (xs ys : List I6) : S15 [s6 (row6 xs), s6 (row6 ys)] = [.bool (decide (xs = ys))] := by
  show [C.bool (decide (un6 (row6 xs) = un6 (row6 ys)))] = _
  rw [un6_row, un6_row]
def tbl15 : FuncId → List A → List C := fun f ds => match f with
  | _ => []
theorem pc15  {x1 : List (List C)} {x2 : List (List C)} {row : List C} (hS : S15 [.c (.sl [.int .i64, .int .i64, .int .i64, .int .i64, .int .i64, .int .i64] x1), .c (.sl [.int .i64, .int .i64, .int .i64, .int .i64, .int .i64, .int .i64] x2)] = row) (h : vc15 (stdE Try.prog tbl15) x1 x2 fun c => c = row) : PCg Try.prog 15 S15 [(false, [.bool])] [.c (.sl [.int .i64, .int .i64, .int .i64, .int .i64, .int .i64, .int .i64] x1), .c (.sl [.int .i64, .int .i64, .int .i64, .int .i64, .int .i64, .int .i64] x2)] := PureC_vc mo h15 (by kernel_rfl) hS (w15  h)
theorem p15 {xs ys : List I6} (hl : xs.length ≤ 1000000) : PCg Try.prog 15 S15 [kB] [s6 (row6 xs), s6 (row6 ys)] := by
  refine pc15 (e15 xs ys) ?_
  unfold vc15
  simp only [stdE, baseE, Br_iff, decide_eq_true_eq, decide_eq_false_iff_not, Bool.not_eq_true', Bool.not_eq_false', beq_iff_eq, beq_eq_false_iff_ne, ne_eq, row6_len, row6_c0, row6_c1, row6_c2, row6_c3, row6_c4, row6_c5]
  refine ⟨fun h => ?_, fun h => ?_⟩
  · rw [decide_eq_false fun e => h (by rw [e])]
  have h := Int.ofNat_inj.1 h
  refine LoopP1.run (fun n : Nat => (n : Int)) (fun n => n ≤ xs.length ∧ xs.take n = ys.take n) (fun n => xs.length - n) 0 ⟨Nat.zero_le _, rfl⟩ rfl ?_
  rintro n ⟨hn, ht⟩ K hK
  simp only [toNat_cast]
  refine ⟨fun h2 => ?_, fun h2 => ?_⟩
  · have hlt : n < xs.length := by omega
    refine ⟨by omega, by omega, fun h3 => ?_, fun h3 => ?_⟩
    · have hne : xs.getD n z6 ≠ ys.getD n z6 := fun e => by rw [e] at h3; simp at h3
      rw [decide_eq_false fun e => hne (by rw [e])]
    · refine hK _ (n + 1) ⟨hlt, ?_⟩ (by omega) (wrap_up rfl (by omega))
      have he : xs.getD n z6 = ys.getD n z6 := by
        simp only [Bool.and_eq_true, beq_iff_eq, and_true] at h3
        obtain ⟨a, b, c, d, e, f⟩ := h3
        exact Prod.ext a (Prod.ext b (Prod.ext c (Prod.ext d (Prod.ext e f))))
      rw [List.take_add_one, List.take_add_one, ht, List.getElem?_eq_getElem hlt, List.getElem?_eq_getElem (show n < ys.length by omega), ← getD_get (d := z6) hlt, ← getD_get (d := z6) (show n < ys.length by omega), he]
  · have hn2 : n = xs.length := by omega
    subst hn2
    rw [List.take_length, h, List.take_length] at ht
    rw [decide_eq_true ht]
end Go.Proofs.Ytkdapoipnkpbeaa.V
