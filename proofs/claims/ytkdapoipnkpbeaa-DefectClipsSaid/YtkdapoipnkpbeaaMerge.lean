/- Defects: checking and joining, in the program and in the reference. No conditions. -/
import Derived.Test.YtkdapoipnkpbeaaGD
import Derived.Test.YtkdapoipnkpbeaaMergeP
set_option linter.unusedVariables false
set_option linter.unusedSimpArgs false
namespace Go.Proofs.Ytkdapoipnkpbeaa.V
open Go Go.Eng
set_option maxRecDepth 1000000
set_option maxHeartbeats 1000000
abbrev q6 (r : I6) : A := ag6 r.1 r.2.1 r.2.2.1 r.2.2.2.1 r.2.2.2.2.1 r.2.2.2.2.2
/-- The error of one defect. -/
def chkD (q : I6) : Int := if chk q.1 q.2.1 q.2.2.1 q.2.2.2.1 = 0 then (if q.1 = q.2.1 ∨ q.2.2.1 = q.2.2.2.1 then 10 else if q.2.2.2.2.1 < 1 ∨ 16 < q.2.2.2.2.1 ∨ q.2.2.2.2.2 < 1 ∨ 100 < q.2.2.2.2.2 then 1 else 0) else chk q.1 q.2.1 q.2.2.1 q.2.2.2.1
def firstD : List I6 → Int
  | [] => 0
  | q :: l => if chkD q = 0 then firstD l else chkD q
def allD (rs : List I6) : Int := if 128 < rs.length then 8 else firstD rs
theorem firstD_drop {rs : List I6} {n : Nat} (h : n < rs.length) : firstD (rs.drop n) = if chkD (rs.getD n z6) = 0 then firstD (rs.drop (n + 1)) else chkD (rs.getD n z6) := by
  rw [List.drop_eq_getElem_cons h, firstD, getD_get h]
theorem chk0 {l r a b : Int} : chk l r a b = 0 ↔ 0 ≤ l ∧ l ≤ r ∧ r ≤ 12000 ∧ 0 ≤ a ∧ a ≤ b ∧ b ≤ 17179869184 := by
  unfold chk
  by_cases h : l < 0 ∨ r < l ∨ 12000 < r ∨ a < 0 ∨ b < a ∨ 17179869184 < b
  · rw [if_pos h]; exact ⟨fun h => (by cases h), fun h => by omega⟩
  · rw [if_neg h]; exact ⟨fun _ => by omega, fun _ => rfl⟩
theorem chkD_ok {q : I6} (h : chkD q = 0) : okD q := by
  unfold chkD at h
  by_cases h1 : chk q.1 q.2.1 q.2.2.1 q.2.2.2.1 = 0
  · rw [if_pos h1] at h
    have h1 := chk0.1 h1
    by_cases h2 : q.1 = q.2.1 ∨ q.2.2.1 = q.2.2.2.1
    · rw [if_pos h2] at h; cases h
    · rw [if_neg h2] at h
      by_cases h3 : q.2.2.2.2.1 < 1 ∨ 16 < q.2.2.2.2.1 ∨ q.2.2.2.2.2 < 1 ∨ 100 < q.2.2.2.2.2
      · rw [if_pos h3] at h; cases h
      · unfold okD; omega
  · rw [if_neg h1] at h; exact absurd h h1
theorem ok_chkD {q : I6} (h : okD q) : chkD q = 0 := by
  unfold okD at h
  unfold chkD
  rw [if_pos (chk0.2 (by omega)), if_neg (by omega), if_neg (by omega)]
theorem firstD_ok : ∀ {rs : List I6}, firstD rs = 0 → ∀ r ∈ rs, okD r
  | [], _, r, hr => by cases hr
  | q :: l, h, r, hr => by
    rw [firstD] at h
    split at h
    · rename_i hq
      rcases List.mem_cons.1 hr with rfl | hr
      · exact chkD_ok hq
      · exact firstD_ok h r hr
    · rename_i hq; exact absurd h hq
theorem ok_firstD : ∀ {rs : List I6}, (∀ r ∈ rs, okD r) → firstD rs = 0
  | [], _ => rfl
  | q :: l, h => by rw [firstD, if_pos (ok_chkD (h q (by simp))), ok_firstD fun r hr => h r (by simp [hr])]
theorem allD_ok {rs : List I6} (h : allD rs = 0) : rs.length ≤ 128 ∧ ∀ r ∈ rs, okD r := by
  unfold allD at h
  split at h
  · cases h
  · exact ⟨by omega, firstD_ok h⟩
theorem ok_allD {rs : List I6} (h1 : rs.length ≤ 128) (h : ∀ r ∈ rs, okD r) : allD rs = 0 := by
  unfold allD
  rw [if_neg (by omega), ok_firstD h]
/-! ### The contracts that lie -/
def S37 : List A → List C := tbl 37
def S38 : List A → List C := tbl 38
theorem p37 (l r a b : Int) : PCg Try.prog 37 S37 [kI] [rc l r a b] := c30 l r a b
theorem p38 (l r a b : Int) : PCg Try.prog 38 S38 [kI] [rc l r a b] := c31 l r a b
theorem e37 (l r a b : Int) : S37 [rc l r a b] = [.int .i64 (chk l r a b)] := rfl
theorem e38 (l r a b : Int) : S38 [rc l r a b] = [.int .i64 (chk l r a b)] := rfl
def S10 : List A → List C := fun _ => [.bool true]
theorem p10 : PCg Try.prog 10 S10 [kB] [] := awake.one rfl
theorem e10 : S10 [] = [.bool true] := rfl
/-! ### What is handed back -/
def sAll : List A → List C := fun ds => match ds with
  | [.c (.sl _ xs)] => [.int .i64 (allD (un6 xs))]
  | _ => []
def S13 : List A → List C := sAll
def S14 : List A → List C := sAll
theorem e13 (rs : List I6) : S13 [s6 (row6 rs)] = [.int .i64 (allD rs)] := by
  show [C.int .i64 (allD (un6 (row6 rs)))] = _
  rw [un6_row]
theorem e14 (rs : List I6) : S14 [s6 (row6 rs)] = [.int .i64 (allD rs)] := e13 rs
def tbl13 : FuncId → List A → List C := fun f ds => match f with
  | 37 => S37 ds
  | _ => []
theorem pc13  {x1 : List (List C)} {row : List C} (hS : S13 [.c (.sl [.int .i64, .int .i64, .int .i64, .int .i64, .int .i64, .int .i64] x1)] = row) (h : vc13 (stdE Try.prog tbl13) x1 fun c => c = row) : PCg Try.prog 13 S13 [(false, [.int .i64])] [.c (.sl [.int .i64, .int .i64, .int .i64, .int .i64, .int .i64, .int .i64] x1)] := PureC_vc mo h13 (by kernel_rfl) hS (w13  h)
def tbl14 : FuncId → List A → List C := fun f ds => match f with
  | 38 => S38 ds
  | _ => []
theorem pc14  {x1 : List (List C)} {row : List C} (hS : S14 [.c (.sl [.int .i64, .int .i64, .int .i64, .int .i64, .int .i64, .int .i64] x1)] = row) (h : vc14 (stdE Try.prog tbl14) x1 fun c => c = row) : PCg Try.prog 14 S14 [(false, [.int .i64])] [.c (.sl [.int .i64, .int .i64, .int .i64, .int .i64, .int .i64, .int .i64] x1)] := PureC_vc mo h14 (by kernel_rfl) hS (w14  h)
theorem ite_or (p : Prop) [Decidable p] (y : Bool) : (if p then true else y) = (decide p || y) := by by_cases h : p <;> simp [h]
theorem ite_and (p : Prop) [Decidable p] (y : Bool) : (if p then y else false) = (decide p && y) := by by_cases h : p <;> simp [h]
theorem firstD_one {rs : List I6} {n : Nat} (h : n < rs.length) (hf : firstD (rs.drop n) = firstD rs) : firstD rs = if chkD (rs.getD n z6) = 0 then firstD (rs.drop (n + 1)) else chkD (rs.getD n z6) := by rw [← hf, firstD_drop h]
theorem v13 {rs : List I6} (hl : rs.length ≤ 1000000) : vc13 (stdE Try.prog tbl13) (row6 rs) fun c => c = [.int .i64 (allD rs)] := by
  unfold vc13
  simp only [stdE, baseE, Br_iff, tbl13, p37, true_and, forall_eq, decide_eq_true_eq, decide_eq_false_iff_not, row6_len, row6_c0, row6_c1, row6_c2, row6_c3, row6_c4, row6_c5]
  simp only [e37, List.getD_cons_zero, gi_int, ite_or, Bool.decide_eq_true]
  refine ⟨fun h => ?_, fun h => ?_⟩
  · rw [allD, if_pos (by omega)]
  rw [allD, if_neg (by omega)]
  refine LoopP1.run (fun n : Nat => (n : Int)) (fun n => n ≤ rs.length ∧ firstD (rs.drop n) = firstD rs) (fun n => rs.length - n) 0 ⟨Nat.zero_le _, rfl⟩ rfl ?_
  rintro n ⟨hn, hf⟩ K hK
  simp only [toNat_cast, Bool.not_eq_true', Bool.not_eq_false', beq_iff_eq, beq_eq_false_iff_ne, Bool.or_eq_true, Bool.or_eq_false_iff, decide_eq_true_eq, decide_eq_false_iff_not, ne_eq]
  refine ⟨fun h2 => ?_, fun h2 => ?_⟩
  · have hlt : n < rs.length := by omega
    have hd := firstD_one hlt hf
    have hK := fun w : firstD rs = firstD (rs.drop (n + 1)) => hK _ (n + 1) ⟨hlt, w.symm⟩ (by omega) (wrap_up rfl (by omega))
    generalize rs.getD n z6 = q at *
    unfold chkD at hd
    refine ⟨by omega, fun h3 => ?_, fun h3 => ⟨fun h4 => ?_, fun h4 => ⟨fun h5 => ?_, fun h5 => hK ?_⟩⟩⟩
    · rw [if_neg h3, if_neg h3] at hd; rw [hd]
    · rw [if_pos h3, if_pos h4, if_neg (by decide)] at hd; rw [hd]
    · have h4' : ¬ (q.1 = q.2.1 ∨ q.2.2.1 = q.2.2.2.1) := by omega
      have h5' : q.2.2.2.2.1 < 1 ∨ 16 < q.2.2.2.2.1 ∨ q.2.2.2.2.2 < 1 ∨ 100 < q.2.2.2.2.2 := by omega
      rw [if_pos h3, if_neg h4', if_pos h5', if_neg (by decide)] at hd; rw [hd]
    · have h4' : ¬ (q.1 = q.2.1 ∨ q.2.2.1 = q.2.2.2.1) := by omega
      have h5' : ¬ (q.2.2.2.2.1 < 1 ∨ 16 < q.2.2.2.2.1 ∨ q.2.2.2.2.2 < 1 ∨ 100 < q.2.2.2.2.2) := by omega
      rw [if_pos h3, if_neg h4', if_neg h5', if_pos rfl] at hd; exact hd
  · have : n = rs.length := by omega
    subst this
    rw [← hf, List.drop_length]; rfl
theorem p13 {rs : List I6} (hl : rs.length ≤ 1000000) : PCg Try.prog 13 S13 [kI] [s6 (row6 rs)] := pc13 (e13 rs) (v13 hl)
theorem v14 {rs : List I6} (hl : rs.length ≤ 1000000) : vc14 (stdE Try.prog tbl14) (row6 rs) fun c => c = [.int .i64 (allD rs)] := by
  unfold vc14
  simp only [stdE, baseE, Br_iff, tbl14, p38, true_and, forall_eq, decide_eq_true_eq, decide_eq_false_iff_not, row6_len, row6_c0, row6_c1, row6_c2, row6_c3, row6_c4, row6_c5]
  simp only [e38, List.getD_cons_zero, gi_int, ite_or, Bool.decide_eq_true]
  refine ⟨fun h => ?_, fun h => ?_⟩
  · rw [allD, if_pos (by omega)]
  rw [allD, if_neg (by omega)]
  refine LoopP1.run (fun n : Nat => (n : Int)) (fun n => n ≤ rs.length ∧ firstD (rs.drop n) = firstD rs) (fun n => rs.length - n) 0 ⟨Nat.zero_le _, rfl⟩ rfl ?_
  rintro n ⟨hn, hf⟩ K hK
  simp only [toNat_cast, Bool.not_eq_true', Bool.not_eq_false', beq_iff_eq, beq_eq_false_iff_ne, Bool.or_eq_true, Bool.or_eq_false_iff, decide_eq_true_eq, decide_eq_false_iff_not, ne_eq]
  refine ⟨fun h2 => ?_, fun h2 => ?_⟩
  · have hlt : n < rs.length := by omega
    have hd := firstD_one hlt hf
    have hK := fun w : firstD rs = firstD (rs.drop (n + 1)) => hK _ (n + 1) ⟨hlt, w.symm⟩ (by omega) (wrap_up rfl (by omega))
    generalize rs.getD n z6 = q at *
    unfold chkD at hd
    refine ⟨by omega, fun h3 => ?_, fun h3 => ⟨fun h4 => ?_, fun h4 => ⟨fun h5 => ?_, fun h5 => hK ?_⟩⟩⟩
    · rw [if_neg h3, if_neg h3] at hd; rw [hd]
    · rw [if_pos h3, if_pos h4, if_neg (by decide)] at hd; rw [hd]
    · have h4' : ¬ (q.1 = q.2.1 ∨ q.2.2.1 = q.2.2.2.1) := by omega
      have h5' : q.2.2.2.2.1 < 1 ∨ 16 < q.2.2.2.2.1 ∨ q.2.2.2.2.2 < 1 ∨ 100 < q.2.2.2.2.2 := by omega
      rw [if_pos h3, if_neg h4', if_pos h5', if_neg (by decide)] at hd; rw [hd]
    · have h4' : ¬ (q.1 = q.2.1 ∨ q.2.2.1 = q.2.2.2.1) := by omega
      have h5' : ¬ (q.2.2.2.2.1 < 1 ∨ 16 < q.2.2.2.2.1 ∨ q.2.2.2.2.2 < 1 ∨ 100 < q.2.2.2.2.2) := by omega
      rw [if_pos h3, if_neg h4', if_neg h5', if_pos rfl] at hd; exact hd
  · have : n = rs.length := by omega
    subst this
    rw [← hf, List.drop_length]; rfl
theorem p14 {rs : List I6} (hl : rs.length ≤ 1000000) : PCg Try.prog 14 S14 [kI] [s6 (row6 rs)] := pc14 (e14 rs) (v14 hl)
/-! ### Near, joined -/
def nearW (a b : I6) (g : Int) : Bool := decide (IntKind.i64.wrap (mx a.1 b.1 - mn a.2.1 b.2.1) ≤ g) && decide (IntKind.i64.wrap (mx a.2.2.1 b.2.2.1 - mn a.2.2.2.1 b.2.2.2.1) ≤ g)
def S47 : List A → List C := fun ds => match ds with
  | [.agg [.c (.int _ a0), .c (.int _ a1), .c (.int _ a2), .c (.int _ a3)], .agg [.c (.int _ b0), .c (.int _ b1), .c (.int _ b2), .c (.int _ b3)], .c (.int _ g)] => [.bool (nearW (a0, a1, a2, a3, 0, 0) (b0, b1, b2, b3, 0, 0) g)]
  | _ => []
def tbl47 : FuncId → List A → List C := fun f ds => match f with
  | _ => []
theorem pc47  {x1 : Int} {x2 : Int} {x3 : Int} {x4 : Int} {x5 : Int} {x6 : Int} {x7 : Int} {x8 : Int} {x9 : Int} {row : List C} (hS : S47 [.agg [.c (.int .i64 x1), .c (.int .i64 x2), .c (.int .i64 x3), .c (.int .i64 x4)], .agg [.c (.int .i64 x5), .c (.int .i64 x6), .c (.int .i64 x7), .c (.int .i64 x8)], .c (.int .i64 x9)] = row) (h : vc47 (stdE Try.prog tbl47) x1 x2 x3 x4 x5 x6 x7 x8 x9 fun c => c = row) : PCg Try.prog 47 S47 [(false, [.bool])] [.agg [.c (.int .i64 x1), .c (.int .i64 x2), .c (.int .i64 x3), .c (.int .i64 x4)], .agg [.c (.int .i64 x5), .c (.int .i64 x6), .c (.int .i64 x7), .c (.int .i64 x8)], .c (.int .i64 x9)] := PureC_vc mo h47 (by kernel_rfl) hS (w47  h)
theorem p47 (a0 a1 a2 a3 b0 b1 b2 b3 g : Int) : PCg Try.prog 47 S47 [kB] [ag4 a0 a1 a2 a3, ag4 b0 b1 b2 b3, iC g] := by
  refine pc47 rfl ?_
  unfold vc47
  simp only [stdE, baseE, ite_and, Bool.decide_eq_true]
  rfl
theorem e47 (a0 a1 a2 a3 b0 b1 b2 b3 g : Int) : S47 [ag4 a0 a1 a2 a3, ag4 b0 b1 b2 b3, iC g] = [.bool (nearW (a0, a1, a2, a3, 0, 0) (b0, b1, b2, b3, 0, 0) g)] := rfl
def dstW (a b c d : Int) : Int := mx (mx 0 (IntKind.i64.wrap (c - b))) (IntKind.i64.wrap (a - d))
def S58 : List A → List C := fun ds => match ds with
  | [.c (.int _ a), .c (.int _ b), .c (.int _ c), .c (.int _ d)] => [.int .i64 (dstW a b c d)]
  | _ => []
def tbl58 : FuncId → List A → List C := fun f ds => match f with
  | _ => []
theorem pc58  {x1 : Int} {x2 : Int} {x3 : Int} {x4 : Int} {row : List C} (hS : S58 [.c (.int .i64 x1), .c (.int .i64 x2), .c (.int .i64 x3), .c (.int .i64 x4)] = row) (h : vc58 (stdE Try.prog tbl58) x1 x2 x3 x4 fun c => c = row) : PCg Try.prog 58 S58 [(false, [.int .i64])] [.c (.int .i64 x1), .c (.int .i64 x2), .c (.int .i64 x3), .c (.int .i64 x4)] := PureC_vc mo h58 (by kernel_rfl) hS (w58  h)
theorem p58 (a b c d : Int) : PCg Try.prog 58 S58 [kI] [iC a, iC b, iC c, iC d] := by
  refine pc58 rfl ?_
  unfold vc58
  simp only [stdE, baseE]
  rfl
theorem e58 (a b c d : Int) : S58 [iC a, iC b, iC c, iC d] = [.int .i64 (dstW a b c d)] := rfl
def nearR (a b : I6) (g : Int) : Bool := decide (a.2.2.2.2.1 = b.2.2.2.2.1) && (decide (dstW a.1 a.2.1 b.1 b.2.1 ≤ g) && decide (dstW a.2.2.1 a.2.2.2.1 b.2.2.1 b.2.2.2.1 ≤ g))
def S48 : List A → List C := fun ds => match ds with
  | [.agg [.c (.int _ a0), .c (.int _ a1), .c (.int _ a2), .c (.int _ a3), .c (.int _ a4), .c (.int _ a5)], .agg [.c (.int _ b0), .c (.int _ b1), .c (.int _ b2), .c (.int _ b3), .c (.int _ b4), .c (.int _ b5)], .c (.int _ g)] => [.bool (nearR (a0, a1, a2, a3, a4, a5) (b0, b1, b2, b3, b4, b5) g)]
  | _ => []
def tbl48 : FuncId → List A → List C := fun f ds => match f with
  | 58 => S58 ds
  | _ => []
theorem pc48  {x1 : Int} {x2 : Int} {x3 : Int} {x4 : Int} {x5 : Int} {x6 : Int} {x7 : Int} {x8 : Int} {x9 : Int} {x10 : Int} {x11 : Int} {x12 : Int} {x13 : Int} {row : List C} (hS : S48 [.agg [.c (.int .i64 x1), .c (.int .i64 x2), .c (.int .i64 x3), .c (.int .i64 x4), .c (.int .i64 x5), .c (.int .i64 x6)], .agg [.c (.int .i64 x7), .c (.int .i64 x8), .c (.int .i64 x9), .c (.int .i64 x10), .c (.int .i64 x11), .c (.int .i64 x12)], .c (.int .i64 x13)] = row) (h : vc48 (stdE Try.prog tbl48) x1 x2 x3 x4 x5 x6 x7 x8 x9 x10 x11 x12 x13 fun c => c = row) : PCg Try.prog 48 S48 [(false, [.bool])] [.agg [.c (.int .i64 x1), .c (.int .i64 x2), .c (.int .i64 x3), .c (.int .i64 x4), .c (.int .i64 x5), .c (.int .i64 x6)], .agg [.c (.int .i64 x7), .c (.int .i64 x8), .c (.int .i64 x9), .c (.int .i64 x10), .c (.int .i64 x11), .c (.int .i64 x12)], .c (.int .i64 x13)] := PureC_vc mo h48 (by kernel_rfl) hS (w48  h)
theorem p48 (a b : I6) (g : Int) : PCg Try.prog 48 S48 [kB] [q6 a, q6 b, iC g] := by
  refine pc48 rfl ?_
  unfold vc48
  simp only [stdE, baseE, Imp_iff, tbl48, p58, implies_true, true_and, forall_eq, ite_and, Bool.decide_eq_true]
  simp only [e58, List.getD_cons_zero, gi_int]
  show _ = [C.bool (nearR a b g)]
  unfold nearR
  rw [Bool.and_assoc]
  rfl
theorem e48 (a b : I6) (g : Int) : S48 [q6 a, q6 b, iC g] = [.bool (nearR a b g)] := rfl
theorem nearW_ok {a b : I6} {g : Int} (ha : okD a) (hb : okD b) : (decide (a.2.2.2.2.1 = b.2.2.2.2.1) && nearW a b g) = nrB a b g := by
  unfold okD at ha hb
  unfold nearW nrB
  have m1 : -20000000000 ≤ mx a.1 b.1 - mn a.2.1 b.2.1 ∧ mx a.1 b.1 - mn a.2.1 b.2.1 ≤ 20000000000 := by unfold mx mn; split <;> split <;> omega
  have m2 : -20000000000 ≤ mx a.2.2.1 b.2.2.1 - mn a.2.2.2.1 b.2.2.2.1 ∧ mx a.2.2.1 b.2.2.1 - mn a.2.2.2.1 b.2.2.2.1 ≤ 20000000000 := by unfold mx mn; split <;> split <;> omega
  rw [wrap_in (by omega) (by omega), wrap_in (by omega) (by omega)]
  simp only [Bool.decide_and]
theorem dst_ok {a b c d g : Int} (hg : 0 ≤ g) (h1 : -20000000000 ≤ a) (h2 : a < b) (h3 : b ≤ 20000000000) (h4 : -20000000000 ≤ c) (h5 : c < d) (h6 : d ≤ 20000000000) : (dstW a b c d ≤ g) ↔ mx a c - mn b d ≤ g := by
  unfold dstW
  rw [wrap_in (by omega) (by omega), wrap_in (by omega) (by omega)]
  unfold mx mn
  repeat' split
  all_goals omega
theorem nearR_ok {a b : I6} {g : Int} (hg : 0 ≤ g) (ha : okD a) (hb : okD b) : nearR a b g = nrB a b g := by
  unfold okD at ha hb
  unfold nearR nrB
  rw [show decide (dstW a.1 a.2.1 b.1 b.2.1 ≤ g) = decide (mx a.1 b.1 - mn a.2.1 b.2.1 ≤ g) from by rw [decide_eq_decide]; exact dst_ok hg (by omega) (by omega) (by omega) (by omega) (by omega) (by omega)]
  rw [show decide (dstW a.2.2.1 a.2.2.2.1 b.2.2.1 b.2.2.2.1 ≤ g) = decide (mx a.2.2.1 b.2.2.1 - mn a.2.2.2.1 b.2.2.2.1 ≤ g) from by rw [decide_eq_decide]; exact dst_ok hg (by omega) (by omega) (by omega) (by omega) (by omega) (by omega)]
  simp only [Bool.decide_and]
def sJn : List A → List C := fun ds => match ds with
  | [.agg [.c (.int _ a0), .c (.int _ a1), .c (.int _ a2), .c (.int _ a3), .c (.int _ a4), .c (.int _ a5)], .agg [.c (.int _ b0), .c (.int _ b1), .c (.int _ b2), .c (.int _ b3), .c (.int _ b4), .c (.int _ b5)]] => cs6 (jn (a0, a1, a2, a3, a4, a5) (b0, b1, b2, b3, b4, b5))
  | _ => []
def S33 : List A → List C := sJn
def S36 : List A → List C := sJn
def tbl33 : FuncId → List A → List C := fun f ds => match f with
  | _ => []
theorem pc33  {x1 : Int} {x2 : Int} {x3 : Int} {x4 : Int} {x5 : Int} {x6 : Int} {x7 : Int} {x8 : Int} {x9 : Int} {x10 : Int} {x11 : Int} {x12 : Int} {row : List C} (hS : S33 [.agg [.c (.int .i64 x1), .c (.int .i64 x2), .c (.int .i64 x3), .c (.int .i64 x4), .c (.int .i64 x5), .c (.int .i64 x6)], .agg [.c (.int .i64 x7), .c (.int .i64 x8), .c (.int .i64 x9), .c (.int .i64 x10), .c (.int .i64 x11), .c (.int .i64 x12)]] = row) (h : vc33 (stdE Try.prog tbl33) x1 x2 x3 x4 x5 x6 x7 x8 x9 x10 x11 x12 fun c => c = row) : PCg Try.prog 33 S33 [(true, [.int .i64, .int .i64, .int .i64, .int .i64, .int .i64, .int .i64])] [.agg [.c (.int .i64 x1), .c (.int .i64 x2), .c (.int .i64 x3), .c (.int .i64 x4), .c (.int .i64 x5), .c (.int .i64 x6)], .agg [.c (.int .i64 x7), .c (.int .i64 x8), .c (.int .i64 x9), .c (.int .i64 x10), .c (.int .i64 x11), .c (.int .i64 x12)]] := PureC_vc mo h33 (by kernel_rfl) hS (w33  h)
def tbl36 : FuncId → List A → List C := fun f ds => match f with
  | _ => []
theorem pc36  {x1 : Int} {x2 : Int} {x3 : Int} {x4 : Int} {x5 : Int} {x6 : Int} {x7 : Int} {x8 : Int} {x9 : Int} {x10 : Int} {x11 : Int} {x12 : Int} {row : List C} (hS : S36 [.agg [.c (.int .i64 x1), .c (.int .i64 x2), .c (.int .i64 x3), .c (.int .i64 x4), .c (.int .i64 x5), .c (.int .i64 x6)], .agg [.c (.int .i64 x7), .c (.int .i64 x8), .c (.int .i64 x9), .c (.int .i64 x10), .c (.int .i64 x11), .c (.int .i64 x12)]] = row) (h : vc36 (stdE Try.prog tbl36) x1 x2 x3 x4 x5 x6 x7 x8 x9 x10 x11 x12 fun c => c = row) : PCg Try.prog 36 S36 [(true, [.int .i64, .int .i64, .int .i64, .int .i64, .int .i64, .int .i64])] [.agg [.c (.int .i64 x1), .c (.int .i64 x2), .c (.int .i64 x3), .c (.int .i64 x4), .c (.int .i64 x5), .c (.int .i64 x6)], .agg [.c (.int .i64 x7), .c (.int .i64 x8), .c (.int .i64 x9), .c (.int .i64 x10), .c (.int .i64 x11), .c (.int .i64 x12)]] := PureC_vc mo h36 (by kernel_rfl) hS (w36  h)
theorem p33 (a b : I6) : PCg Try.prog 33 S33 [kA6] [q6 a, q6 b] := by
  refine pc33 rfl ?_
  unfold vc33
  simp only [stdE, baseE]
  rfl
theorem p36 (a b : I6) : PCg Try.prog 36 S36 [kA6] [q6 a, q6 b] := by
  refine pc36 rfl ?_
  unfold vc36
  simp only [stdE, baseE]
  rfl
theorem e33 (a b : I6) : S33 [q6 a, q6 b] = cs6 (jn a b) := rfl
theorem e36 (a b : I6) : S36 [q6 a, q6 b] = cs6 (jn a b) := rfl
/-! ### Pairs -/
def S32 : List A → List C := fun ds => match ds with
  | [.c (.sl _ xs), .c (.int _ g)] => match prs2 (un6 xs) g 0 with
    | some (i, k) => [.int .i64 (i : Int), .int .i64 (k : Int), .bool true]
    | none => [.int .i64 ((xs.length - 1 : Nat) : Int), .int .i64 (xs.length : Int), .bool false]
  | _ => []
def S35 : List A → List C := fun ds => match ds with
  | [.c (.sl _ xs), .c (.int _ g)] => match prs2 (un6 xs) g 0 with
    | some (i, k) => [.int .i64 (i : Int), .int .i64 (k : Int), .bool true]
    | none => [.int .i64 0, .int .i64 0, .bool false]
  | _ => []
theorem e32 (rs : List I6) (g : Int) : S32 [s6 (row6 rs), iC g] = match prs2 rs g 0 with
    | some (i, k) => [.int .i64 (i : Int), .int .i64 (k : Int), .bool true]
    | none => [.int .i64 ((rs.length - 1 : Nat) : Int), .int .i64 (rs.length : Int), .bool false] := by
  unfold S32
  simp only [un6_row, row6_len]
theorem e35 (rs : List I6) (g : Int) : S35 [s6 (row6 rs), iC g] = match prs2 rs g 0 with
    | some (i, k) => [.int .i64 (i : Int), .int .i64 (k : Int), .bool true]
    | none => [.int .i64 0, .int .i64 0, .bool false] := by
  unfold S35
  simp only [un6_row]
def tbl32 : FuncId → List A → List C := fun f ds => match f with
  | 47 => S47 ds
  | _ => []
theorem pc32  {x1 : List (List C)} {x2 : Int} {row : List C} (hS : S32 [.c (.sl [.int .i64, .int .i64, .int .i64, .int .i64, .int .i64, .int .i64] x1), .c (.int .i64 x2)] = row) (h : vc32 (stdE Try.prog tbl32) x1 x2 fun c => c = row) : PCg Try.prog 32 S32 [(false, [.int .i64]), (false, [.int .i64]), (false, [.bool])] [.c (.sl [.int .i64, .int .i64, .int .i64, .int .i64, .int .i64, .int .i64] x1), .c (.int .i64 x2)] := PureC_vc mo h32 (by kernel_rfl) hS (w32  h)
def tbl35 : FuncId → List A → List C := fun f ds => match f with
  | 48 => S48 ds
  | _ => []
theorem pc35  {x1 : List (List C)} {x2 : Int} {row : List C} (hS : S35 [.c (.sl [.int .i64, .int .i64, .int .i64, .int .i64, .int .i64, .int .i64] x1), .c (.int .i64 x2)] = row) (h : vc35 (stdE Try.prog tbl35) x1 x2 fun c => c = row) : PCg Try.prog 35 S35 [(false, [.int .i64]), (false, [.int .i64]), (false, [.bool])] [.c (.sl [.int .i64, .int .i64, .int .i64, .int .i64, .int .i64, .int .i64] x1), .c (.int .i64 x2)] := PureC_vc mo h35 (by kernel_rfl) hS (w35  h)
theorem p35 {rs : List I6} {g : Int} (hl : rs.length ≤ 1000000) (hg : 0 ≤ g) (hok : ∀ r ∈ rs, okD r) : PCg Try.prog 35 S35 [kI, kI, kB] [s6 (row6 rs), iC g] := by
  refine pc35 (e35 rs g) ?_
  unfold vc35
  simp only [stdE, baseE, Br_iff, tbl35, true_and, forall_eq, decide_eq_true_eq, decide_eq_false_iff_not, row6_len, row6_c0, row6_c1, row6_c2, row6_c3, row6_c4, row6_c5]
  refine LoopP1.run (fun n : Nat => (n : Int)) (fun n => n ≤ rs.length ∧ prs2 rs g n = prs2 rs g 0) (fun n => rs.length - n) 0 ⟨Nat.zero_le _, rfl⟩ rfl ?_
  rintro n ⟨hn, hf⟩ K hK
  simp only [toNat_cast]
  refine ⟨fun h2 => ?_, fun h2 => ?_⟩
  · have hlt : n < rs.length := by omega
    have h1 := prs2_lt (g := g) hlt
    rw [hf] at h1
    rw [wrap_up rfl (by omega)]
    refine LoopP1.run (fun k : Nat => (k : Int)) (fun k => k ≤ rs.length ∧ inn rs g n k = inn rs g n (n + 1)) (fun k => rs.length - k) (n + 1) ⟨hlt, rfl⟩ rfl ?_
    rintro k ⟨hk, hf2⟩ K2 hK2
    simp only [toNat_cast]
    refine ⟨fun h3 => ?_, fun h3 => ?_⟩
    · have hlk : k < rs.length := by omega
      have h4 := inn_lt (g := g) (i := n) hlk
      rw [hf2] at h4
      have hnr := nearR_ok hg (hok _ (getD_mem (d := z6) hlt)) (hok _ (getD_mem (d := z6) hlk))
      have hp := p48 (rs.getD n z6) (rs.getD k z6) g
      have he := e48 (rs.getD n z6) (rs.getD k z6) g
      rw [hnr] at he
      refine ⟨by omega, by omega, hp, ?_⟩
      simp only [he, List.getD_cons_zero, gb_bool]
      refine ⟨fun h5 => ?_, fun h5 => hK2 _ (k + 1) ⟨hlk, ?_⟩ (by omega) (wrap_up rfl (by omega))⟩
      · rw [if_pos h5] at h4
        rw [h4] at h1
        rw [h1]
      · rw [if_neg (by rw [h5]; decide)] at h4; exact h4.symm
    · have : k = rs.length := by omega
      subst this
      rw [inn_ge (by omega)] at hf2
      rw [← hf2] at h1
      exact hK _ (n + 1) ⟨hlt, h1.symm⟩ (by omega) rfl
  · have : n = rs.length := by omega
    subst this
    rw [prs2_ge (by omega)] at hf
    rw [← hf]
theorem p32 {rs : List I6} {g : Int} (hl : rs.length ≤ 1000000) (hok : ∀ r ∈ rs, okD r) : PCg Try.prog 32 S32 [kI, kI, kB] [s6 (row6 rs), iC g] := by
  refine pc32 (e32 rs g) ?_
  unfold vc32
  simp only [stdE, baseE, Br_iff, Imp_iff, tbl32, p47, implies_true, true_and, forall_eq, decide_eq_true_eq, decide_eq_false_iff_not, row6_len, row6_c0, row6_c1, row6_c2, row6_c3, row6_c4, row6_c5]
  simp only [e47, List.getD_cons_zero, gb_bool, ite_and]
  refine LoopP3.run (fun n : Nat => ((n - 1 : Nat) : Int)) (fun n : Nat => if n = 0 then (0 : Int) else (rs.length : Int)) (fun n : Nat => (n : Int)) (fun n => n ≤ rs.length ∧ prs2 rs g n = prs2 rs g 0) (fun n => rs.length - n) 0 ⟨Nat.zero_le _, rfl⟩ rfl rfl rfl ?_
  rintro n ⟨hn, hf⟩ K hK
  simp only [toNat_cast]
  refine ⟨fun h2 => ?_, fun h2 => ?_⟩
  · have hlt : n < rs.length := by omega
    have h1 := prs2_lt (g := g) hlt
    rw [hf] at h1
    rw [wrap_up rfl (by omega)]
    refine LoopP1.run (fun k : Nat => (k : Int)) (fun k => k ≤ rs.length ∧ inn rs g n k = inn rs g n (n + 1)) (fun k => rs.length - k) (n + 1) ⟨hlt, rfl⟩ rfl ?_
    rintro k ⟨hk, hf2⟩ K2 hK2
    simp only [toNat_cast]
    refine ⟨fun h3 => ?_, fun h3 => ?_⟩
    · have hlk : k < rs.length := by omega
      have h4 := inn_lt (g := g) (i := n) hlk
      rw [hf2] at h4
      have hnr := nearW_ok (g := g) (hok _ (getD_mem (d := z6) hlt)) (hok _ (getD_mem (d := z6) hlk))
      have hnr2 : nearW ((rs.getD n z6).1, (rs.getD n z6).2.1, (rs.getD n z6).2.2.1, (rs.getD n z6).2.2.2.1, 0, 0) ((rs.getD k z6).1, (rs.getD k z6).2.1, (rs.getD k z6).2.2.1, (rs.getD k z6).2.2.2.1, 0, 0) g = nearW (rs.getD n z6) (rs.getD k z6) g := rfl
      rw [hnr2, show ((rs.getD n z6).2.2.2.2.1 == (rs.getD k z6).2.2.2.2.1) = decide ((rs.getD n z6).2.2.2.2.1 = (rs.getD k z6).2.2.2.2.1) from rfl, Bool.decide_eq_true, hnr]
      refine ⟨by omega, by omega, fun h5 => ?_, fun h5 => hK2 _ (k + 1) ⟨hlk, ?_⟩ (by omega) (wrap_up rfl (by omega))⟩
      · rw [if_pos h5] at h4
        rw [h4] at h1
        rw [h1]
        simp only [h3, decide_true]
      · rw [if_neg (by rw [h5]; decide)] at h4; exact h4.symm
    · have : k = rs.length := by omega
      subst this
      rw [inn_ge (by omega)] at hf2
      rw [← hf2] at h1
      exact hK _ _ _ (n + 1) ⟨hlt, h1.symm⟩ (by omega) (by simp) (by simp) rfl
  · have : n = rs.length := by omega
    subst this
    rw [prs2_ge (by omega)] at hf
    rw [← hf]
    by_cases h0 : rs.length = 0
    · rw [if_pos h0, h0]; rfl
    · rw [if_neg h0]; simp
end Go.Proofs.Ytkdapoipnkpbeaa.V
