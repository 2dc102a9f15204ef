/- Defects: their positions and areas, in the program and in the reference. No conditions. -/
import Derived.Test.YtkdapoipnkpbeaaSel
import Derived.Test.YtkdapoipnkpbeaaWorst
import Derived.Test.YtkdapoipnkpbeaaSides
set_option linter.unusedVariables false
set_option linter.unusedSimpArgs false
namespace Go.Proofs.Ytkdapoipnkpbeaa.V
open Go Go.Eng Go.Span Go.Proofs.Ytkdapoipnkpbeaa.R
set_option maxRecDepth 1000000
set_option maxHeartbeats 1000000
def spansD (rs : List I6) : List (Int × Int) := rs.map fun q => (q.2.2.1, q.2.2.2.1)
theorem spansD_ok {rs : List I6} (hl : rs.length ≤ 128) (h : ∀ r ∈ rs, okD r) : spE (rowsP (spansD rs)) = 0 := by
  refine spE_good (by simp [spansD]; omega) fun z hz => ?_
  obtain ⟨q, hq, rfl⟩ := List.mem_map.1 hz
  have := h q hq
  unfold okD at this
  dsimp only; omega
def sLen : List A → List C := fun ds => match ds with
  | [.c (.sl _ xs)] => [.sl i2 (rowsP (if allD (un6 xs) = 0 then nf (spansD (un6 xs)) else [])), .int .i64 (allD (un6 xs))]
  | _ => []
def S16 : List A → List C := sLen
def S22 : List A → List C := sLen
theorem e16 (rs : List I6) : S16 [s6 (row6 rs)] = [.sl i2 (rowsP (if allD rs = 0 then nf (spansD rs) else [])), .int .i64 (allD rs)] := by
  show [C.sl i2 (rowsP (if allD (un6 (row6 rs)) = 0 then nf (spansD (un6 (row6 rs))) else [])), C.int .i64 (allD (un6 (row6 rs)))] = _
  rw [un6_row]
theorem e22 (rs : List I6) : S22 [s6 (row6 rs)] = [.sl i2 (rowsP (if allD rs = 0 then nf (spansD rs) else [])), .int .i64 (allD rs)] := e16 rs
def tbl16 : FuncId → List A → List C := fun f ds => match f with
  | 13 => S13 ds
  | 39 => S39 ds
  | _ => []
theorem pc16  {x1 : List (List C)} {row : List C} (hS : S16 [.c (.sl [.int .i64, .int .i64, .int .i64, .int .i64, .int .i64, .int .i64] x1)] = row) (h : vc16 (stdE Try.prog tbl16) x1 fun c => c = row) : PCg Try.prog 16 S16 [(false, [.sl [.int .i64, .int .i64]]), (false, [.int .i64])] [.c (.sl [.int .i64, .int .i64, .int .i64, .int .i64, .int .i64, .int .i64] x1)] := PureC_vc mo h16 (by kernel_rfl) hS (w16  h)
def tbl22 : FuncId → List A → List C := fun f ds => match f with
  | 14 => S14 ds
  | 43 => S43 ds
  | _ => []
theorem pc22  {x1 : List (List C)} {row : List C} (hS : S22 [.c (.sl [.int .i64, .int .i64, .int .i64, .int .i64, .int .i64, .int .i64] x1)] = row) (h : vc22 (stdE Try.prog tbl22) x1 fun c => c = row) : PCg Try.prog 22 S22 [(false, [.sl [.int .i64, .int .i64]]), (false, [.int .i64])] [.c (.sl [.int .i64, .int .i64, .int .i64, .int .i64, .int .i64, .int .i64] x1)] := PureC_vc mo h22 (by kernel_rfl) hS (w22  h)
theorem p16 {rs : List I6} (hl : rs.length ≤ 1000000) : PCg Try.prog 16 S16 [kS, kI] [s6 (row6 rs)] := by
  refine pc16 (e16 rs) ?_
  unfold vc16
  simp only [stdE, baseE, Br_iff, tbl16, p13 hl, true_and, forall_eq, decide_eq_true_eq, decide_eq_false_iff_not, row6_len, row6_c2, row6_c3]
  simp only [e13, List.getD_cons_zero, gi_int, Bool.not_eq_true', Bool.not_eq_false', beq_iff_eq, beq_eq_false_iff_ne, ne_eq]
  refine ⟨fun h1 => ?_, fun h1 => ?_⟩
  · rw [if_neg h1]; rfl
  rw [if_pos h1, h1]
  obtain ⟨hl2, hok⟩ := allD_ok h1
  refine LoopP2.run (fun n : Nat => rowsP (spansD (rs.take n))) (fun n : Nat => (n : Int)) (fun n => n ≤ rs.length) (fun n => rs.length - n) 0 (Nat.zero_le _) rfl rfl ?_
  intro n hn K hK
  simp only [toNat_cast, rowsP_len]
  refine ⟨fun h3 => ⟨by omega, ?_, hK _ _ (n + 1) (by omega) (by omega) ?_ (wrap_up rfl (by omega))⟩, fun h3 => ?_⟩
  · simp [spansD]; omega
  · rw [show spansD (rs.take (n + 1)) = _ from map_take _ _ z6 (by omega), rowsP_append]; rfl
  · rw [show n = rs.length by omega, List.take_length]
    have hs := spansD_ok hl2 hok
    have hn := q41 (spansD rs)
    rw [if_pos hs, hs] at hn
    refine ⟨c41 (by simp [spansD]; omega), ?_⟩
    simp only [hn, List.getD_cons_zero, List.getD_cons_succ, gl_sl, gi_int]
theorem p22 {rs : List I6} (hl : rs.length ≤ 1000000) : PCg Try.prog 22 S22 [kS, kI] [s6 (row6 rs)] := by
  refine pc22 (e22 rs) ?_
  unfold vc22
  simp only [stdE, baseE, Br_iff, tbl22, p14 hl, true_and, forall_eq, decide_eq_true_eq, decide_eq_false_iff_not, row6_len, row6_c2, row6_c3]
  simp only [e14, List.getD_cons_zero, gi_int, Bool.not_eq_true', Bool.not_eq_false', beq_iff_eq, beq_eq_false_iff_ne, ne_eq]
  refine ⟨fun h1 => ?_, fun h1 => ?_⟩
  · rw [if_neg h1]; rfl
  rw [if_pos h1, h1]
  obtain ⟨hl2, hok⟩ := allD_ok h1
  refine LoopP2.run (fun n : Nat => rowsP (spansD (rs.take n))) (fun n : Nat => (n : Int)) (fun n => n ≤ rs.length) (fun n => rs.length - n) 0 (Nat.zero_le _) rfl rfl ?_
  intro n hn K hK
  simp only [toNat_cast, rowsP_len]
  refine ⟨fun h3 => ⟨by omega, ?_, hK _ _ (n + 1) (by omega) (by omega) ?_ (wrap_up rfl (by omega))⟩, fun h3 => ?_⟩
  · simp [spansD]; omega
  · rw [show spansD (rs.take (n + 1)) = _ from map_take _ _ z6 (by omega), rowsP_append]; rfl
  · rw [show n = rs.length by omega, List.take_length]
    have hs := spansD_ok hl2 hok
    have hn := q44 (spansD rs)
    rw [if_pos hs, hs] at hn
    refine ⟨c44, ?_⟩
    simp only [hn, List.getD_cons_zero, List.getD_cons_succ, gl_sl, gi_int]
/-! ### Areas -/
def rcD (q : I6) : R4 := (q.1, q.2.1, q.2.2.1, q.2.2.2.1)
def ofK (rs : List I6) (k : Int) : List I6 := rs.filter fun q => decide (k = 0) || (q.2.2.2.2.1 == k)
def rctD (rs : List I6) (k : Int) : List R4 := (ofK rs k).map rcD
theorem rctD_take {rs : List I6} {k : Int} {n : Nat} (h : n < rs.length) : rctD (rs.take (n + 1)) k = rctD (rs.take n) k ++ if decide (k = 0) || ((rs.getD n z6).2.2.2.2.1 == k) then [rcD (rs.getD n z6)] else [] := by
  unfold rctD ofK
  exact Go.Eng.filtmap_take (fun q : I6 => decide (k = 0) || (q.2.2.2.2.1 == k)) rcD rs z6 h
theorem rctD_len (rs : List I6) (k : Int) : (rctD rs k).length ≤ rs.length := by
  rw [rctD, List.length_map]; exact List.length_filter_le _ _
theorem rcD_ok {q : I6} (h : okD q) : okR (rcD q) := by
  unfold okD at h
  unfold okR rcD
  dsimp only; omega
theorem rctD_ok {rs : List I6} {k : Int} (h : ∀ r ∈ rs, okD r) : ∀ r ∈ rctD rs k, okR r := fun r hr => by
  obtain ⟨q, hq, rfl⟩ := List.mem_map.1 hr
  exact rcD_ok (h q (List.mem_filter.1 hq).1)
theorem sel_ofK {rs : List I6} {k : Int} (h : ∀ r ∈ rs, okD r) : sel rs k 0 = ofK rs k := by
  refine List.filter_congr fun q hq => ?_
  have := h q hq
  unfold okD at this
  unfold delD
  rw [show decide (q.2.2.2.2.2 < 0) = false from decide_eq_false (by omega), Bool.or_false, show decide (k = 0) = (k == 0) from rfl]
  cases (k == 0) <;> cases (q.2.2.2.2.1 == k) <;> rfl
noncomputable def arD (rs : List I6) (k : Int) : Int := if allD rs = 0 then covR (rctD rs k) else 0
def arE (rs : List I6) (k : Int) : Int := if allD rs = 0 then allE (rowsR (rctD rs k)) else allD rs
noncomputable def sAr : List A → List C := fun ds => match ds with
  | [.c (.sl _ xs), .c (.int _ k)] => [.int .i64 (arD (un6 xs) k), .int .i64 (arE (un6 xs) k)]
  | _ => []
noncomputable def S17 : List A → List C := sAr
noncomputable def S23 : List A → List C := sAr
theorem e17 (rs : List I6) (k : Int) : S17 [s6 (row6 rs), iC k] = [.int .i64 (arD rs k), .int .i64 (arE rs k)] := by
  show [C.int .i64 (arD (un6 (row6 rs)) k), C.int .i64 (arE (un6 (row6 rs)) k)] = _
  rw [un6_row]
theorem e23 (rs : List I6) (k : Int) : S23 [s6 (row6 rs), iC k] = [.int .i64 (arD rs k), .int .i64 (arE rs k)] := e17 rs k
noncomputable def tbl17 : FuncId → List A → List C := fun f ds => match f with
  | 13 => S13 ds
  | 40 => S40 ds
  | _ => []
theorem pc17  {x1 : List (List C)} {x2 : Int} {row : List C} (hS : S17 [.c (.sl [.int .i64, .int .i64, .int .i64, .int .i64, .int .i64, .int .i64] x1), .c (.int .i64 x2)] = row) (h : vc17 (stdE Try.prog tbl17) x1 x2 fun c => c = row) : PCg Try.prog 17 S17 [(false, [.int .i64]), (false, [.int .i64])] [.c (.sl [.int .i64, .int .i64, .int .i64, .int .i64, .int .i64, .int .i64] x1), .c (.int .i64 x2)] := PureC_vc mo h17 (by kernel_rfl) hS (w17  h)
noncomputable def tbl23 : FuncId → List A → List C := fun f ds => match f with
  | 19 => S19 ds
  | 44 => S44 ds
  | _ => []
theorem pc23  {x1 : List (List C)} {x2 : Int} {row : List C} (hS : S23 [.c (.sl [.int .i64, .int .i64, .int .i64, .int .i64, .int .i64, .int .i64] x1), .c (.int .i64 x2)] = row) (h : vc23 (stdE Try.prog tbl23) x1 x2 fun c => c = row) : PCg Try.prog 23 S23 [(false, [.int .i64]), (false, [.int .i64])] [.c (.sl [.int .i64, .int .i64, .int .i64, .int .i64, .int .i64, .int .i64] x1), .c (.int .i64 x2)] := PureC_vc mo h23 (by kernel_rfl) hS (w23  h)
theorem p17 {rs : List I6} (hl : rs.length ≤ 1000000) (k : Int) : PCg Try.prog 17 S17 [kI, kI] [s6 (row6 rs), iC k] := by
  refine pc17 (e17 rs k) ?_
  unfold vc17
  simp only [stdE, baseE, Br_iff, tbl17, p13 hl, true_and, forall_eq, decide_eq_true_eq, decide_eq_false_iff_not, row6_len, row6_c0, row6_c1, row6_c2, row6_c3, row6_c4]
  simp only [e13, List.getD_cons_zero, gi_int, ite_or, Bool.not_eq_true', Bool.not_eq_false', beq_iff_eq, beq_eq_false_iff_ne, ne_eq]
  unfold arD arE
  refine ⟨fun h1 => ?_, fun h1 => ?_⟩
  · rw [if_neg h1, if_neg h1]
  rw [if_pos h1, if_pos h1]
  obtain ⟨hl2, hok⟩ := allD_ok h1
  refine LoopP2.run (fun n : Nat => rowsR (rctD (rs.take n) k)) (fun n : Nat => (n : Int)) (fun n => n ≤ rs.length) (fun n => rs.length - n) 0 (Nat.zero_le _) rfl rfl ?_
  intro n hn K hK
  simp only [toNat_cast, rowsR_len]
  refine ⟨fun h3 => ?_, fun h3 => ?_⟩
  · have hlt : n < rs.length := by omega
    have ht := rctD_take (k := k) hlt
    have hlen : (rctD (rs.take n) k).length ≤ 1000 := Nat.le_trans (rctD_len _ _) (by simp; omega)
    generalize rs.getD n z6 = q at *
    refine ⟨by omega, fun h4 => ⟨by simp; omega, hK _ _ (n + 1) hlt (by omega) ?_ (wrap_up rfl (by omega))⟩, fun h4 => hK _ _ (n + 1) hlt (by omega) ?_ (wrap_up rfl (by omega))⟩
    · rw [ht, if_pos h4, rowsR_append]; rfl
    · rw [ht, if_neg (by rw [h4]; simp), List.append_nil]
  · rw [show n = rs.length by omega, List.take_length]
    have hlen : (rctD rs k).length ≤ 1000000 := Nat.le_trans (rctD_len _ _) hl
    refine ⟨R.p12 hlen, ?_⟩
    simp only [R.q12, List.getD_cons_zero, List.getD_cons_succ, gi_int]
theorem p23 {rs : List I6} (hl : rs.length ≤ 1000000) (k : Int) : PCg Try.prog 23 S23 [kI, kI] [s6 (row6 rs), iC k] := by
  refine pc23 (e23 rs k) ?_
  unfold vc23
  simp only [stdE, baseE, Br_iff, tbl23, p19 hl, true_and, forall_eq, decide_eq_true_eq, decide_eq_false_iff_not]
  simp only [e19, List.getD_cons_zero, List.getD_cons_succ, gi_int, gl_sl, Bool.not_eq_true', Bool.not_eq_false', beq_iff_eq, beq_eq_false_iff_ne, ne_eq, row6_len, row6_c0, row6_c1, row6_c2, row6_c3]
  unfold arD arE
  refine ⟨fun h1 => ?_, fun h1 => ?_⟩
  · rw [if_neg h1, if_neg h1]
  rw [if_pos h1, if_pos h1, if_pos h1]
  obtain ⟨hl2, hok⟩ := allD_ok h1
  rw [sel_ofK hok]
  have hol : (ofK rs k).length ≤ rs.length := List.length_filter_le _ _
  have e : rctD rs k = (ofK rs k).map rcD := rfl
  rw [e]
  generalize ofK rs k = ys at *
  refine LoopP2.run (fun n : Nat => rowsR ((ys.take n).map rcD)) (fun n : Nat => (n : Int)) (fun n => n ≤ ys.length) (fun n => ys.length - n) 0 (Nat.zero_le _) rfl rfl ?_
  intro n hn K hK
  simp only [toNat_cast, rowsR_len]
  refine ⟨fun h3 => ⟨by omega, ?_, hK _ _ (n + 1) (by omega) (by omega) ?_ (wrap_up rfl (by omega))⟩, fun h3 => ?_⟩
  · simp; omega
  · rw [map_take _ _ z6 (by omega), rowsR_append]; rfl
  · rw [show n = ys.length by omega, List.take_length]
    have hlen : (ys.map rcD).length ≤ 1000000 := by simp; omega
    refine ⟨R.p13 hlen, ?_⟩
    simp only [R.q13, List.getD_cons_zero, List.getD_cons_succ, gi_int]
end Go.Proofs.Ytkdapoipnkpbeaa.V
