/- Spans: what Norm hands back, in the program and in the reference. No conditions. -/
import Derived.Test.YtkdapoipnkpbeaaGB
import Derived.Test.YtkdapoipnkpbeaaCovLaws
import Derived.Test.YtkdapoipnkpbeaaCovers
import Derived.Test.YtkdapoipnkpbeaaPlain
set_option linter.unusedVariables false
set_option linter.unusedSimpArgs false
namespace Go.Eng
open Go.RowKit
end Go.Eng
namespace Go.Proofs.Ytkdapoipnkpbeaa.R
open Go Go.Eng Go.Span
set_option maxRecDepth 1000000
set_option maxHeartbeats 1000000
def S59 (ds : List A) : List C := match ds with
  | [.c .nil] => [.int .i64 0]
  | _ => tb6 59 ds
def S60 (ds : List A) : List C := match ds with
  | [.c .nil] => [.sl i2 []]
  | _ => tb6 60 ds
theorem c64 {xs : List (List C)} (hl : xs.length ≤ 9223372036854775807) : PCg Try.prog 59 S59 [kI] [sC xs] := e64 hl
theorem c64n : PCg Try.prog 59 S59 [kI] [.c .nil] := PureC.cg (PureC.nil0 (lay := i2) (e64 (xs := []) (by decide))) (by rw [s64, spE, if_neg (by decide), firstS_ge (by decide)]; rfl)
theorem c65 {zs : List (Int × Int)} (hl : zs.length ≤ 1000000) (hb : ∀ z ∈ zs, -4611686018427387904 ≤ z.1 ∧ z.1 < 4611686018427387904) : PCg Try.prog 60 S60 [kS] [sC (rowsP zs)] := e65 hl hb
theorem c65n : PCg Try.prog 60 S60 [kS] [.c .nil] := PureC.cg (PureC.nil0 (lay := i2) (e65 (zs := []) (by decide) (by simp))) (by rw [s65]; rfl)
theorem t64 (xs : List (List C)) : S59 [sC xs] = [.int .i64 (spE xs)] := rfl
theorem t64n : S59 [.c .nil] = [.int .i64 0] := rfl
theorem t65 (zs : List (Int × Int)) : S60 [sC (rowsP zs)] = [.sl i2 (rowsP (nf zs))] := s65 zs
theorem t65n : S60 [.c .nil] = [.sl i2 []] := rfl
def S61 (ds : List A) : List C := match ds with
  | [.c (.sl _ [[.sl _ a], [.sl _ b]])] => [.sl i2 (a ++ b)]
  | _ => []
def tbl76 : FuncId → List A → List C := fun f ds => match f with
  | _ => []
theorem ac76  {x1 : Int} {Q0 : (List (List C)) → (Int) → Prop} (h : vc76 (stdE Try.prog tbl76) x1 Q0) : ACalls Try.prog 76 [.c (.nil), .c (.int .i64 x1)] [] fun r H' => (∃ l1 : List (List C), ∃ i2 : Int, Q0 l1 i2 ∧ r = .own 0 0 i2 ∧ H' = [.arr 34 [.int .i64, .int .i64] l1]) := ACalls_vc mo h76 (w76  h)
def tbl61 : FuncId → List A → List C := fun f ds => match f with
  | _ => []
theorem pc61 (ce76 : GrowC 34 [.int .i64, .int .i64] Try.prog 76) {x1 : List (List C)} {row : List C} (hS : S61 [.c (.sl [.sl [.int .i64, .int .i64]] x1)] = row) (h : vc61 (stdE Try.prog tbl61) x1 fun c => c = row) : PCg Try.prog 61 S61 [(false, [.sl [.int .i64, .int .i64]])] [.c (.sl [.sl [.int .i64, .int .i64]] x1)] := PureC_vc mo h61 (by kernel_rfl) hS (w61 ce76 h)
theorem grow83 : GrowC 34 i2 Try.prog 76 := ⟨fnR_body h76 (by kernel_rfl), fun n K ⟨h0, h1, hk⟩ => (ac76 (x1 := n) (Q0 := fun d m => m = 0) (by
    unfold vc76
    simp only [stdE, baseE, Br_iff, decide_eq_true_eq, decide_eq_false_iff_not]
    have w0 : IntKind.i64.wrap (0 - 0) = 0 := by rw [wrap_in (by omega) (by omega)]; rfl
    have w1 : IntKind.i64.wrap (n - 0) = n := by rw [wrap_in (by omega) (by omega)]; omega
    rw [w0, w1]
    refine ⟨fun h => by omega, fun _ => ⟨fun h => ⟨rfl, by omega, by omega, by omega, by omega, by simp⟩, fun _ => by simp⟩⟩)).mono fun r H' ⟨d, m, hm, e1, e2⟩ => by subst hm; exact ⟨d, hk d, e1, e2⟩⟩
theorem v66 {a b : List (List C)} (ha : a.length ≤ 1000000) (hb : b.length ≤ 1000000) : vc61 (stdE Try.prog tbl61) [[.sl i2 a], [.sl i2 b]] fun c => c = [.sl i2 (a ++ b)] := by
  unfold vc61
  simp only [stdE, baseE, Br_iff, decide_eq_true_eq, decide_eq_false_iff_not]
  refine LoopP2.run (fun n => if n = 0 then 0 else if n = 1 then (a.length : Int) else a.length + b.length) (fun n : Nat => (n : Int)) (fun n => n ≤ 2) (fun n => 2 - n) 0 (Nat.zero_le _) rfl rfl ?_
  intro n hn K hK
  have h3 : n = 0 ∨ n = 1 ∨ n = 2 := by omega
  rcases h3 with rfl | rfl | rfl
  · have w : IntKind.i64.wrap (0 + (a.length : Int)) = a.length := by rw [wrap_in (by omega) (by omega)]; omega
    refine ⟨fun _ => ⟨Int.le_refl _, fun h => ?_, fun h => hK _ _ 1 (by omega) (by omega) w (wrap_up (n := 0) rfl (by omega))⟩, fun h => by simp at h⟩
    rw [if_pos rfl] at h
    change IntKind.i64.wrap (0 + (a.length : Int)) < 0 at h
    omega
  · have w : IntKind.i64.wrap ((a.length : Int) + (b.length : Int)) = a.length + b.length := by rw [wrap_in (by omega) (by omega)]
    refine ⟨fun _ => ⟨by decide, fun h => ?_, fun h => hK _ _ 2 (by omega) (by omega) w (wrap_up (n := 1) rfl (by omega))⟩, fun h => by simp at h⟩
    change IntKind.i64.wrap ((a.length : Int) + (b.length : Int)) < 0 at h
    omega
  · refine ⟨fun h => by simp at h, fun _ => ?_⟩
    change spGrow ((a.length : Int) + (b.length : Int)) _
    refine ⟨by omega, by omega, fun d => ?_⟩
    refine LoopP3.run (fun n => if n = 0 then d else if n = 1 then a else a ++ b) (fun n => if n = 0 then 0 else if n = 1 then (a.length : Int) else a.length + b.length) (fun n : Nat => (n : Int)) (fun n => n ≤ 2) (fun n => 2 - n) 0 (Nat.zero_le _) rfl rfl rfl ?_
    intro n hn K hK
    have h3 : n = 0 ∨ n = 1 ∨ n = 2 := by omega
    rcases h3 with rfl | rfl | rfl
    · refine ⟨fun _ => ⟨Int.le_refl _, ?_, hK _ _ _ 1 (by omega) (by omega) ?_ ?_ (wrap_up (n := 0) rfl (by omega))⟩, fun h => by simp at h⟩
      · change (0 : Int) + (a.length : Int) ≤ _; omega
      · change List.drop (0 : Int).toNat (List.take (0 : Int).toNat d) ++ a = a; simp
      · change ((List.drop (0 : Int).toNat (List.take (0 : Int).toNat d) ++ a).length : Int) = a.length; simp
    · refine ⟨fun _ => ⟨by decide, ?_, hK _ _ _ 2 (by omega) (by omega) ?_ ?_ (wrap_up (n := 1) rfl (by omega))⟩, fun h => by simp at h⟩
      · change (a.length : Int) + (b.length : Int) ≤ _; omega
      · change List.drop (0 : Int).toNat (List.take (a.length : Int).toNat a) ++ b = a ++ b; simp
      · change ((List.drop (0 : Int).toNat (List.take (a.length : Int).toNat a) ++ b).length : Int) = a.length + b.length; simp
    · refine ⟨fun h => by simp at h, fun _ => ?_⟩
      change [C.sl i2 (List.drop (0 : Int).toNat (List.take (0 + ((a.length : Int) + (b.length : Int))).toNat (a ++ b)))] = _
      rw [show (0 + ((a.length : Int) + (b.length : Int))).toNat = (a ++ b).length by simp; omega, List.take_length]
      rfl
theorem c66 {a b : List (List C)} (ha : a.length ≤ 1000000) (hb : b.length ≤ 1000000) : PCg Try.prog 61 S61 [kS] [.c (.sl [.sl i2] [[.sl i2 a], [.sl i2 b]])] := pc61 grow83 rfl (v66 ha hb)
theorem rowsP_c0 (zs : List (Int × Int)) (i : Nat) : (cellAt (rowsP zs) i 0).gi = (zs.getD i (0, 0)).1 := by
  by_cases h : i < zs.length
  · simp [cellAt, rowsP, List.getD, h, C.gi]
  · simp [cellAt, rowsP, List.getD, Nat.le_of_not_lt h, C.gi]
theorem rowsP_c1 (zs : List (Int × Int)) (i : Nat) : (cellAt (rowsP zs) i 1).gi = (zs.getD i (0, 0)).2 := by
  by_cases h : i < zs.length
  · simp [cellAt, rowsP, List.getD, h, C.gi]
  · simp [cellAt, rowsP, List.getD, Nat.le_of_not_lt h, C.gi]
def prI (xs : List (List C)) : List Int := xs.map fun r => (r.getD 0 .nil).gi
theorem prI_rowsI (zs : List Int) : prI (rowsI zs) = zs := by
  simp only [prI, rowsI, List.map_map]
  exact (List.map_congr_left fun z _ => rfl).trans (List.map_id zs)
theorem rowsI_append (a b : List Int) : rowsI (a ++ b) = rowsI a ++ rowsI b := by simp [rowsI]
theorem rowsI_cut (zs : List Int) (a b : Nat) : List.drop a (List.take b (rowsI zs)) = rowsI ((zs.take b).drop a) := by simp [rowsI, List.map_take, List.map_drop]
def S69 (ds : List A) : List C := match ds with
  | [.c (.sl _ xs)] => [.int .i64 (spE xs)]
  | [.c .nil] => [.int .i64 0]
  | _ => []
def S81 (ds : List A) : List C := match ds with
  | [.c (.sl _ xs), .c (.int _ x)] => [.bool (hasB (prs xs) x)]
  | _ => []
def S94 (ds : List A) : List C := match ds with
  | [.c (.sl _ xs), .c (.int _ n)] => [.sl [.int .i64] (rowsI (ins (prI xs) n))]
  | _ => []
def S80 (ds : List A) : List C := match ds with
  | [.c (.sl _ xs), _] => [.sl [.int .i64] (rowsI (cutsP (prs xs)))]
  | _ => []
def S70 (ds : List A) : List C := match ds with
  | [.c (.sl _ xs), _, _] => [.sl i2 (rowsP (nf (prs xs)))]
  | _ => []
def S54 (ds : List A) : List C := match ds with
  | [.c (.sl _ xs), _, _] => [.sl i2 (rowsP (if spE xs = 0 then nf (prs xs) else [])), .int .i64 (spE xs)]
  | _ => []
def S43 (ds : List A) : List C := match ds with
  | [.c (.sl _ xs)] => [.sl i2 (rowsP (if spE xs = 0 then nf (prs xs) else [])), .int .i64 (spE xs)]
  | _ => []
def tbl69 : FuncId → List A → List C := fun f ds => match f with
  | _ => []
theorem pc69  {x1 : List (List C)} {row : List C} (hS : S69 [.c (.sl [.int .i64, .int .i64] x1)] = row) (h : vc69 (stdE Try.prog tbl69) x1 fun c => c = row) : PCg Try.prog 69 S69 [(false, [.int .i64])] [.c (.sl [.int .i64, .int .i64] x1)] := PureC_vc mo h69 (by kernel_rfl) hS (w69  h)
def tbl81 : FuncId → List A → List C := fun f ds => match f with
  | _ => []
theorem pc81  {x1 : List (List C)} {x2 : Int} {row : List C} (hS : S81 [.c (.sl [.int .i64, .int .i64] x1), .c (.int .i64 x2)] = row) (h : vc81 (stdE Try.prog tbl81) x1 x2 fun c => c = row) : PCg Try.prog 81 S81 [(false, [.bool])] [.c (.sl [.int .i64, .int .i64] x1), .c (.int .i64 x2)] := PureC_vc mo h81 (by kernel_rfl) hS (w81  h)
def tbl94 : FuncId → List A → List C := fun f ds => match f with
  | _ => []
theorem pc94  {x1 : List (List C)} {x2 : Int} {row : List C} (hS : S94 [.c (.sl [.int .i64] x1), .c (.int .i64 x2)] = row) (h : vc94 (stdE Try.prog tbl94) x1 x2 fun c => c = row) : PCg Try.prog 94 S94 [(false, [.sl [.int .i64]])] [.c (.sl [.int .i64] x1), .c (.int .i64 x2)] := PureC_vc mo h94 (by kernel_rfl) hS (w94  h)
def tbl80 : FuncId → List A → List C := fun f ds => match f with
  | 94 => S94 ds
  | _ => []
theorem pc80  {x1 : List (List C)} {x2 : List (List C)} {row : List C} (hS : S80 [.c (.sl [.int .i64, .int .i64] x1), .c (.sl [.int .i64, .int .i64] x2)] = row) (h : vc80 (stdE Try.prog tbl80) x1 x2 fun c => c = row) : PCg Try.prog 80 S80 [(false, [.sl [.int .i64]])] [.c (.sl [.int .i64, .int .i64] x1), .c (.sl [.int .i64, .int .i64] x2)] := PureC_vc mo h80 (by kernel_rfl) hS (w80  h)
def tbl70 : FuncId → List A → List C := fun f ds => match f with
  | 80 => S80 ds
  | 81 => S81 ds
  | _ => []
theorem pc70  {x1 : List (List C)} {x2 : List (List C)} {x3 : Int} {row : List C} (hS : S70 [.c (.sl [.int .i64, .int .i64] x1), .c (.sl [.int .i64, .int .i64] x2), .c (.int .i64 x3)] = row) (h : vc70 (stdE Try.prog tbl70) x1 x2 x3 fun c => c = row) : PCg Try.prog 70 S70 [(false, [.sl [.int .i64, .int .i64]])] [.c (.sl [.int .i64, .int .i64] x1), .c (.sl [.int .i64, .int .i64] x2), .c (.int .i64 x3)] := PureC_vc mo h70 (by kernel_rfl) hS (w70  h)
def tbl54 : FuncId → List A → List C := fun f ds => match f with
  | 69 => S69 ds
  | 70 => S70 ds
  | _ => []
theorem pc54  {x1 : List (List C)} {x2 : List (List C)} {x3 : Int} {row : List C} (hS : S54 [.c (.sl [.int .i64, .int .i64] x1), .c (.sl [.int .i64, .int .i64] x2), .c (.int .i64 x3)] = row) (h : vc54 (stdE Try.prog tbl54) x1 x2 x3 fun c => c = row) : PCg Try.prog 54 S54 [(false, [.sl [.int .i64, .int .i64]]), (false, [.int .i64])] [.c (.sl [.int .i64, .int .i64] x1), .c (.sl [.int .i64, .int .i64] x2), .c (.int .i64 x3)] := PureC_vc mo h54 (by kernel_rfl) hS (w54  h)
def tbl43 : FuncId → List A → List C := fun f ds => match f with
  | 54 => S54 ds
  | _ => []
theorem pc43  {x1 : List (List C)} {row : List C} (hS : S43 [.c (.sl [.int .i64, .int .i64] x1)] = row) (h : vc43 (stdE Try.prog tbl43) x1 fun c => c = row) : PCg Try.prog 43 S43 [(false, [.sl [.int .i64, .int .i64]]), (false, [.int .i64])] [.c (.sl [.int .i64, .int .i64] x1)] := PureC_vc mo h43 (by kernel_rfl) hS (w43  h)
theorem c67 {zs : List (Int × Int)} : PCg Try.prog 69 S69 [kI] [sC (rowsP zs)] := by
  refine pc69 (row := [.int .i64 (spE (rowsP zs))]) rfl ?_
  unfold vc69
  simp only [stdE, baseE, Br_iff, decide_eq_true_eq, decide_eq_false_iff_not, rowsP_len, rowsP_c0, rowsP_c1]
  refine ⟨fun h => ?_, fun h => ?_⟩
  · rw [spE, if_pos (by rw [rowsP_len]; omega)]
  · refine LoopP1.run (fun n : Nat => (n : Int)) (fun n => n ≤ zs.length ∧ firstS (rowsP zs) n = spE (rowsP zs)) (fun n => zs.length - n) 0 ⟨Nat.zero_le _, by rw [spE, if_neg (by rw [rowsP_len]; omega)]⟩ rfl ?_
    rintro n ⟨hn, hf⟩ K hK
    refine ⟨fun q => ?_, fun q => ?_⟩
    · have hlt : n < zs.length := Int.ofNat_lt.1 q
      rw [firstS_lt (by rw [rowsP_len]; exact hlt)] at hf
      have hb : badS (rowsP zs) n = if (if (zs.getD n (0, 0)).1 < 0 then true else decide ((zs.getD n (0, 0)).2 < (zs.getD n (0, 0)).1)) = true then true else decide (17179869184 < (zs.getD n (0, 0)).2) := by
        unfold badS ce; rw [rowsP_c0, rowsP_c1]
      rw [toNat_cast, ← hb]
      refine ⟨Int.natCast_nonneg n, fun w => ?_, fun w => hK _ (n + 1) ⟨hlt, ?_⟩ (by omega) (wrap_up rfl (by omega))⟩
      · rw [w, if_pos rfl] at hf; rw [← hf]
      · rw [w, if_neg (by simp)] at hf; exact hf
    · rw [firstS_ge (by rw [rowsP_len]; omega)] at hf
      rw [← hf]
theorem c67n : PCg Try.prog 69 S69 [kI] [.c .nil] := PureC.cg (PureC.nil0 (lay := i2) (c67 (zs := []))) (by show [C.int .i64 (spE [])] = _; rw [spE, if_neg (by decide), firstS_ge (by decide)]; rfl)
theorem q85 (zs : List (Int × Int)) (x : Int) : S81 [sC (rowsP zs), iC x] = [.bool (hasB zs x)] := by
  show [C.bool (hasB (prs (rowsP zs)) x)] = _; rw [prs_rowsP]
theorem c85 {zs : List (Int × Int)} (hl : zs.length ≤ 1000000) (x : Int) : PCg Try.prog 81 S81 [kB] [sC (rowsP zs), iC x] := by
  refine pc81 (q85 zs x) ?_
  unfold vc81
  simp only [stdE, baseE, Br_iff, decide_eq_true_eq, decide_eq_false_iff_not, rowsP_len, rowsP_c0, rowsP_c1]
  refine LoopP1.run (fun n : Nat => (n : Int)) (fun n => n ≤ zs.length ∧ hasB (zs.take n) x = false) (fun n => zs.length - n) 0 ⟨Nat.zero_le _, rfl⟩ rfl ?_
  rintro n ⟨hn, hf⟩ K hK
  refine ⟨fun q => ?_, fun q => ?_⟩
  · have hlt : n < zs.length := Int.ofNat_lt.1 q
    have hs := any_take (fun z : Int × Int => decide (z.1 ≤ x ∧ x < z.2)) zs (0, 0) hlt
    change hasB (zs.take (n + 1)) x = (hasB (zs.take n) x || _) at hs
    rw [hf, Bool.false_or] at hs
    rw [toNat_cast]
    refine ⟨Int.natCast_nonneg n, fun w => ?_, fun w => hK _ (n + 1) ⟨hlt, ?_⟩ (by omega) (wrap_up rfl (by omega))⟩
    · have : hasB (zs.take (n + 1)) x = true := by rw [hs]; simpa using w
      have : hasB zs x = true := by
        rw [hasB, ← List.take_append_drop (n + 1) zs, List.any_append]
        change (hasB (zs.take (n + 1)) x || _) = true
        rw [this]; rfl
      rw [this]
    · rw [hs]; simpa using w
  · have : n = zs.length := by omega
    subst this
    rw [List.take_length] at hf
    rw [hf]
theorem tw_take {p : Int → Bool} : ∀ (l : List Int) (k : Nat), (∀ j, j < k → j < l.length ∧ p (l.getD j 0) = true) → (k < l.length → p (l.getD k 0) = false) → l.takeWhile p = l.take k ∧ l.dropWhile p = l.drop k
  | [], k, h1, _ => by simp
  | a :: l, 0, _, h2 => by
    have := h2 (by simp)
    simp at this
    simp [this]
  | a :: l, k + 1, h1, h2 => by
    have h0 := (h1 0 (by omega)).2
    simp at h0
    obtain ⟨e1, e2⟩ := tw_take l k (fun j hj => by have := h1 (j + 1) (by omega); simpa using this) (fun hk => by have := h2 (by simpa using hk); simpa using this)
    simp [h0, e1, e2]
theorem q93 (l : List Int) (n : Int) : S94 [.c (.sl [.int .i64] (rowsI l)), iC n] = [.sl [.int .i64] (rowsI (ins l n))] := by
  show [C.sl [.int .i64] (rowsI (ins (prI (rowsI l)) n))] = _; rw [prI_rowsI]
theorem c93 {l : List Int} (hl : l.length ≤ 1000000) (hs : l.Pairwise (· < ·)) (n : Int) : PCg Try.prog 94 S94 [(false, [.sl [.int .i64]])] [.c (.sl [.int .i64] (rowsI l)), iC n] := by
  refine pc94 (q93 l n) ?_
  unfold vc94
  simp only [stdE, baseE, Br_iff, Imp_iff, decide_eq_true_eq, decide_eq_false_iff_not, rowsI_len, rowsI_getD]
  refine LoopP1.run (fun k : Nat => (k : Int)) (fun k => k ≤ l.length ∧ ∀ j, j < k → j < l.length ∧ decide (l.getD j 0 < n) = true) (fun k => l.length - k) 0 ⟨Nat.zero_le _, fun j hj => absurd hj (Nat.not_lt_zero j)⟩ rfl ?_
  rintro k ⟨hk, hf⟩ K hK
  rw [toNat_cast]
  refine ⟨fun _ => Int.natCast_nonneg k, fun w => ?_, fun w => ?_⟩
  · have w2 : k < l.length ∧ l.getD k 0 < n := by
      by_cases q : (k : Int) < l.length
      · rw [if_pos q] at w; exact ⟨Int.ofNat_lt.1 q, by simpa using w⟩
      · rw [if_neg q] at w; cases w
    refine hK _ (k + 1) ⟨w2.1, fun j hj => ?_⟩ (by omega) (wrap_up rfl (by omega))
    by_cases e : j = k
    · subst e; exact ⟨w2.1, by simpa using w2.2⟩
    · exact hf j (by omega)
  · have hge : k < l.length → ¬ l.getD k 0 < n := fun q r => by
      rw [if_pos (Int.ofNat_lt.2 q), decide_eq_false_iff_not] at w; exact w r
    obtain ⟨t1, t2⟩ := tw_take (p := fun x => decide (x < n)) l k hf (fun q => by simpa using hge q)
    have hp := List.pairwise_iff_getElem.1 hs
    have hmem : n ∈ l ↔ k < l.length ∧ l.getD k 0 = n := by
      constructor
      · intro h
        obtain ⟨j, hj, rfl⟩ := List.mem_iff_getElem.1 h
        have gj : l.getD j 0 = l[j] := by simp [List.getD, hj]
        have hkj : k ≤ j := Nat.le_of_not_lt fun q => by
          have := (hf j q).2
          rw [gj] at this; simp at this
        refine ⟨by omega, ?_⟩
        by_cases e : k = j
        · subst e; exact gj
        · exfalso
          have := hp k j (by omega) hj (by omega)
          have gk : l.getD k 0 = l[k]'(by omega) := by simp [List.getD, show k < l.length by omega]
          exact hge (by omega) (by rw [gk]; exact this)
      · rintro ⟨h1, h2⟩
        rw [← h2]
        have gk : l.getD k 0 = l[k] := by simp [List.getD, h1]
        rw [gk]; exact List.getElem_mem h1
    refine ⟨fun w2 => ?_, fun w2 => ?_⟩
    · have : n ∈ l := hmem.2 (by
        by_cases q : (k : Int) < l.length
        · rw [if_pos q] at w2; exact ⟨Int.ofNat_lt.1 q, by simpa using w2⟩
        · rw [if_neg q] at w2; cases w2)
      rw [ins, if_pos this]
    · have : ¬ n ∈ l := fun h => by
        obtain ⟨h1, h2⟩ := hmem.1 h
        rw [if_pos (Int.ofNat_lt.2 h1)] at w2
        simp at w2
        exact w2 h2
      rw [ins, if_neg this, t1, t2]
      have e0 : List.drop (0 : Int).toNat (List.take k (rowsI l)) = rowsI (l.take k) := by rw [show (0 : Int).toNat = 0 from rfl, rowsI_cut]; rfl
      have e1 : List.drop k (List.take (l.length : Int).toNat (rowsI l)) = rowsI (l.drop k) := by rw [toNat_cast, rowsI_cut, List.take_length]
      simp only [toNat_cast] at e1 ⊢
      simp only [e0, List.nil_append, rowsI_len, List.length_append, List.length_take, List.length_cons, List.length_nil]
      refine ⟨by decide, Int.natCast_nonneg k, by omega, by omega, by omega, Int.le_refl _, ?_, ?_⟩
      · rw [e1, rowsI_len, List.length_drop]; omega
      · rw [e1]
        simp [rowsI]
theorem q84 (zs : List (Int × Int)) (a : A) : S80 [sC (rowsP zs), a] = [.sl [.int .i64] (rowsI (cutsP zs))] := by
  show [C.sl [.int .i64] (rowsI (cutsP (prs (rowsP zs))))] = _; rw [prs_rowsP]
theorem c84 {zs : List (Int × Int)} (hl : zs.length ≤ 100000) : PCg Try.prog 80 S80 [(false, [.sl [.int .i64]])] [sC (rowsP zs), sC []] := by
  refine pc80 (q84 zs _) ?_
  unfold vc80
  simp only [stdE, baseE, Br_iff, tbl80, forall_eq, decide_eq_true_eq, decide_eq_false_iff_not, rowsP_len, rowsP_c0, rowsP_c1]
  refine LoopP2.run (fun n => rowsI (endsTo zs n)) (fun n : Nat => (n : Int)) (fun n => n ≤ zs.length) (fun n => zs.length - n) 0 (Nat.zero_le _) rfl rfl ?_
  intro n hn K hK
  obtain ⟨o1, _, o3⟩ := endsTo_ok zs n hn
  refine ⟨fun q => ?_, fun q => ?_⟩
  · have hlt : n < zs.length := Int.ofNat_lt.1 q
    rw [toNat_cast]
    obtain ⟨k1, _, k3⟩ := ins_ok o1 (zs.getD n (0, 0)).1
    refine ⟨Int.natCast_nonneg n, c93 (by omega) o1 _, ?_⟩
    simp only [q93, List.getD_cons_zero, gl_sl]
    refine ⟨PureC.cg (c93 (by omega) k1 _) (q93 _ _), hK _ _ (n + 1) hlt (by omega) ?_ (wrap_up rfl (by omega))⟩
    rw [endsTo_succ hlt]
  · have : n = zs.length := by omega
    subst this
    refine LoopP2.run (fun _ : Unit => rowsI (endsTo zs zs.length)) (fun _ => 0) (fun _ => True) (fun _ => 0) () trivial rfl rfl ?_
    intro _ _ K2 _
    refine ⟨fun w => absurd w (by decide), fun _ => rfl⟩
theorem q68 (zs : List (Int × Int)) (a b : A) : S70 [sC (rowsP zs), a, b] = [.sl i2 (rowsP (nf zs))] := by
  show [C.sl i2 (rowsP (nf (prs (rowsP zs))))] = _; rw [prs_rowsP]
theorem upd_end {out : List (Int × Int)} {t : Int × Int} (ht : out.getLast? = some t) (b : Int) : updC (rowsP out) (out.length - 1) 1 (.int .i64 b) = rowsP (out.dropLast ++ [(t.1, b)]) := by
  obtain ⟨l, rfl⟩ := List.getLast?_eq_some_iff.1 ht
  simp [updC, rowsP, setC, List.getD]
theorem last_getD {out : List (Int × Int)} {t : Int × Int} (ht : out.getLast? = some t) : out.getD (out.length - 1) (0, 0) = t ∧ 0 < out.length := by
  obtain ⟨l, rfl⟩ := List.getLast?_eq_some_iff.1 ht
  simp [List.getD]
theorem hasB_nil (x : Int) : hasB [] x = false := rfl
theorem c68 {zs : List (Int × Int)} (hl : zs.length ≤ 100000) : PCg Try.prog 70 S70 [kS] [sC (rowsP zs), sC [], iC 0] := by
  refine pc70 (q68 zs _ _) ?_
  obtain ⟨_, _, hcl⟩ := endsTo_ok zs zs.length (Nat.le_refl _)
  change (cutsP zs).length ≤ _ at hcl
  have p85 := fun x => c85 (zs := zs) (by omega) x
  have p85n := fun x => c85 (zs := []) (by decide) x
  have q85n := fun x => q85 [] x
  have er : rowsP [] = [] := rfl
  rw [er] at p85n q85n
  unfold vc70
  simp only [stdE, baseE, Br_iff, Imp_iff, tbl70, forall_eq, c84 hl, true_and]
  simp only [q84, List.getD_cons_zero, gl_sl, rowsI_len, rowsI_getD, p85, p85n, true_and]
  simp only [q85, q85n, List.getD_cons_zero, gb_bool, hasB_nil, decide_eq_true_eq, decide_eq_false_iff_not]
  refine LoopP2.run (fun n => rowsP (combTo zs (cutsP zs) n)) (fun n : Nat => (n : Int)) (fun n => n ≤ (cutsP zs).length - 1) (fun n => (cutsP zs).length - n) 0 (Nat.zero_le _) rfl rfl ?_
  intro n hn K hK
  have hol := combTo_len zs (cutsP zs) n
  have w1 : IntKind.i64.wrap ((n : Int) + 1) = ((n + 1 : Nat) : Int) := wrap_up rfl (by omega)
  rw [w1]
  refine ⟨fun q => ?_, fun q => ?_⟩
  · have hlt : n + 1 < (cutsP zs).length := Int.ofNat_lt.1 q
    simp only [toNat_cast, rowsP_len, rowsP_c1]
    have es : combTo zs (cutsP zs) (n + 1) = cstep zs (combTo zs (cutsP zs) n) ((cutsP zs).getD n 0) ((cutsP zs).getD (n + 1) 0) := rfl
    have hz : ((0 : Int) == 0) = true := rfl
    have h1 : ((0 : Int) == 1) = false := rfl
    have h2 : ((0 : Int) == 2) = false := rfl
    simp only [hz, h1, h2, if_true, if_false, Bool.false_eq_true, Bool.not_false, Bool.and_false, Bool.false_and, false_implies, implies_true, true_and]
    refine ⟨Int.natCast_nonneg n, by omega, fun w => ?_, fun w => ?_⟩
    · have hb : hasB zs ((cutsP zs).getD n 0) = false := by
        cases e : hasB zs ((cutsP zs).getD n 0) with
        | false => rfl
        | true => rw [e] at w; simp at w
      refine hK _ _ (n + 1) (by omega) (by omega) ?_ rfl
      rw [es, cstep, hb, if_neg (by simp)]
    · have hb : hasB zs ((cutsP zs).getD n 0) = true := by
        cases e : hasB zs ((cutsP zs).getD n 0) with
        | true => rfl
        | false => rw [e] at w; simp at w
      obtain ⟨out, ho⟩ : ∃ out, combTo zs (cutsP zs) n = out := ⟨_, rfl⟩
      rw [ho] at es hol ⊢
      have w3 : IntKind.i64.wrap ((out.length : Int) - 1) = (out.length : Int) - 1 := wrap_in (by omega) (by omega)
      rw [w3]
      rw [cstep, hb, if_pos rfl] at es
      refine ⟨fun _ => by omega, fun w4 => ?_, fun w4 => ?_⟩
      · have w5 : 0 < out.length ∧ (out.getD (out.length - 1) (0, 0)).2 = (cutsP zs).getD n 0 := by
          by_cases z : (0 : Int) ≤ (out.length : Int) - 1
          · rw [if_pos z, show ((out.length : Int) - 1).toNat = out.length - 1 by omega] at w4
            exact ⟨by omega, by simpa using w4⟩
          · rw [if_neg z] at w4; cases w4
        obtain ⟨t, ht⟩ : ∃ t, out.getLast? = some t := by
          cases e : out.getLast? with
          | none => rw [List.getLast?_eq_none_iff.1 e] at w5; simp at w5
          | some t => exact ⟨t, rfl⟩
        obtain ⟨g1, g2⟩ := last_getD ht
        rw [g1] at w5
        rw [ht] at es
        simp only [w5.2, if_true] at es
        refine ⟨Int.natCast_nonneg _, by omega, by omega, hK _ _ (n + 1) (by omega) (by omega) ?_ rfl⟩
        rw [show ((out.length : Int) - 1).toNat = out.length - 1 by omega, upd_end ht, es]
      · have es2 : combTo zs (cutsP zs) (n + 1) = out ++ [((cutsP zs).getD n 0, (cutsP zs).getD (n + 1) 0)] := by
          rw [es]
          cases e : out.getLast? with
          | none => rfl
          | some t =>
            obtain ⟨g1, g2⟩ := last_getD e
            rw [if_pos (by omega), show ((out.length : Int) - 1).toNat = out.length - 1 by omega, g1] at w4
            have : ¬ t.2 = (cutsP zs).getD n 0 := by simpa using w4
            simp only [this, if_false]
        refine ⟨Int.natCast_nonneg _, by simp only [List.length_cons, List.length_nil]; omega, hK _ _ (n + 1) (by omega) (by omega) ?_ rfl⟩
        rw [es2, rowsP_append]; rfl
  · have : n = (cutsP zs).length - 1 := by omega
    rw [this, comb_nf]
theorem nf_len64 {zs : List (Int × Int)} (h : spE (rowsP zs) = 0) : (nf zs).length ≤ 256 := Nat.le_trans (nf_len zs) (spE_ok h).1
theorem q59 (zs : List (Int × Int)) (a b : A) : S54 [sC (rowsP zs), a, b] = [.sl i2 (rowsP (if spE (rowsP zs) = 0 then nf zs else [])), .int .i64 (spE (rowsP zs))] := by
  show [C.sl i2 (rowsP (if spE (rowsP zs) = 0 then nf (prs (rowsP zs)) else [])), .int .i64 (spE (rowsP zs))] = _; rw [prs_rowsP]
theorem q44 (zs : List (Int × Int)) : S43 [sC (rowsP zs)] = [.sl i2 (rowsP (if spE (rowsP zs) = 0 then nf zs else [])), .int .i64 (spE (rowsP zs))] := q59 zs .u .u
theorem c59 {zs : List (Int × Int)} : PCg Try.prog 54 S54 [kS, kI] [sC (rowsP zs), .c .nil, iC 0] := by
  refine PureC.nil1 (lay := i2) (pc54 (q59 zs _ _) ?_)
  have k67 := c67 (zs := [])
  have er : rowsP [] = [] := rfl
  rw [er] at k67
  have q67 : ∀ xs, S69 [sC xs] = [.int .i64 (spE xs)] := fun xs => rfl
  have e0 : spE [] = 0 := by rw [spE, if_neg (by decide), firstS_ge (by decide)]
  unfold vc54
  simp only [stdE, baseE, Br_iff, tbl54, forall_eq, c67, k67, true_and]
  simp only [q67, e0, List.getD_cons_zero, gi_int, decide_eq_true_eq, decide_eq_false_iff_not]
  refine ⟨fun w => ?_, fun w => ⟨fun w2 => by simp at w2, fun _ => ?_⟩⟩
  · have w' : ¬ spE (rowsP zs) = 0 := by simpa using w
    rw [if_neg w']; rfl
  · have w' : spE (rowsP zs) = 0 := by simpa using w
    have hz := spE_ok w'
    refine ⟨c68 (by omega), ?_⟩
    rw [q68]
    simp only [List.getD_cons_zero, gl_sl, rowsP_len]
    refine ⟨fun w3 => by have := nf_len64 w'; omega, fun _ => ?_⟩
    rw [if_pos w', w']
theorem c44 {zs : List (Int × Int)} : PCg Try.prog 43 S43 [kS, kI] [sC (rowsP zs)] := by
  refine pc43 (q44 zs) ?_
  unfold vc43
  simp only [stdE, baseE, tbl43, forall_eq, c59, true_and]
  simp only [q59, List.getD_cons_zero, List.getD_cons_succ, gi_int, gl_sl]
end Go.Proofs.Ytkdapoipnkpbeaa.R

