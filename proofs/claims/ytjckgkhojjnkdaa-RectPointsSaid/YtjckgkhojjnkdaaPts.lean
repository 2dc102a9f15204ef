/- RectPoints: what Common, Clip, Along and Across say of a point. No conditions. -/
import Derived.Test.YtjckgkhojjnkdaaSides
import Derived.Test.YtjckgkhojjnkdaaGC
set_option linter.unusedVariables false
set_option linter.unusedSimpArgs false
namespace Go.Proofs.Ytjckgkhojjnkdaa.V
open Go Go.Eng Go.Span
set_option maxRecDepth 1000000
set_option maxHeartbeats 1000000
theorem ixF_pos {n : Nat} {p : Nat → Bool} : ∀ d j, n - j = d → (0 ≤ ixF n p j ↔ ∃ k, j ≤ k ∧ k < n ∧ p k = true) := by
  intro d
  induction d with
  | zero => intro j h; rw [ixF_ge (by omega)]; exact ⟨fun q => by omega, fun ⟨k, a, b, _⟩ => by omega⟩
  | succ d ih =>
    intro j h
    rw [ixF_lt (by omega)]
    cases hp : p j with
    | true => exact ⟨fun _ => ⟨j, Nat.le_refl _, by omega, hp⟩, fun _ => by simp⟩
    | false =>
      rw [if_neg (by simp), ih (j + 1) (by omega)]
      constructor
      · rintro ⟨k, a, b, c⟩; exact ⟨k, by omega, b, c⟩
      · rintro ⟨k, a, b, c⟩
        have : k ≠ j := fun e => by subst e; rw [hp] at c; cases c
        exact ⟨k, by omega, b, c⟩
def hasAt (xs : List (List C)) (x : Int) (j : Nat) : Bool := decide (ce xs j 0 ≤ x ∧ x < ce xs j 1)
def S48 (ds : List A) : List C := match ds with
  | [.agg [.c (.int _ a), .c (.int _ b)], .el _ [[.int _ x]] _ _] => [.bool (decide (a ≤ x ∧ x < b))]
  | _ => []
def S60 (ds : List A) : List C := match ds with
  | [.c (.sl _ xs), .fn _ [.el _ [[.int _ x]] _ _]] => [.int .i64 (ixF xs.length (hasAt xs x) 0)]
  | _ => []
def S47 (ds : List A) : List C := match ds with
  | [.c (.sl _ xs), .fn _ [.el _ [[.int _ x]] _ _]] => [.bool (hasB (prs xs) x)]
  | _ => []
def S35 (ds : List A) : List C := match ds with
  | [.c (.sl _ xs), .c (.int _ x)] => [.bool (hasB (prs xs) x)]
  | _ => []
def S34 (ds : List A) : List C := match ds with
  | [.agg [.c (.int _ l), .c (.int _ r), .c (.int _ a), .c (.int _ b)], .agg [.c (.int _ x), .c (.int _ y)]] => [.bool (inB1 x y (l, r, a, b))]
  | _ => []
def S10 : List A → List C := fun _ => [.bool true]
def tbl48 : FuncId → List A → List C := fun f ds => match f with
  | _ => []
theorem pc48  {x1 : Int} {x2 : Int} {x3 : Int} {row : List C} (hS : S48 [.agg [.c (.int .i64 x1), .c (.int .i64 x2)], .el [.int .i64] [[.int .i64 x3]] 0 0] = row) (h : vc48 (stdE Try.prog tbl48) x1 x2 x3 fun c => c = row) : PCg Try.prog 48 S48 [(false, [.bool])] [.agg [.c (.int .i64 x1), .c (.int .i64 x2)], .el [.int .i64] [[.int .i64 x3]] 0 0] := PureC_vc mo h48 (by kernel_rfl) hS (w48  h)
def tbl60 : FuncId → List A → List C := fun f ds => match f with
  | 48 => S48 ds
  | _ => []
theorem pc60  {x1 : List (List C)} {x2 : Int} {row : List C} (hS : S60 [.c (.sl [.int .i64, .int .i64] x1), .fn 48 [.el [.int .i64] [[.int .i64 x2]] 0 0]] = row) (h : vc60 (stdE Try.prog tbl60) x1 x2 fun c => c = row) : PCg Try.prog 60 S60 [(false, [.int .i64])] [.c (.sl [.int .i64, .int .i64] x1), .fn 48 [.el [.int .i64] [[.int .i64 x2]] 0 0]] := PureC_vc mo h60 (by kernel_rfl) hS (w60  h)
def tbl47 : FuncId → List A → List C := fun f ds => match f with
  | 60 => S60 ds
  | _ => []
theorem pc47  {x1 : List (List C)} {x2 : Int} {row : List C} (hS : S47 [.c (.sl [.int .i64, .int .i64] x1), .fn 48 [.el [.int .i64] [[.int .i64 x2]] 0 0]] = row) (h : vc47 (stdE Try.prog tbl47) x1 x2 fun c => c = row) : PCg Try.prog 47 S47 [(false, [.bool])] [.c (.sl [.int .i64, .int .i64] x1), .fn 48 [.el [.int .i64] [[.int .i64 x2]] 0 0]] := PureC_vc mo h47 (by kernel_rfl) hS (w47  h)
def tbl35 : FuncId → List A → List C := fun f ds => match f with
  | 47 => S47 ds
  | _ => []
theorem pc35  {x1 : List (List C)} {x2 : Int} {row : List C} (hS : S35 [.c (.sl [.int .i64, .int .i64] x1), .c (.int .i64 x2)] = row) (h : vc35 (stdE Try.prog tbl35) x1 x2 fun c => c = row) : PCg Try.prog 35 S35 [(false, [.bool])] [.c (.sl [.int .i64, .int .i64] x1), .c (.int .i64 x2)] := PureC_vc mo h35 (by kernel_rfl) hS (w35  h)
def tbl34 : FuncId → List A → List C := fun f ds => match f with
  | _ => []
theorem pc34  {x1 : Int} {x2 : Int} {x3 : Int} {x4 : Int} {x5 : Int} {x6 : Int} {row : List C} (hS : S34 [.agg [.c (.int .i64 x1), .c (.int .i64 x2), .c (.int .i64 x3), .c (.int .i64 x4)], .agg [.c (.int .i64 x5), .c (.int .i64 x6)]] = row) (h : vc34 (stdE Try.prog tbl34) x1 x2 x3 x4 x5 x6 fun c => c = row) : PCg Try.prog 34 S34 [(false, [.bool])] [.agg [.c (.int .i64 x1), .c (.int .i64 x2), .c (.int .i64 x3), .c (.int .i64 x4)], .agg [.c (.int .i64 x5), .c (.int .i64 x6)]] := PureC_vc mo h34 (by kernel_rfl) hS (w34  h)
def tbl10 : FuncId → List A → List C := fun f ds => match f with
  | 11 => S11 ds
  | 16 => S16 ds
  | 19 => S19 ds
  | 21 => S21 ds
  | 28 => S28 ds
  | 34 => S34 ds
  | 35 => S35 ds
  | _ => []
theorem pc10  {x1 : List (List C)} {x2 : Int} {x3 : Int} {x4 : Int} {x5 : Int} {x6 : Int} {x7 : Int} {row : List C} (hS : S10 [.c (.sl [.int .i64, .int .i64, .int .i64, .int .i64] x1), .agg [.c (.int .i64 x2), .c (.int .i64 x3), .c (.int .i64 x4), .c (.int .i64 x5)], .agg [.c (.int .i64 x6), .c (.int .i64 x7)]] = row) (h : vc10 (stdE Try.prog tbl10) x1 x2 x3 x4 x5 x6 x7 fun c => c = row) : PCg Try.prog 10 S10 [(false, [.bool])] [.c (.sl [.int .i64, .int .i64, .int .i64, .int .i64] x1), .agg [.c (.int .i64 x2), .c (.int .i64 x3), .c (.int .i64 x4), .c (.int .i64 x5)], .agg [.c (.int .i64 x6), .c (.int .i64 x7)]] := PureC_vc mo h10 (by kernel_rfl) hS (w10  h)
theorem c48 (a b x : Int) : PCg Try.prog 48 S48 [kB] [.agg [iC a, iC b], .el [.int .i64] [[.int .i64 x]] 0 0] := by
  refine pc48 (row := [.bool (decide (a ≤ x ∧ x < b))]) rfl ?_
  unfold vc48
  simp only [stdE, baseE]
  have e : (cellAt [[C.int .i64 x]] (0 : Int).toNat 0).gi = x := rfl
  rw [e]
  by_cases h : a ≤ x <;> simp [h]
theorem c60 {zs : List (Int × Int)} (hl : zs.length ≤ 1000000) (x : Int) : PCg Try.prog 60 S60 [kI] [sC (rowsP zs), .fn 48 [.el [.int .i64] [[.int .i64 x]] 0 0]] := by
  refine pc60 (row := [.int .i64 (ixF (rowsP zs).length (hasAt (rowsP zs) x) 0)]) rfl ?_
  have e48 : ∀ a b, S48 [.agg [iC a, iC b], .el [.int .i64] [[.int .i64 x]] 0 0] = [.bool (decide (a ≤ x ∧ x < b))] := fun a b => rfl
  unfold vc60
  simp only [stdE, baseE, Br_iff, tbl60, forall_eq, c48, true_and, decide_eq_true_eq, decide_eq_false_iff_not, rowsP_len, rowsP_c0, rowsP_c1]
  simp only [e48, List.getD_cons_zero, gb_bool]
  refine LoopP1.run (fun n : Nat => (n : Int)) (fun n => n ≤ zs.length ∧ ixF (rowsP zs).length (hasAt (rowsP zs) x) n = ixF (rowsP zs).length (hasAt (rowsP zs) x) 0) (fun n => zs.length - n) 0 ⟨Nat.zero_le _, rfl⟩ rfl ?_
  rintro n ⟨hn, hf⟩ K hK
  rw [toNat_cast]
  have hh : hasAt (rowsP zs) x n = decide ((zs.getD n (0, 0)).1 ≤ x ∧ x < (zs.getD n (0, 0)).2) := by unfold hasAt ce; rw [rowsP_c0, rowsP_c1]
  refine ⟨fun q => ?_, fun q => ?_⟩
  · have hlt : n < zs.length := Int.ofNat_lt.1 q
    rw [ixF_lt (by rw [rowsP_len]; exact hlt), hh] at hf
    refine ⟨Int.natCast_nonneg n, fun w => ?_, fun w => hK _ (n + 1) ⟨hlt, ?_⟩ (by omega) (wrap_up rfl (by omega))⟩
    · rw [w, if_pos rfl, rowsP_len] at hf
      rw [hf]
    · rw [w, if_neg (by simp)] at hf
      exact hf
  · rw [ixF_ge (by rw [rowsP_len]; omega), rowsP_len] at hf
    rw [hf]
theorem q47 (zs : List (Int × Int)) (x : Int) : S47 [sC (rowsP zs), .fn 48 [.el [.int .i64] [[.int .i64 x]] 0 0]] = [.bool (hasB zs x)] := by
  show [C.bool (hasB (prs (rowsP zs)) x)] = _; rw [prs_rowsP]
theorem q35 (zs : List (Int × Int)) (x : Int) : S35 [sC (rowsP zs), iC x] = [.bool (hasB zs x)] := by
  show [C.bool (hasB (prs (rowsP zs)) x)] = _; rw [prs_rowsP]
theorem c47 {zs : List (Int × Int)} (hl : zs.length ≤ 1000000) (x : Int) : PCg Try.prog 47 S47 [kB] [sC (rowsP zs), .fn 48 [.el [.int .i64] [[.int .i64 x]] 0 0]] := by
  refine pc47 (q47 zs x) ?_
  have e60 : S60 [sC (rowsP zs), .fn 48 [.el [.int .i64] [[.int .i64 x]] 0 0]] = [.int .i64 (ixF (rowsP zs).length (hasAt (rowsP zs) x) 0)] := rfl
  unfold vc47
  simp only [stdE, baseE, tbl47, forall_eq, c60 hl x, true_and]
  simp only [e60, List.getD_cons_zero, gi_int]
  congr 2
  rw [Bool.eq_iff_iff, decide_eq_true_eq, ixF_pos _ 0 rfl, hasB_iff, rowsP_len]
  constructor
  · rintro ⟨k, _, h1, h2⟩
    have g : zs.getD k (0, 0) = zs[k] := by simp [List.getD, h1]
    unfold hasAt ce at h2
    rw [rowsP_c0, rowsP_c1, g, decide_eq_true_eq] at h2
    exact ⟨zs[k], List.getElem_mem h1, h2⟩
  · rintro ⟨z, hz, h2⟩
    obtain ⟨k, h1, rfl⟩ := List.mem_iff_getElem.1 hz
    have g : zs.getD k (0, 0) = zs[k] := by simp [List.getD, h1]
    refine ⟨k, Nat.zero_le _, h1, ?_⟩
    unfold hasAt ce
    rw [rowsP_c0, rowsP_c1, g, decide_eq_true_eq]
    exact h2
theorem c35 {zs : List (Int × Int)} (hl : zs.length ≤ 1000000) (x : Int) : PCg Try.prog 35 S35 [kB] [sC (rowsP zs), iC x] := by
  refine pc35 (q35 zs x) ?_
  unfold vc35
  simp only [stdE, baseE, tbl35, forall_eq, c47 hl x, true_and]
  simp only [q47, List.getD_cons_zero, gb_bool]
theorem c34 (l r a b x y : Int) : PCg Try.prog 34 S34 [kB] [rc l r a b, .agg [iC x, iC y]] := by
  refine pc34 (row := [.bool (inB1 x y (l, r, a, b))]) rfl ?_
  unfold vc34 inB1
  simp only [stdE, baseE]
  by_cases h1 : l ≤ x <;> by_cases h2 : x < r <;> by_cases h3 : a ≤ y <;> simp [h1, h2, h3]
theorem q34 (l r a b x y : Int) : S34 [rc l r a b, .agg [iC x, iC y]] = [.bool (inB1 x y (l, r, a, b))] := rfl
theorem in1_iff (x y : Int) (r : R4) : inB1 x y r = true ↔ inR [r] x y := by rw [inR_one]; unfold inB1; simp
/-- How many of the first n hold the point. -/
def cnt (rs : List R4) (x y : Int) : Nat := rs.countP (inB1 x y)
theorem in_com (x y : Int) (a b : R4) : inB1 x y (comR a b) = (inB1 x y a && inB1 x y b) := by
  rw [Bool.eq_iff_iff, Bool.and_eq_true, in1_iff, in1_iff, in1_iff]; exact in_comR a b x y
theorem com_in (x y : Int) (a b : R4) (h : comB a b = false) : (inB1 x y a && inB1 x y b) = false := by
  rw [← in_com]
  cases e : inB1 x y (comR a b) with
  | false => rfl
  | true =>
    have : comB a b = true := by
      rw [comB_iff]
      unfold inB1 at e
      simp only [decide_eq_true_eq] at e
      omega
    rw [h] at this; cases this
theorem cnt_clip (rs : List R4) (q : R4) (x y : Int) : cnt (clipR rs q) x y = if inB1 x y q then cnt rs x y else 0 := by
  unfold cnt clipR
  induction rs with
  | nil => simp
  | cons r rs ih =>
    rw [List.filter_cons]
    cases hc : comB r q with
    | false =>
      rw [if_neg (by simp), ih, List.countP_cons]
      have := com_in x y r q hc
      cases h1 : inB1 x y q
      · simp
      · rw [h1, Bool.and_true] at this
        simp [this]
    | true =>
      rw [if_pos rfl, List.map_cons, List.countP_cons, ih, List.countP_cons, in_com]
      cases h1 : inB1 x y q <;> simp
theorem cnt_take {rs : List R4} {n : Nat} (h : n < rs.length) (x y : Int) : cnt (rs.take (n + 1)) x y = cnt (rs.take n) x y + if inB1 x y (rs.getD n (0, 0, 0, 0)) then 1 else 0 := by
  have hg : rs.getD n (0, 0, 0, 0) = rs[n] := by simp [List.getD, h]
  unfold cnt
  rw [List.take_add_one, List.getElem?_eq_getElem h, hg, Option.toList_some, List.countP_append]
  simp [List.countP_cons]
theorem cnt_le (rs : List R4) (x y : Int) : cnt rs x y ≤ rs.length := List.countP_le_length
theorem cnt_pos {rs : List R4} {x y : Int} (h : cnt rs x y ≠ 0) : mem (alongR rs) y ∧ mem (acrR rs) x := by
  have : 0 < cnt rs x y := by omega
  obtain ⟨r, hr, hi⟩ := List.countP_pos_iff.1 this
  unfold inB1 at hi
  simp only [decide_eq_true_eq] at hi
  have he : (!emp r.1 r.2.1 r.2.2.1 r.2.2.2) = true := by unfold emp; simp; omega
  exact ⟨⟨_, List.mem_map.2 ⟨r, List.mem_filter.2 ⟨hr, he⟩, rfl⟩, by simp only; omega⟩, ⟨_, List.mem_map.2 ⟨r, List.mem_filter.2 ⟨hr, he⟩, rfl⟩, by simp only; omega⟩⟩
theorem p10 {rs : List R4} {l r a b x y : Int} : PureC Try.prog 10 [kB] [lC (rowsR rs), rc l r a b, .agg [iC x, iC y]] fun _ => .bool true := by
  refine PureC.one (get := fun i => (S10 [lC (rowsR rs), rc l r a b, .agg [iC x, iC y]]).getD i .nil) (pc10 (row := [.bool true]) rfl ?_) rfl
  unfold vc10
  simp only [stdE, baseE, Br_iff, Imp_iff, tbl10, p11, p28, c34, true_and, implies_true, forall_eq, decide_eq_true_eq, decide_eq_false_iff_not, rowsR_len, rowsR_c0, rowsR_c1, rowsR_c2, rowsR_c3]
  refine ⟨fun _ => rfl, fun h => ?_⟩
  have hl : rs.length ≤ 1000000 := by omega
  have e16 := q16 rs (l, r, a, b)
  simp only [rR] at e16
  simp only [p16 hl, p19 hl, p21 hl, true_and]
  simp only [e16, q19, q21, q11, q34, List.getD_cons_zero, List.getD_cons_succ, gi_int, gb_bool, gl_sl, rowsR_len, rowsR_c0, rowsR_c1, rowsR_c2, rowsR_c3]
  have key : ∀ r0 : R4, inB1 x y (r0.1, r0.2.1, r0.2.2.1, r0.2.2.2) = inB1 x y r0 := fun _ => rfl
  simp only [key]
  refine ⟨fun h1 => ⟨by decide, by omega, by decide, fun w => ?_, fun _ => ?_⟩, fun h1 => ?_⟩
  · exfalso
    have e28 := comV (rs.getD (0 : Int).toNat (0, 0, 0, 0)) (rs.getD (1 : Int).toNat (0, 0, 0, 0))
    simp only [rR] at e28
    rw [e28] at w
    simp only [List.getD_cons_zero, List.getD_cons_succ, gi_int] at w
    generalize rs.getD (0 : Int).toNat (0, 0, 0, 0) = p at w
    generalize rs.getD (1 : Int).toNat (0, 0, 0, 0) = q at w
    have hi := in_com x y p q
    cases hc : comB p q with
    | true =>
      rw [hc] at w
      simp only [if_true] at w
      have e : inB1 x y ((comR p q).1, (comR p q).2.1, (comR p q).2.2.1, (comR p q).2.2.2) = inB1 x y (comR p q) := rfl
      rw [e, hi] at w
      cases inB1 x y p <;> cases inB1 x y q <;> simp at w
    | false =>
      rw [hc] at w
      have hi2 := com_in x y p q hc
      have e : inB1 x y (0, 0, 0, 0) = false := by unfold inB1; simp only [decide_eq_false_iff_not]; omega
      simp only [Bool.false_eq_true, if_false] at w
      rw [e] at w
      cases h3 : inB1 x y p <;> cases h4 : inB1 x y q <;> simp [h3, h4] at w hi2
  all_goals (
    refine ⟨fun _ => trivial, fun w => ?_⟩
    have w2 : cliE rs (l, r, a, b) = 0 ∧ allE (rowsR rs) = 0 := by
      by_cases z1 : cliE rs (l, r, a, b) = 0 <;> by_cases z2 : allE (rowsR rs) = 0 <;> simp [z1, z2] at w
      exact ⟨z1, z2⟩
    obtain ⟨w3, w4⟩ := w2
    obtain ⟨ok1, ok2, ok3⟩ := cliE_ok w3
    rw [if_pos w3, if_pos w4, if_pos w4]
    refine LoopP2.run (fun n => ((cnt (rs.take n) x y : Nat) : Int)) (fun n : Nat => (n : Int)) (fun n => n ≤ rs.length) (fun n => rs.length - n) 0 (Nat.zero_le _) rfl rfl ?_
    intro n hn K hK
    rw [toNat_cast]
    refine ⟨fun q => ?_, fun q => ?_⟩
    · have hlt : n < rs.length := Int.ofNat_lt.1 q
      have hc := cnt_take hlt x y
      have hb := cnt_le (rs.take n) x y
      rw [List.length_take] at hb
      refine ⟨Int.natCast_nonneg n, fun z => hK _ _ (n + 1) hlt (by omega) ?_ (wrap_up rfl (by omega)), fun z => hK _ _ (n + 1) hlt (by omega) ?_ (wrap_up rfl (by omega))⟩
      · rw [wrap_up rfl (by omega), hc, z]; rfl
      · rw [hc, z]; rfl
    · have hn2 : n = rs.length := by omega
      subst hn2
      rw [List.take_length]
      clear hK
      have hcl := clipR_len rs (l, r, a, b)
      obtain ⟨cs, hcs⟩ : ∃ cs, clipR rs (l, r, a, b) = cs := ⟨_, rfl⟩
      have hcc := cnt_clip rs (l, r, a, b) x y
      rw [hcs] at hcl hcc ⊢
      refine LoopP2.run (fun n => ((cnt (cs.take n) x y : Nat) : Int)) (fun n : Nat => (n : Int)) (fun n => n ≤ cs.length) (fun n => cs.length - n) 0 (Nat.zero_le _) rfl rfl ?_
      intro m hm K hK
      rw [toNat_cast]
      refine ⟨fun q2 => ?_, fun q2 => ?_⟩
      · have hlt : m < cs.length := Int.ofNat_lt.1 q2
        have hc := cnt_take hlt x y
        have hb := cnt_le (cs.take m) x y
        rw [List.length_take] at hb
        refine ⟨Int.natCast_nonneg m, fun z => hK _ _ (m + 1) hlt (by omega) ?_ (wrap_up rfl (by omega)), fun z => hK _ _ (m + 1) hlt (by omega) ?_ (wrap_up rfl (by omega))⟩
        · rw [wrap_up rfl (by omega), hc, z]; rfl
        · rw [hc, z]; rfl
      · have hm2 : m = cs.length := by omega
        subst hm2
        rw [List.take_length, hcc]
        have hA : ∀ z, mem (nf (alongR rs)) z ↔ mem (alongR rs) z := (nf_ok _).2
        have hB : ∀ z, mem (nf (acrR rs)) z ↔ mem (acrR rs) z := (nf_ok _).2
        have l1 : (nf (alongR rs)).length ≤ 1000000 := Nat.le_trans (nf_len _) (Nat.le_trans (alongR_len rs) hl)
        have l2 : (nf (acrR rs)).length ≤ 1000000 := Nat.le_trans (nf_len _) (Nat.le_trans (acr_len rs) hl)
        simp only [c35 l1, c35 l2, true_and, implies_true]
        simp only [q35, List.getD_cons_zero, gb_bool]
        have hpos := @cnt_pos rs x y
        cases hq : inB1 x y (l, r, a, b) with
        | true =>
          by_cases z : cnt rs x y = 0
          · simp [z]
          · obtain ⟨m1, m2⟩ := hpos z
            rw [(hasB_iff _ _).2 ((hA y).2 m1), (hasB_iff _ _).2 ((hB x).2 m2)]
            simp [z]
        | false =>
          by_cases z : cnt rs x y = 0
          · simp [z]
          · obtain ⟨m1, m2⟩ := hpos z
            rw [(hasB_iff _ _).2 ((hA y).2 m1), (hasB_iff _ _).2 ((hB x).2 m2)]
            simp [z])
end Go.Proofs.Ytjckgkhojjnkdaa.V
