/- Knives: what a pattern's functions make. No conditions. -/
import Derived.Test.YtjmgphobpgajbaaPat
set_option linter.unusedVariables false
set_option linter.unusedSimpArgs false
namespace Go.Proofs.Ytjmgphobpgajbaa.V
open Go Go.Eng
set_option maxRecDepth 1000000
set_option maxHeartbeats 1000000
def mnS (m x : Int) : Int := if x < m then x else m
def mxS (m x : Int) : Int := if m < x then x else m
def minW (c : List Int) : Int := (c.drop 1).foldl mnS (c.getD 0 0)
def maxW (c : List Int) : Int := (c.drop 1).foldl mxS (c.getD 0 0)
theorem mn_neg : ∀ (l : List Int) (m : Int), l.foldl mnS m < 0 ↔ m < 0 ∨ ∃ a ∈ l, a < 0
  | [], m => by simp
  | a :: l, m => by
    rw [List.foldl_cons, mn_neg l]
    have key : mnS m a < 0 ↔ m < 0 ∨ a < 0 := by
      unfold mnS
      split <;> omega
    rw [key]
    simp only [List.mem_cons, exists_eq_or_imp, or_assoc]
theorem mx_zero : ∀ (l : List Int) (m : Int), 0 ≤ m → (∀ a ∈ l, 0 ≤ a) → (l.foldl mxS m = 0 ↔ m = 0 ∧ ∀ a ∈ l, a = 0)
  | [], m, _, _ => by simp
  | a :: l, m, hm, h => by
    have ha := h a (by simp)
    have hl : ∀ x ∈ l, 0 ≤ x := fun x hx => h x (by simp [hx])
    rw [List.foldl_cons, mx_zero l _ (by unfold mxS; split <;> omega) hl]
    unfold mxS
    simp only [List.forall_mem_cons]
    split <;> constructor <;> intro q
    · exact ⟨by omega, by omega, q.2⟩
    · exact ⟨by omega, q.2.2⟩
    · exact ⟨by omega, by omega, q.2⟩
    · exact ⟨by omega, q.2.2⟩
theorem minW_neg {c : List Int} (h : c ≠ []) : minW c < 0 ↔ ∃ a ∈ c, a < 0 := by
  cases c with
  | nil => exact absurd rfl h
  | cons a l => unfold minW; rw [List.drop_one, List.tail_cons, mn_neg]; simp
theorem maxW_zero {c : List Int} (h : c ≠ []) (hp : ∀ a ∈ c, 0 ≤ a) : maxW c = 0 ↔ ∀ a ∈ c, a = 0 := by
  cases c with
  | nil => exact absurd rfl h
  | cons a l => unfold maxW; rw [List.drop_one, List.tail_cons, List.getD_cons_zero, mx_zero _ _ (hp a (by simp)) fun x hx => hp x (by simp [hx])]; simp
def S70 : List A → List C := fun ds => match ds with
  | [.c (.sl _ xs)] => [.int .i64 (minW (prI xs))]
  | _ => []
theorem e70 (c : List Int) : S70 [sI (rowsI c)] = [.int .i64 (minW c)] := by
  show [C.int .i64 (minW (prI (rowsI c)))] = _
  rw [prI_rowsI]
def S71 : List A → List C := fun ds => match ds with
  | [.c (.sl _ xs)] => [.int .i64 (maxW (prI xs))]
  | _ => []
theorem e71 (c : List Int) : S71 [sI (rowsI c)] = [.int .i64 (maxW c)] := by
  show [C.int .i64 (maxW (prI (rowsI c)))] = _
  rw [prI_rowsI]
theorem drop1_getD (c : List Int) (k : Nat) : (c.drop 1).getD k 0 = c.getD (k + 1) 0 := by
  simp [List.getD, Nat.add_comm]
def tbl70 : FuncId → List A → List C := fun f ds => match f with
  | _ => []
theorem pc70  {x1 : List (List C)} {row : List C} (hS : S70 [.c (.sl [.int .i64] x1)] = row) (h : vc70 (stdE Try.prog tbl70) x1 fun c => c = row) : PCg Try.prog 70 S70 [(false, [.int .i64])] [.c (.sl [.int .i64] x1)] := PureC_vc mo h70 (by kernel_rfl) hS (w70  h)
def tbl71 : FuncId → List A → List C := fun f ds => match f with
  | _ => []
theorem pc71  {x1 : List (List C)} {row : List C} (hS : S71 [.c (.sl [.int .i64] x1)] = row) (h : vc71 (stdE Try.prog tbl71) x1 fun c => c = row) : PCg Try.prog 71 S71 [(false, [.int .i64])] [.c (.sl [.int .i64] x1)] := PureC_vc mo h71 (by kernel_rfl) hS (w71  h)
theorem p70 {c : List Int} (h : 1 ≤ c.length) (h2 : c.length ≤ 1000000) : PCg Try.prog 70 S70 [kI] [sI (rowsI c)] := by
  refine pc70 (e70 c) ?_
  unfold vc70
  simp only [stdE, baseE, Br_iff, rowsI_len, rowsI_getD, decide_eq_true_eq, decide_eq_false_iff_not, Int.toNat_zero]
  refine ⟨fun q => by omega, fun _ => ⟨Int.le_refl 0, by omega, ?_⟩⟩
  refine LoopP2.run (fun k : Nat => ((c.drop 1).take k).foldl mnS (c.getD 0 0)) (fun k => ((k + 1 : Nat) : Int)) (fun k => k + 1 ≤ c.length) (fun k => c.length - k) 0 (by omega) rfl rfl ?_
  intro k hk K hK
  refine ⟨fun q => ⟨by omega, ?_⟩, fun q => ?_⟩
  · have := foldl_take mnS (c.getD 0 0) (c.drop 1) 0 (i := k) (by simp; omega)
    refine hK _ _ (k + 1) (by omega) (by omega) ?_ (wrap_up rfl (by omega))
    rw [this, drop1_getD, toNat_cast]; rfl
  · unfold minW
    rw [List.take_of_length_le (by simp; omega)]
theorem p71 {c : List Int} (h : 1 ≤ c.length) (h2 : c.length ≤ 1000000) : PCg Try.prog 71 S71 [kI] [sI (rowsI c)] := by
  refine pc71 (e71 c) ?_
  unfold vc71
  simp only [stdE, baseE, Br_iff, rowsI_len, rowsI_getD, decide_eq_true_eq, decide_eq_false_iff_not, Int.toNat_zero]
  refine ⟨fun q => by omega, fun _ => ⟨Int.le_refl 0, by omega, ?_⟩⟩
  refine LoopP2.run (fun k : Nat => ((c.drop 1).take k).foldl mxS (c.getD 0 0)) (fun k => ((k + 1 : Nat) : Int)) (fun k => k + 1 ≤ c.length) (fun k => c.length - k) 0 (by omega) rfl rfl ?_
  intro k hk K hK
  refine ⟨fun q => ⟨by omega, ?_⟩, fun q => ?_⟩
  · have := foldl_take mxS (c.getD 0 0) (c.drop 1) 0 (i := k) (by simp; omega)
    refine hK _ _ (k + 1) (by omega) (by omega) ?_ (wrap_up rfl (by omega))
    rw [this, drop1_getD, toNat_cast]; rfl
  · unfold maxW
    rw [List.take_of_length_le (by simp; omega)]
/-! ### A pattern -/
theorem take_s {l : List Int} {n : Nat} (h : n < l.length) : l.take (n + 1) = l.take n ++ [l.getD n 0] := by
  rw [List.take_add_one]; simp [List.getD, h]
theorem sum_split (l : List Int) (n : Nat) : sumL l = sumL (l.take n) + sumL (l.drop n) := by
  have key : ∀ a b : List Int, sumL (a ++ b) = sumL a + sumL b := by
    intro a b
    induction a with
    | nil => simp [sumL]
    | cons x a ih => simp only [List.cons_append, sumL, ih]; omega
  rw [← key, List.take_append_drop]
theorem dot_bd : ∀ (l m : List Int), (∀ a ∈ l, 0 ≤ a) → (∀ s ∈ m, 1 ≤ s ∧ s ≤ 12000) → 0 ≤ dot l m ∧ dot l m ≤ sumL l * 12000
  | [], m, h, _ => by cases m <;> simp [dot, sumL]
  | a :: l, [], h, _ => by
    have := sumL_nonneg h
    simp only [dot]; omega
  | a :: l, s :: m, h, hm => by
    have ih := dot_bd l m (fun x hx => h x (by simp [hx])) fun x hx => hm x (by simp [hx])
    have ha := h a (by simp)
    have hs := hm s (by simp)
    have h1 : 0 ≤ a * s := Int.mul_nonneg ha (by omega)
    have h2 : a * s ≤ a * 12000 := Int.mul_le_mul_of_nonneg_left hs.2 ha
    simp only [dot, sumL]
    rw [Int.add_mul]
    omega
theorem mem_take {l : List Int} {n : Nat} {x : Int} (h : x ∈ l.take n) : x ∈ l := List.mem_of_mem_take h
theorem DOk.s12 {w e t k : Int} {ss : List Int} (h : DOk w e t k ss) : ∀ s ∈ ss, 1 ≤ s ∧ s ≤ 12000 := fun s hs => by have := h.sz s hs; have := h.w2; have := h.e0; omega
theorem DOk.usb {w e t k : Int} {ss : List Int} (h : DOk w e t k ss) : V.usb w e = w - 2 * e := usb_eq h.w1 h.w2 h.e0 h.e1
def roomV (w e t k : Int) (ss c : List Int) : List C := if fitE w e t k ss c = 0 then [.int .i64 (sumL c), .int .i64 (w - 2 * e - dot c ss), .int .i64 0] else [.int .i64 0, .int .i64 0, .int .i64 (fitE w e t k ss c)]
def S61 : List A → List C := fun ds => match ds with
  | [.agg [.c (.int _ w), .c (.int _ e), .c (.int _ t), .c (.int _ k), .c (.sl _ xs)], .c (.sl _ c)] => roomV w e t k (prI xs) (prI c)
  | _ => []
theorem e61 (w e t k : Int) (ss c : List Int) : S61 [dk w e t k ss, sI (rowsI c)] = roomV w e t k ss c := by
  show roomV w e t k (prI (rowsI ss)) (prI (rowsI c)) = _
  rw [prI_rowsI, prI_rowsI]
theorem roomV_err {w e t k : Int} {ss c : List Int} {n : Int} (h : fitE w e t k ss c = n) (hn : n ≠ 0) : roomV w e t k ss c = [.int .i64 0, .int .i64 0, .int .i64 n] := by
  rw [roomV, if_neg (by rw [h]; exact hn), h]
def tbl61 : FuncId → List A → List C := fun f ds => match f with
  | 68 => S68 ds
  | 70 => S70 ds
  | 71 => S71 ds
  | _ => []
theorem pc61  {x1 : Int} {x2 : Int} {x3 : Int} {x4 : Int} {x5 : List (List C)} {x6 : List (List C)} {row : List C} (hS : S61 [.agg [.c (.int .i64 x1), .c (.int .i64 x2), .c (.int .i64 x3), .c (.int .i64 x4), .c (.sl [.int .i64] x5)], .c (.sl [.int .i64] x6)] = row) (h : vc61 (stdE Try.prog tbl61) x1 x2 x3 x4 x5 x6 fun c => c = row) : PCg Try.prog 61 S61 [(false, [.int .i64]), (false, [.int .i64]), (false, [.int .i64])] [.agg [.c (.int .i64 x1), .c (.int .i64 x2), .c (.int .i64 x3), .c (.int .i64 x4), .c (.sl [.int .i64] x5)], .c (.sl [.int .i64] x6)] := PureC_vc mo h61 (by kernel_rfl) hS (w61  h)
theorem p61 {w e t k : Int} {ss : List Int} (hd : DOk w e t k ss) (c : List Int) (hc : c.length ≤ 1000000) : PCg Try.prog 61 S61 [kI, kI, kI] [dk w e t k ss, sI (rowsI c)] := by
  refine pc61 (e61 ..) ?_
  unfold vc61
  simp only [stdE, baseE, Br_iff, Imp_iff, tbl61, forall_eq, rowsI_len, rowsI_getD]
  refine ⟨fun h1 => ?_, fun h1 => ?_⟩
  · have h1 : c.length ≠ ss.length := by simp at h1; omega
    exact (roomV_err (by rw [fitE, if_pos h1]) (by decide)).symm
  have h1 : c.length = ss.length := by simp at h1; omega
  have n1 := hd.n1
  have hne : c ≠ [] := fun q => by rw [q] at h1; simp at h1; omega
  refine ⟨p70 (by omega) hc, ?_⟩
  simp only [e70, List.getD_cons_zero, gi_int, decide_eq_true_eq, decide_eq_false_iff_not]
  refine ⟨fun h2 => ?_, fun h2 => ?_⟩
  · obtain ⟨a, ha, hn⟩ := (minW_neg hne).1 h2
    refine (roomV_err (n := 1) ?_ (by decide)).symm
    rw [fitE, if_neg (by omega), if_pos (fun q => by have := neg_all q a ha; omega)]
  have hp : ∀ a ∈ c, 0 ≤ a := fun a ha => Int.not_lt.1 fun q => h2 ((minW_neg hne).2 ⟨a, ha, q⟩)
  refine ⟨p71 (by omega) hc, ?_⟩
  simp only [e71, List.getD_cons_zero, gi_int, beq_iff_eq, beq_eq_false_iff_ne]
  have hz : maxW c = 0 ↔ sumL c = 0 := (maxW_zero hne hp).trans (sumL_zero hp).symm
  refine ⟨fun h3 => ?_, fun h3 => ?_⟩
  · refine (roomV_err (n := 10) ?_ (by decide)).symm
    rw [fitE, if_neg (by omega), if_neg (fun q => q (neg_no hp)), if_pos (hz.1 h3)]
  have h3' : sumL c ≠ 0 := fun q => h3 (hz.2 q)
  simp only [p68, true_and]
  simp only [e68, List.getD_cons_zero, gi_int, hd.usb]
  have k2 := hd.k2; have k1 := hd.k1; have w2 := hd.w2; have e0 := hd.e0; have e1 := hd.e1; have n8 := hd.n8
  have hE : fitE w e t k ss c = if k < sumL c then 23 else if w - 2 * e < dot c ss then 20 else if t < w - 2 * e - dot c ss then 24 else 0 := by
    rw [fitE, if_neg (by omega), if_neg (fun q => q (neg_no hp)), if_neg h3']
  refine LoopP3.run (x1 := 0) (x2 := w - 2 * e) (x3 := 0) (fun n : Nat => sumL (c.take n)) (fun n => w - 2 * e - dot (c.take n) (ss.take n)) (fun n => (n : Int)) (fun n => n ≤ c.length ∧ sumL (c.take n) ≤ k) (fun n => c.length - n) 0 ⟨Nat.zero_le _, by rw [List.take_zero]; simp only [sumL]; omega⟩ (by rw [List.take_zero]; rfl) (by rw [List.take_zero, List.take_zero]; simp only [dot]; omega) rfl ?_
  rintro n ⟨hn, hk⟩ K hK
  have hs0 := sumL_nonneg (l := c.take n) fun a ha => hp a (mem_take ha)
  have hb := dot_bd (c.take n) (ss.take n) (fun a ha => hp a (mem_take ha)) fun s hs => hd.s12 s (mem_take hs)
  simp only [toNat_cast]
  refine ⟨fun h4 => ⟨by omega, ?_⟩, fun h4 => ?_⟩
  · have hlt : n < c.length := by omega
    have hcn := hp _ (getD_mem (d := 0) hlt)
    have hsn := hd.s12 _ (getD_mem (l := ss) (d := 0) (n := n) (by omega))
    have e2 : sumL (c.take (n + 1)) = sumL (c.take n) + c.getD n 0 := by rw [take_s hlt, sumL_snoc]
    have e3 : dot (c.take (n + 1)) (ss.take (n + 1)) = dot (c.take n) (ss.take n) + c.getD n 0 * ss.getD n 0 := by
      rw [take_s hlt, take_s (show n < ss.length by omega), dot_snoc _ _ _ _ (by simp; omega)]
    have hrest := sumL_nonneg (l := c.drop (n + 1)) fun a ha => hp a (List.mem_of_mem_drop ha)
    have hsp := sum_split c (n + 1)
    rw [wrap_in (n := k - sumL (c.take n)) (by omega) (by omega)]
    refine ⟨fun h5 => ?_, fun h5 => ⟨by omega, ?_⟩⟩
    · refine (roomV_err (n := 23) ?_ (by decide)).symm
      rw [hE, if_pos (by omega)]
    · have hm0 : 0 ≤ c.getD n 0 * ss.getD n 0 := Int.mul_nonneg hcn (by omega)
      have hm1 : c.getD n 0 * ss.getD n 0 ≤ 12 * 12000 := Int.le_trans (Int.mul_le_mul_of_nonneg_left hsn.2 hcn) (by omega)
      rw [wrap_in (n := c.getD n 0 * ss.getD n 0) (by omega) (by omega), wrap_in (n := sumL (c.take n) + c.getD n 0) (by omega) (by omega), wrap_in (n := w - 2 * e - dot (c.take n) (ss.take n) - c.getD n 0 * ss.getD n 0) (by omega) (by omega)]
      exact hK _ _ _ (n + 1) ⟨by omega, by omega⟩ (by omega) e2.symm (by rw [e3]; omega) (wrap_up rfl (by omega))
  · have hnl : n = c.length := by omega
    subst hnl
    rw [List.take_length] at hk hs0 hb ⊢
    rw [List.take_of_length_le (l := ss) (by omega)] at hb ⊢
    rw [if_neg (by omega)] at hE
    refine ⟨fun h5 => ?_, fun h5 => ⟨fun h6 => ?_, fun h6 => ?_⟩⟩
    · exact (roomV_err (n := 20) (by rw [hE, if_pos (by omega)]) (by decide)).symm
    · exact (roomV_err (n := 24) (by rw [hE, if_neg (by omega), if_pos (by omega)]) (by decide)).symm
    · rw [roomV, if_pos (by rw [hE, if_neg (by omega), if_neg (by omega)])]
/-- No more than 12001 of each. -/
def capL (c : List Int) : List Int := c.map fun a => if 12001 < a then 12001 else a
theorem capL_getD (c : List Int) (n : Nat) : (capL c).getD n 0 = if 12001 < c.getD n 0 then 12001 else c.getD n 0 := by
  unfold capL
  by_cases h : n < c.length
  · simp [List.getD, h]
  · simp [List.getD, h]
theorem capL_pos {c : List Int} (h : ∀ a ∈ c, 0 ≤ a) : ∀ a ∈ capL c, 0 ≤ a ∧ a ≤ 12001 := by
  intro a ha
  obtain ⟨b, hb, rfl⟩ := List.mem_map.1 ha
  have := h b hb
  split <;> omega
theorem capL_le : ∀ {c : List Int}, sumL (capL c) ≤ sumL c
  | [] => Int.le_refl _
  | a :: c => by
    have ih := capL_le (c := c)
    unfold capL at ih ⊢
    simp only [List.map_cons, sumL]
    split <;> omega
theorem capL_eq {c : List Int} (h : ∀ a ∈ c, 0 ≤ a) (h2 : sumL (capL c) ≤ 12) : capL c = c := by
  unfold capL
  conv => rhs; rw [← List.map_id c]
  refine List.map_congr_left fun a ha => ?_
  have hm := sumL_mem (l := capL c) (fun x hx => (capL_pos h x hx).1) (if 12001 < a then 12001 else a) (List.mem_map.2 ⟨a, ha, rfl⟩)
  split
  · rename_i q; rw [if_pos q] at hm; omega
  · rfl
def S44 : List A → List C := fun ds => match ds with
  | [.agg [.c (.int _ w), .c (.int _ e), .c (.int _ t), .c (.int _ k), .c (.sl _ xs)], .c (.sl _ c)] => [.int .i64 (fitE w e t k (prI xs) (prI c))]
  | _ => []
theorem e44 (w e t k : Int) (ss c : List Int) : S44 [dk w e t k ss, sI (rowsI c)] = [.int .i64 (fitE w e t k ss c)] := by
  show [C.int .i64 (fitE w e t k (prI (rowsI ss)) (prI (rowsI c)))] = _
  rw [prI_rowsI, prI_rowsI]
def tbl44 : FuncId → List A → List C := fun f ds => match f with
  | 38 => S38 ds
  | _ => []
theorem pc44  {x1 : Int} {x2 : Int} {x3 : Int} {x4 : Int} {x5 : List (List C)} {x6 : List (List C)} {row : List C} (hS : S44 [.agg [.c (.int .i64 x1), .c (.int .i64 x2), .c (.int .i64 x3), .c (.int .i64 x4), .c (.sl [.int .i64] x5)], .c (.sl [.int .i64] x6)] = row) (h : vc44 (stdE Try.prog tbl44) x1 x2 x3 x4 x5 x6 fun c => c = row) : PCg Try.prog 44 S44 [(false, [.int .i64])] [.agg [.c (.int .i64 x1), .c (.int .i64 x2), .c (.int .i64 x3), .c (.int .i64 x4), .c (.sl [.int .i64] x5)], .c (.sl [.int .i64] x6)] := PureC_vc mo h44 (by kernel_rfl) hS (w44  h)
theorem p44 {w e t k : Int} {ss : List Int} (hd : DOk w e t k ss) (c : List Int) (hc : c.length ≤ 1000000) : PCg Try.prog 44 S44 [kI] [dk w e t k ss, sI (rowsI c)] := by
  refine pc44 (e44 ..) ?_
  unfold vc44
  simp only [stdE, baseE, Br_iff, Imp_iff, tbl44, forall_eq, rowsI_len, rowsI_getD]
  simp only [p38, true_and]
  simp only [e38, List.getD_cons_zero, gi_int, hd.usb]
  refine ⟨fun h1 => ?_, fun h1 => ?_⟩
  · have h1 : c.length ≠ ss.length := by simp at h1; omega
    rw [fitE, if_pos h1]
  have h1 : c.length = ss.length := by simp at h1; omega
  have k2 := hd.k2; have k1 := hd.k1; have w2 := hd.w2; have e0 := hd.e0; have e1 := hd.e1; have n8 := hd.n8
  refine find_loop (p := negB c) (n := c.length) (A' := fun _ => [C.int .i64 1] = [.int .i64 (fitE w e t k ss c)]) (B := ixF c.length (negB c) 0 = -1) (by omega) ?_ ?_ ?_ ?_
  · intro j K hj ha hf
    simp only [decide_eq_true_eq, decide_eq_false_iff_not, toNat_cast]
    unfold negB at ha hf
    simp only [decide_eq_true_eq, decide_eq_false_iff_not] at ha hf
    refine ⟨fun _ => ⟨by omega, fun h => ha h, fun h => ?_⟩, fun h => by omega⟩
    rw [wrap_up rfl (by omega)]; exact hf h
  · intro K hB
    refine ⟨fun h => by simp at h, fun _ => ?_⟩
    have hp := neg_all hB
    have hcp := capL_pos hp
    have hcl : (capL c).length = c.length := by simp [capL]
    have hE : fitE w e t k ss c = if sumL c = 0 then 10 else if k < sumL c then 23 else if w - 2 * e < dot c ss then 20 else if t < w - 2 * e - dot c ss then 24 else 0 := by
      rw [fitE, if_neg (by omega), if_neg (fun q => q hB)]
    refine LoopP3.run (x1 := 0) (x2 := 0) (x3 := 0) (fun n : Nat => sumL ((capL c).take n)) (fun n => dot ((capL c).take n) (ss.take n)) (fun n => (n : Int)) (fun n => n ≤ c.length ∧ sumL ((capL c).take n) ≤ 12001 * n) (fun n => c.length - n) 0 ⟨Nat.zero_le _, by rw [List.take_zero]; simp only [sumL]; omega⟩ (by rw [List.take_zero]; rfl) (by rw [List.take_zero, List.take_zero]; rfl) rfl ?_
    rintro n ⟨hn, hk⟩ K hK
    have hs0 := sumL_nonneg (l := (capL c).take n) fun a ha => (hcp a (mem_take ha)).1
    have hb := dot_bd ((capL c).take n) (ss.take n) (fun a ha => (hcp a (mem_take ha)).1) fun s hs => hd.s12 s (mem_take hs)
    simp only [toNat_cast, ← capL_getD]
    refine ⟨fun h4 => ?_, fun h4 => ?_⟩
    · have h4 : (n : Int) < c.length := by simpa using h4
      have hlt : n < (capL c).length := by omega
      have hcn := hcp _ (getD_mem (d := 0) hlt)
      have hsn := hd.s12 _ (getD_mem (l := ss) (d := 0) (n := n) (by omega))
      have e2 : sumL ((capL c).take (n + 1)) = sumL ((capL c).take n) + (capL c).getD n 0 := by rw [take_s hlt, sumL_snoc]
      have e3 : dot ((capL c).take (n + 1)) (ss.take (n + 1)) = dot ((capL c).take n) (ss.take n) + (capL c).getD n 0 * ss.getD n 0 := by
        rw [take_s hlt, take_s (show n < ss.length by omega), dot_snoc _ _ _ _ (by simp; omega)]
      have hm0 : 0 ≤ (capL c).getD n 0 * ss.getD n 0 := Int.mul_nonneg hcn.1 (by omega)
      have hm1 : (capL c).getD n 0 * ss.getD n 0 ≤ 12001 * 12000 := Int.le_trans (Int.mul_le_mul_of_nonneg_left hsn.2 hcn.1) (by omega)
      have hn8 : (n : Int) ≤ 8 := by omega
      refine ⟨by simp, by simp; omega, ?_⟩
      rw [wrap_in (n := (capL c).getD n 0 * ss.getD n 0) (by omega) (by omega), wrap_in (n := sumL ((capL c).take n) + (capL c).getD n 0) (by omega) (by omega), wrap_in (n := dot ((capL c).take n) (ss.take n) + (capL c).getD n 0 * ss.getD n 0) (by omega) (by omega)]
      exact hK _ _ _ (n + 1) ⟨by omega, by rw [e2]; push_cast; omega⟩ (by omega) e2.symm e3.symm (wrap_up rfl (by omega))
    · have hnl : n = c.length := by simp at h4; omega
      subst hnl
      have et : (capL c).take c.length = capL c := by rw [← hcl, List.take_length]
      rw [et] at hk hs0 hb ⊢
      rw [List.take_of_length_le (l := ss) (by omega)] at hb ⊢
      have hle := capL_le (c := c)
      rw [hE]
      simp only [decide_eq_true_eq, decide_eq_false_iff_not, beq_iff_eq, beq_eq_false_iff_ne]
      refine ⟨fun h5 => ?_, fun h5 => ⟨fun h6 => ?_, fun h6 => ?_⟩⟩
      · have := capL_eq hp (by omega)
        rw [this] at h5
        rw [if_pos h5]
      · rw [if_neg (by omega), if_pos (by omega)]
      · have hce := capL_eq hp (by omega)
        rw [hce] at h5 h6 hb ⊢
        rw [if_neg h5, if_neg h6]
        rw [wrap_in (n := w - 2 * e - dot c ss) (by omega) (by omega)]
        refine ⟨fun h7 => ?_, fun h7 => ⟨fun h8 => ?_, fun h8 => ?_⟩⟩
        · rw [if_pos h7]
        · rw [if_neg h7, if_pos h8]
        · rw [if_neg h7, if_neg h8]
  · intro j hj q1 q2
    rw [fitE, if_neg (by omega), if_pos (by omega)]
  · exact id
end Go.Proofs.Ytjmgphobpgajbaa.V
