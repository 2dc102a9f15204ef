/- Knives: what the patterns' functions make. No conditions. -/
import Derived.Test.YtjmgphobpgajbaaGA
set_option linter.unusedVariables false
set_option linter.unusedSimpArgs false
namespace Go.Proofs.Ytjmgphobpgajbaa.V
open Go Go.Eng
set_option maxRecDepth 1000000
set_option maxHeartbeats 1000000
theorem gl_sl (l : List LK) (xs : List (List C)) : (C.sl l xs).gl = xs := rfl
theorem ixF_spec (n : Nat) (p : Nat → Bool) : ∀ d j, n - j = d → (ixF n p j = -1 ∧ ∀ m, j ≤ m → m < n → p m = false) ∨ ∃ m, j ≤ m ∧ m < n ∧ ixF n p j = m ∧ p m = true ∧ ∀ q, j ≤ q → q < m → p q = false := by
  intro d
  induction d with
  | zero => intro j h; exact .inl ⟨ixF_ge (by omega), fun m h1 h2 => by omega⟩
  | succ d ih =>
    intro j h
    have hu := ixF_lt (p := p) (show j < n by omega)
    cases hp : p j with
    | true =>
      rw [hp, if_pos rfl] at hu
      exact .inr ⟨j, Nat.le_refl _, by omega, hu, hp, fun q h1 h2 => by omega⟩
    | false =>
      rw [hp, if_neg (by simp)] at hu
      have step : ∀ q, j ≤ q → (j + 1 ≤ q → p q = false) → p q = false := fun q h1 h2 => by
        by_cases e : q = j
        · subst e; exact hp
        · exact h2 (by omega)
      rcases ih (j + 1) (by omega) with ⟨h1, h2⟩ | ⟨m, h1, h2, h3, h4, h5⟩
      · exact .inl ⟨hu.trans h1, fun m g1 g2 => step m g1 fun g => h2 m g g2⟩
      · exact .inr ⟨m, by omega, h2, hu.trans h3, h4, fun q g1 g2 => step q g1 fun g => h5 q g g2⟩
/-- A loop that looks for the first index with a property. -/
theorem find_loop {n : Nat} {p : Nat → Bool} {B : Prop} {A' : Nat → Prop} {b : Int → (Int → Prop) → Prop} (hn : n ≤ 9223372036854775806) (hb : ∀ (k : Nat) (K : Int → Prop), k < n → (p k = true → A' k) → (p k = false → K ((k + 1 : Nat) : Int)) → b k K)
    (he : ∀ K : Int → Prop, B → b n K) (ha : ∀ k : Nat, k < n → ixF n p 0 = k → p k = true → A' k) (hB : ixF n p 0 = -1 → B) : LoopP1 b 0 := by
  refine LoopP1.run (fun k : Nat => (k : Int)) (fun k => k ≤ n ∧ ixF n p k = ixF n p 0) (fun k => n - k) 0 ⟨Nat.zero_le _, rfl⟩ rfl ?_
  rintro k ⟨hk, hf⟩ K hK
  by_cases h : k < n
  · have e := ixF_lt (p := p) h
    refine hb k K h (fun hp => ha k h ?_ hp) fun hp => hK _ (k + 1) ⟨by omega, ?_⟩ (by omega) rfl
    · rw [← hf, e, hp, if_pos rfl]
    · rw [← hf, e, hp, if_neg (by simp)]
  · have hk : k = n := by omega
    subst hk
    exact he K (hB (by rw [← hf, ixF_ge (by omega)]))
/-- The same from 1 on: p k speaks of k and k + 1. -/
theorem find_loop1 {n : Nat} {p : Nat → Bool} {B : Prop} {A' : Nat → Prop} {b : Int → (Int → Prop) → Prop} (hn : n ≤ 9223372036854775806) (hb : ∀ (k : Nat) (K : Int → Prop), k + 1 < n → (p k = true → A' k) → (p k = false → K ((k + 2 : Nat) : Int)) → b ((k + 1 : Nat) : Int) K)
    (he : ∀ (k : Nat) (K : Int → Prop), n ≤ k + 1 → B → b ((k + 1 : Nat) : Int) K) (ha : ∀ k : Nat, k + 1 < n → ixF (n - 1) p 0 = k → p k = true → A' k) (hB : ixF (n - 1) p 0 = -1 → B) : LoopP1 b 1 := by
  refine LoopP1.run (fun k : Nat => ((k + 1 : Nat) : Int)) (fun k => k ≤ n - 1 ∧ ixF (n - 1) p k = ixF (n - 1) p 0) (fun k => n - k) 0 ⟨Nat.zero_le _, rfl⟩ rfl ?_
  rintro k ⟨hk, hf⟩ K hK
  by_cases h : k + 1 < n
  · have e := ixF_lt (n := n - 1) (p := p) (j := k) (by omega)
    refine hb k K h (fun hp => ha k h ?_ hp) fun hp => hK _ (k + 1) ⟨by omega, ?_⟩ (by omega) rfl
    · rw [← hf, e, hp, if_pos rfl]
    · rw [← hf, e, hp, if_neg (by simp)]
  · exact he k K (by omega) (hB (by rw [← hf, ixF_ge (by omega)]))
/-! ### Deckles -/
def sUsb : List A → List C := fun ds => match ds with
  | [.agg [.c (.int _ w), .c (.int _ e), _, _, _]] => [.int .i64 (usb w e)]
  | _ => []
def S68 : List A → List C := sUsb
def S38 : List A → List C := sUsb
theorem e68 (w e t k : Int) (xs : List (List C)) : S68 [.agg [iC w, iC e, iC t, iC k, sI xs]] = [.int .i64 (usb w e)] := rfl
theorem e38 (w e t k : Int) (xs : List (List C)) : S38 [.agg [iC w, iC e, iC t, iC k, sI xs]] = [.int .i64 (usb w e)] := rfl
def tbl68 : FuncId → List A → List C := fun f ds => match f with
  | _ => []
theorem pc68  {x1 : Int} {x2 : Int} {x3 : Int} {x4 : Int} {x5 : List (List C)} {row : List C} (hS : S68 [.agg [.c (.int .i64 x1), .c (.int .i64 x2), .c (.int .i64 x3), .c (.int .i64 x4), .c (.sl [.int .i64] x5)]] = row) (h : vc68 (stdE Try.prog tbl68) x1 x2 x3 x4 x5 fun c => c = row) : PCg Try.prog 68 S68 [(false, [.int .i64])] [.agg [.c (.int .i64 x1), .c (.int .i64 x2), .c (.int .i64 x3), .c (.int .i64 x4), .c (.sl [.int .i64] x5)]] := PureC_vc mo h68 (by kernel_rfl) hS (w68  h)
def tbl38 : FuncId → List A → List C := fun f ds => match f with
  | _ => []
theorem pc38  {x1 : Int} {x2 : Int} {x3 : Int} {x4 : Int} {x5 : List (List C)} {row : List C} (hS : S38 [.agg [.c (.int .i64 x1), .c (.int .i64 x2), .c (.int .i64 x3), .c (.int .i64 x4), .c (.sl [.int .i64] x5)]] = row) (h : vc38 (stdE Try.prog tbl38) x1 x2 x3 x4 x5 fun c => c = row) : PCg Try.prog 38 S38 [(false, [.int .i64])] [.agg [.c (.int .i64 x1), .c (.int .i64 x2), .c (.int .i64 x3), .c (.int .i64 x4), .c (.sl [.int .i64] x5)]] := PureC_vc mo h38 (by kernel_rfl) hS (w38  h)
theorem p68 (w e t k : Int) (xs : List (List C)) : PCg Try.prog 68 S68 [kI] [.agg [iC w, iC e, iC t, iC k, sI xs]] := by
  refine pc68 (e68 ..) ?_
  unfold vc68
  simp only [stdE, baseE]
  rfl
theorem p38 (w e t k : Int) (xs : List (List C)) : PCg Try.prog 38 S38 [kI] [.agg [iC w, iC e, iC t, iC k, sI xs]] := by
  refine pc38 (e38 ..) ?_
  unfold vc38
  simp only [stdE, baseE]
  rfl
def sRng : List A → List C := fun ds => match ds with
  | [.agg [.c (.int _ w), .c (.int _ e), .c (.int _ t), .c (.int _ k), .c (.sl _ xs)]] => [.int .i64 (rngE w e t k (prI xs))]
  | _ => []
def S57 : List A → List C := sRng
def S59 : List A → List C := sRng
theorem e57 (w e t k : Int) (ss : List Int) : S57 [dk w e t k ss] = [.int .i64 (rngE w e t k ss)] := by
  show [C.int .i64 (rngE w e t k (prI (rowsI ss)))] = _
  rw [prI_rowsI]
theorem e59 (w e t k : Int) (ss : List Int) : S59 [dk w e t k ss] = [.int .i64 (rngE w e t k ss)] := e57 w e t k ss
theorem bad_iff (w e t k : Int) : (if (if (if (if (if (if (if decide (w < 1) = true then true else decide (12000 < w)) = true then true else decide (e < 0)) = true then true else decide (IntKind.i64.wrap ((IntKind.i64.wrap (w - 1)).tdiv 2) < e)) = true then true else decide (t < 0)) = true then true else decide (w < t)) = true then true else decide (k < 1)) = true then true else decide (12 < k)) = badD w e t k := by
  unfold badD
  by_cases h : w < 1 ∨ 12000 < w
  · rcases h with h | h <;> simp [h]
  · have h1 : (w - 1).tdiv 2 = (w - 1) / 2 := Int.tdiv_eq_ediv_of_nonneg (by omega)
    rw [wrap_in (n := w - 1) (by omega) (by omega), h1, wrap_in (by omega) (by omega)]
    simp only [not_or] at h
    simp only [h.1, h.2, decide_false, Bool.false_eq_true, if_false, false_or]
    by_cases a1 : e < 0 <;> by_cases a2 : (w - 1) / 2 < e <;> by_cases a3 : t < 0 <;> by_cases a4 : w < t <;> by_cases a5 : k < 1 <;> by_cases a6 : 12 < k <;> simp [a1, a2, a3, a4, a5, a6]
def tbl57 : FuncId → List A → List C := fun f ds => match f with
  | 68 => S68 ds
  | _ => []
theorem pc57  {x1 : Int} {x2 : Int} {x3 : Int} {x4 : Int} {x5 : List (List C)} {row : List C} (hS : S57 [.agg [.c (.int .i64 x1), .c (.int .i64 x2), .c (.int .i64 x3), .c (.int .i64 x4), .c (.sl [.int .i64] x5)]] = row) (h : vc57 (stdE Try.prog tbl57) x1 x2 x3 x4 x5 fun c => c = row) : PCg Try.prog 57 S57 [(false, [.int .i64])] [.agg [.c (.int .i64 x1), .c (.int .i64 x2), .c (.int .i64 x3), .c (.int .i64 x4), .c (.sl [.int .i64] x5)]] := PureC_vc mo h57 (by kernel_rfl) hS (w57  h)
def tbl59 : FuncId → List A → List C := fun f ds => match f with
  | 38 => S38 ds
  | _ => []
theorem pc59  {x1 : Int} {x2 : Int} {x3 : Int} {x4 : Int} {x5 : List (List C)} {row : List C} (hS : S59 [.agg [.c (.int .i64 x1), .c (.int .i64 x2), .c (.int .i64 x3), .c (.int .i64 x4), .c (.sl [.int .i64] x5)]] = row) (h : vc59 (stdE Try.prog tbl59) x1 x2 x3 x4 x5 fun c => c = row) : PCg Try.prog 59 S59 [(false, [.int .i64])] [.agg [.c (.int .i64 x1), .c (.int .i64 x2), .c (.int .i64 x3), .c (.int .i64 x4), .c (.sl [.int .i64] x5)]] := PureC_vc mo h59 (by kernel_rfl) hS (w59  h)
theorem p57 (w e t k : Int) (ss : List Int) : PCg Try.prog 57 S57 [kI] [dk w e t k ss] := by
  refine pc57 (e57 ..) ?_
  unfold vc57
  simp only [stdE, baseE, Br_iff, Imp_iff, tbl57, forall_eq, rowsI_len, rowsI_getD]
  simp only [p68, implies_true, true_and]
  simp only [e68, List.getD_cons_zero, gi_int, bad_iff]
  refine ⟨fun _ => by decide, fun h1 => ?_, fun h1 => ⟨fun h2 => ?_, fun h2 => ⟨fun h3 => ?_, fun h3 => ?_⟩⟩⟩
  · rw [rngE, if_pos h1]
  · have h2 : ss.length = 0 := by simpa using h2
    rw [rngE, if_neg (by rw [h1]; simp), if_pos h2]
  · have h2 : ss.length ≠ 0 := by simpa using h2
    have h3 : 8 < ss.length := by simp at h3; omega
    rw [rngE, if_neg (by rw [h1]; simp), if_neg h2, if_pos h3]
  have h2 : ss.length ≠ 0 := by simpa using h2
  have h3 : ¬ 8 < ss.length := by simp at h3; omega
  have hr : rngE w e t k ss = if ixF ss.length (fun j => badS w e (ss.getD j 0)) 0 ≠ -1 then 20 else if ixF (ss.length - 1) (upB ss) 0 ≠ -1 then 9 else 0 := by
    rw [rngE, if_neg (by rw [h1]; simp), if_neg h2, if_neg h3]
  rw [hr]
  refine find_loop (p := fun j => badS w e (ss.getD j 0)) (n := ss.length) (A' := fun _ => [C.int .i64 20] = [.int .i64 (if ixF ss.length (fun j => badS w e (ss.getD j 0)) 0 ≠ -1 then 20 else if ixF (ss.length - 1) (upB ss) 0 ≠ -1 then 9 else 0)]) (B := ixF ss.length (fun j => badS w e (ss.getD j 0)) 0 = -1) (by omega) ?_ ?_ ?_ ?_
  · intro j K hj ha hf
    simp only [decide_eq_true_eq, decide_eq_false_iff_not, toNat_cast]
    unfold badS at ha hf
    simp only [decide_eq_true_eq, decide_eq_false_iff_not] at ha hf
    refine ⟨fun _ => ⟨by omega, fun h => ha ?_, fun h => ?_⟩, fun h => by omega⟩
    · by_cases q : ss.getD j 0 < 1
      · exact .inl q
      · rw [if_neg q] at h; exact .inr (by simpa using h)
    · rw [wrap_up rfl (by omega)]
      refine hf ?_
      by_cases q : ss.getD j 0 < 1
      · rw [if_pos q] at h; cases h
      · rw [if_neg q] at h; have := of_decide_eq_false h; omega
  · intro K hB
    simp only [decide_eq_true_eq, decide_eq_false_iff_not]
    refine ⟨fun h => by omega, fun _ => ?_⟩
    rw [if_neg (fun q => q hB)]
    refine find_loop1 (p := upB ss) (n := ss.length) (A' := fun _ => [C.int .i64 9] = [.int .i64 (if ixF (ss.length - 1) (upB ss) 0 ≠ -1 then 9 else 0)]) (B := ixF (ss.length - 1) (upB ss) 0 = -1) (by omega) ?_ ?_ ?_ ?_
    · intro j K2 hj ha hf
      have ew : IntKind.i64.wrap (((j + 1 : Nat) : Int) - 1) = j := by rw [wrap_in (by omega) (by omega)]; omega
      simp only [ew, toNat_cast]
      unfold upB at ha hf
      simp only [decide_eq_true_eq, decide_eq_false_iff_not] at ha hf
      refine ⟨fun _ => ⟨by omega, by omega, by omega, fun h => ha h, fun h => ?_⟩, fun h => by omega⟩
      rw [wrap_up rfl (by omega)]; exact hf h
    · intro j K2 hj hB2
      refine ⟨fun h => by omega, fun _ => ?_⟩
      rw [if_neg (fun q => q hB2)]
    · intro j hj q1 q2
      rw [if_pos (by omega)]
    · exact id
  · intro j hj q1 q2
    rw [if_pos (by omega)]
  · exact id
theorem p59 (w e t k : Int) (ss : List Int) : PCg Try.prog 59 S59 [kI] [dk w e t k ss] := by
  refine pc59 (e59 ..) ?_
  unfold vc59
  simp only [stdE, baseE, Br_iff, Imp_iff, tbl59, forall_eq, rowsI_len, rowsI_getD]
  simp only [p38, implies_true, true_and]
  simp only [e38, List.getD_cons_zero, gi_int, bad_iff]
  refine ⟨fun _ => by decide, fun h1 => ?_, fun h1 => ⟨fun h2 => ?_, fun h2 => ⟨fun h3 => ?_, fun h3 => ?_⟩⟩⟩
  · rw [rngE, if_pos h1]
  · have h2 : ss.length = 0 := by simpa using h2
    rw [rngE, if_neg (by rw [h1]; simp), if_pos h2]
  · have h2 : ss.length ≠ 0 := by simpa using h2
    have h3 : 8 < ss.length := by simp at h3; omega
    rw [rngE, if_neg (by rw [h1]; simp), if_neg h2, if_pos h3]
  have h2 : ss.length ≠ 0 := by simpa using h2
  have h3 : ¬ 8 < ss.length := by simp at h3; omega
  have hr : rngE w e t k ss = if ixF ss.length (fun j => badS w e (ss.getD j 0)) 0 ≠ -1 then 20 else if ixF (ss.length - 1) (upB ss) 0 ≠ -1 then 9 else 0 := by
    rw [rngE, if_neg (by rw [h1]; simp), if_neg h2, if_neg h3]
  rw [hr]
  refine find_loop (p := fun j => badS w e (ss.getD j 0)) (n := ss.length) (A' := fun _ => [C.int .i64 20] = [.int .i64 (if ixF ss.length (fun j => badS w e (ss.getD j 0)) 0 ≠ -1 then 20 else if ixF (ss.length - 1) (upB ss) 0 ≠ -1 then 9 else 0)]) (B := ixF ss.length (fun j => badS w e (ss.getD j 0)) 0 = -1) (by omega) ?_ ?_ ?_ ?_
  · intro j K hj ha hf
    simp only [decide_eq_true_eq, decide_eq_false_iff_not, toNat_cast]
    unfold badS at ha hf
    simp only [decide_eq_true_eq, decide_eq_false_iff_not] at ha hf
    refine ⟨fun _ => ⟨by omega, fun h => ha ?_, fun h => ?_⟩, fun h => by omega⟩
    · by_cases q : ss.getD j 0 < 1
      · exact .inl q
      · rw [if_neg q] at h; exact .inr (by simpa using h)
    · rw [wrap_up rfl (by omega)]
      refine hf ?_
      by_cases q : ss.getD j 0 < 1
      · rw [if_pos q] at h; cases h
      · rw [if_neg q] at h; have := of_decide_eq_false h; omega
  · intro K hB
    simp only [decide_eq_true_eq, decide_eq_false_iff_not]
    refine ⟨fun h => by omega, fun _ => ?_⟩
    rw [if_neg (fun q => q hB)]
    refine find_loop1 (p := upB ss) (n := ss.length) (A' := fun _ => [C.int .i64 9] = [.int .i64 (if ixF (ss.length - 1) (upB ss) 0 ≠ -1 then 9 else 0)]) (B := ixF (ss.length - 1) (upB ss) 0 = -1) (by omega) ?_ ?_ ?_ ?_
    · intro j K2 hj ha hf
      have ew : IntKind.i64.wrap (((j + 1 : Nat) : Int) - 1) = j := by rw [wrap_in (by omega) (by omega)]; omega
      simp only [ew, toNat_cast]
      unfold upB at ha hf
      simp only [decide_eq_true_eq, decide_eq_false_iff_not] at ha hf
      refine ⟨fun _ => ⟨by omega, by omega, by omega, fun h => ha h, fun h => ?_⟩, fun h => by omega⟩
      rw [wrap_up rfl (by omega)]; exact hf h
    · intro j K2 hj hB2
      refine ⟨fun h => by omega, fun _ => ?_⟩
      rw [if_neg (fun q => q hB2)]
    · intro j hj q1 q2
      rw [if_pos (by omega)]
    · exact id
  · intro j hj q1 q2
    rw [if_pos (by omega)]
  · exact id
end Go.Proofs.Ytjmgphobpgajbaa.V
