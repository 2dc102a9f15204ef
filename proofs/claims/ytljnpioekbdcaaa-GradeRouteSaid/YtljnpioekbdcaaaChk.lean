/- Grades: checked and found, in the program and in the reference. No conditions. -/
import Derived.Test.YtljnpioekbdcaaaGB
import Derived.Test.YtljnpioekbdcaaaCmp
set_option linter.unusedVariables false
set_option linter.unusedSimpArgs false
namespace Go.Proofs.Ytljnpioekbdcaaa.V
open Go Go.Eng
set_option maxRecDepth 1000000
set_option maxHeartbeats 1000000
abbrev kS : Bool × List LK := (false, [.str])
abbrev GL : List LK := [.str, .int .i64, .int .i64, .int .i64, .int .i64, .int .i64, .sl [.int .i64], .int .i64]
abbrev sG (xs : List (List C)) : A := .c (.sl GL xs)
abbrev sI (xs : List (List C)) : A := .c (.sl [.int .i64] xs)
theorem ixF_spec (n : Nat) (p : Nat → Bool) : ∀ d j, n - j = d → (ixF n p j = -1 ∧ ∀ m, j ≤ m → m < n → p m = false) ∨ ∃ m, j ≤ m ∧ m < n ∧ ixF n p j = m ∧ p m = true ∧ ∀ q, j ≤ q → q < m → p q = false := by
  intro d
  induction d with
  | zero => intro j h; exact .inl ⟨ixF_ge (by omega), fun m h1 h2 => by omega⟩
  | succ d ih =>
    intro j h
    have hu := ixF_lt (p := p) (show j < n by omega)
    cases hp : p j with
    | true =>
      rw [hp, if_pos rfl] at hu
      exact .inr ⟨j, Nat.le_refl _, by omega, hu, hp, fun q h1 h2 => by omega⟩
    | false =>
      rw [hp, if_neg (by simp)] at hu
      have step : ∀ q, j ≤ q → (j + 1 ≤ q → p q = false) → p q = false := fun q h1 h2 => by
        by_cases e : q = j
        · subst e; exact hp
        · exact h2 (by omega)
      rcases ih (j + 1) (by omega) with ⟨h1, h2⟩ | ⟨m, h1, h2, h3, h4, h5⟩
      · exact .inl ⟨hu.trans h1, fun m g1 g2 => step m g1 fun g => h2 m g g2⟩
      · exact .inr ⟨m, by omega, h2, hu.trans h3, h4, fun q g1 g2 => step q g1 fun g => h5 q g g2⟩
theorem ixF_congr {n : Nat} {p q : Nat → Bool} (h : ∀ j, j < n → p j = q j) : ∀ d j, n - j = d → ixF n p j = ixF n q j := by
  intro d
  induction d with
  | zero => intro j hj; rw [ixF_ge (by omega), ixF_ge (by omega)]
  | succ d ih => intro j hj; rw [ixF_lt (p := p) (show j < n by omega), ixF_lt (p := q) (show j < n by omega), h j (by omega), ih (j + 1) (by omega)]
/-- A loop that looks for the first index with a property. -/
theorem find_loop {n : Nat} {p : Nat → Bool} {B : Prop} {A' : Nat → Prop} {b : Int → (Int → Prop) → Prop} (hn : n ≤ 9223372036854775806) (hb : ∀ (k : Nat) (K : Int → Prop), k < n → (p k = true → A' k) → (p k = false → K ((k + 1 : Nat) : Int)) → b k K)
    (he : ∀ K : Int → Prop, B → b n K) (ha : ∀ k : Nat, k < n → ixF n p 0 = k → p k = true → A' k) (hB : ixF n p 0 = -1 → B) : LoopP1 b 0 := by
  refine LoopP1.run (fun k : Nat => (k : Int)) (fun k => k ≤ n ∧ ixF n p k = ixF n p 0) (fun k => n - k) 0 ⟨Nat.zero_le _, rfl⟩ rfl ?_
  rintro k ⟨hk, hf⟩ K hK
  by_cases h : k < n
  · have e := ixF_lt (p := p) h
    refine hb k K h (fun hp => ha k h ?_ hp) fun hp => hK _ (k + 1) ⟨by omega, ?_⟩ (by omega) rfl
    · rw [← hf, e, hp, if_pos rfl]
    · rw [← hf, e, hp, if_neg (by simp)]
  · have hk : k = n := by omega
    subst hk
    exact he K (hB (by rw [← hf, ixF_ge (by omega)]))
/-- The first error of some. -/
def firstN (f : Nat → Int) (n j : Nat) : Int := if j < n then (if f j = 0 then firstN f n (j + 1) else f j) else 0
termination_by n - j
theorem firstN_lt {f : Nat → Int} {n j : Nat} (h : j < n) : firstN f n j = if f j = 0 then firstN f n (j + 1) else f j := by rw [firstN, if_pos h]
theorem firstN_ge {f : Nat → Int} {n j : Nat} (h : ¬ j < n) : firstN f n j = 0 := by rw [firstN, if_neg h]
/-- A sum, in words. -/
def sumN (f : Nat → Int) (n j : Nat) (a : Int) : Int := if j < n then sumN f n (j + 1) (IntKind.i64.wrap (a + f j)) else a
termination_by n - j
theorem sumN_lt {f : Nat → Int} {n j : Nat} {a : Int} (h : j < n) : sumN f n j a = sumN f n (j + 1) (IntKind.i64.wrap (a + f j)) := by rw [sumN, if_pos h]
theorem sumN_ge {f : Nat → Int} {n j : Nat} {a : Int} (h : ¬ j < n) : sumN f n j a = a := by rw [sumN, if_neg h]
/-! ### Names -/
def letB (c : Int) : Bool := decide ((97 ≤ c ∧ c ≤ 122) ∨ (65 ≤ c ∧ c ≤ 90))
def bg (s : ByteArray) (i : Nat) : Int := ((s.data.toList.getD i 0).toNat : Int)
theorem bg_fold (s : ByteArray) (i : Nat) : ((s.data.toList.getD i 0).toNat : Int) = bg s i := id rfl
def badB (c : Int) : Bool := !letB c && decide (c < 48 ∨ 57 < c) && decide (c ≠ 45) && decide (c ≠ 95) && decide (c ≠ 46)
def validB (s : ByteArray) : Bool := decide (1 ≤ s.size ∧ s.size ≤ 32) && letB (bg s 0) && decide (ixF s.size (fun j => badB (bg s j)) 0 = -1)
def S55 : List A → List C := fun ds => match ds with
  | [.c (.int _ c)] => [.bool (letB c)]
  | _ => []
theorem e55 (c : Int) : S55 [.c (.int .u8 c)] = [.bool (letB c)] := rfl
def tbl55 : FuncId → List A → List C := fun f ds => match f with
  | _ => []
theorem pc55  {x1 : Int} {row : List C} (hS : S55 [.c (.int .u8 x1)] = row) (h : vc55 (stdE Try.prog tbl55) x1 fun c => c = row) : PCg Try.prog 55 S55 [(false, [.bool])] [.c (.int .u8 x1)] := PureC_vc mo h55 (by kernel_rfl) hS (w55  h)
theorem p55 (c : Int) : PCg Try.prog 55 S55 [kB] [.c (.int .u8 c)] := by
  refine pc55 (e55 ..) ?_
  unfold vc55
  simp only [stdE, baseE, Imp_iff, letB]
  by_cases q1 : 97 ≤ c <;> by_cases q2 : c ≤ 122 <;> by_cases q3 : 65 ≤ c <;> by_cases q4 : c ≤ 90 <;> simp [q1, q2, q3, q4]
def S59 : List A → List C := fun ds => match ds with
  | [.c (.int _ c)] => [.bool (letB c)]
  | _ => []
theorem e59 (c : Int) : S59 [.c (.int .u8 c)] = [.bool (letB c)] := rfl
def tbl59 : FuncId → List A → List C := fun f ds => match f with
  | _ => []
theorem pc59  {x1 : Int} {row : List C} (hS : S59 [.c (.int .u8 x1)] = row) (h : vc59 (stdE Try.prog tbl59) x1 fun c => c = row) : PCg Try.prog 59 S59 [(false, [.bool])] [.c (.int .u8 x1)] := PureC_vc mo h59 (by kernel_rfl) hS (w59  h)
theorem p59 (c : Int) : PCg Try.prog 59 S59 [kB] [.c (.int .u8 c)] := by
  refine pc59 (e59 ..) ?_
  unfold vc59
  simp only [stdE, baseE, Imp_iff, letB]
  by_cases q1 : 97 ≤ c <;> by_cases q2 : c ≤ 122 <;> by_cases q3 : 65 ≤ c <;> by_cases q4 : c ≤ 90 <;> simp [q1, q2, q3, q4]
theorem bad_eq (c : Int) : (if (if (if (if (!letB c) = true then (if decide (c < 48) = true then true else decide (57 < c)) else false) = true then !(c == 45) else false) = true then !(c == 95) else false) = true then !(c == 46) else false) = badB c := by
  unfold badB
  cases letB c <;> by_cases q1 : c < 48 <;> by_cases q2 : 57 < c <;> by_cases q3 : c = 45 <;> by_cases q4 : c = 95 <;> by_cases q5 : c = 46 <;> simp [q1, q2, q3, q4, q5]
def S48 : List A → List C := fun ds => match ds with
  | [.c (.str s)] => [.bool (validB s)]
  | _ => []
theorem e48 (s : ByteArray) : S48 [.c (.str s)] = [.bool (validB s)] := rfl
def tbl48 : FuncId → List A → List C := fun f ds => match f with
  | 55 => S55 ds
  | _ => []
theorem pc48  {x1 : ByteArray} {row : List C} (hS : S48 [.c (.str x1)] = row) (h : vc48 (stdE Try.prog tbl48) x1 fun c => c = row) : PCg Try.prog 48 S48 [(false, [.bool])] [.c (.str x1)] := PureC_vc mo h48 (by kernel_rfl) hS (w48  h)
theorem p48 (s : ByteArray) : PCg Try.prog 48 S48 [kB] [.c (.str s)] := by
  refine pc48 (e48 ..) ?_
  unfold vc48
  simp only [stdE, baseE, Br_iff, Imp_iff, tbl48, forall_eq]
  simp only [p55, implies_true, true_and]
  simp only [bg_fold, Int.toNat_zero, e55, List.getD_cons_zero, gb_bool]
  simp only [bad_eq]
  refine ⟨fun _ => by simp, fun h => by simp at h ⊢; omega, fun h => ?_, fun h => ?_⟩
  · unfold validB
    by_cases q1 : (s.size : Int) < 1
    · simp [show ¬ (1 ≤ s.size ∧ s.size ≤ 32) by omega]
    · by_cases q2 : 32 < (s.size : Int)
      · simp [show ¬ (1 ≤ s.size ∧ s.size ≤ 32) by omega]
      · simp [q1, q2] at h
        have h' : letB (bg s 0) = false := h
        simp [h']
  · have q1 : ¬ (s.size : Int) < 1 := fun q => by simp [q] at h
    have q2 : ¬ 32 < (s.size : Int) := fun q => by simp [q1, q] at h
    have q3 : letB (bg s 0) = true := by simp [q1, q2] at h; exact h
    have hv : validB s = decide (ixF s.size (fun j => badB (bg s j)) 0 = -1) := by
      unfold validB
      rw [decide_eq_true (show 1 ≤ s.size ∧ s.size ≤ 32 by omega), q3]; simp
    rw [hv]
    refine find_loop (p := fun j => badB (bg s j)) (n := s.size) (A' := fun k => [C.bool false] = [.bool (decide (ixF s.size (fun j => badB (bg s j)) 0 = -1))]) (B := [C.bool true] = [.bool (decide (ixF s.size (fun j => badB (bg s j)) 0 = -1))]) (by omega) ?_ ?_ ?_ ?_
    · intro k K hk ha hf
      simp only [decide_eq_true_eq, decide_eq_false_iff_not, toNat_cast]
      refine ⟨fun _ => ⟨by omega, ?_, fun h => ha h, fun h => ?_⟩, fun h => by omega⟩
      · intro h1 h2
        simp only [h1, Bool.true_and]
        exact h2
      · rw [wrap_up rfl (by omega)]; exact hf h
    · intro K hB
      simp only [decide_eq_true_eq, decide_eq_false_iff_not]
      exact ⟨fun h => by omega, fun _ => hB⟩
    · intro k hk h1 h2
      rw [h1]; simp
    · intro h; rw [h]; simp
def S50 : List A → List C := fun ds => match ds with
  | [.c (.str s)] => [.bool (validB s)]
  | _ => []
theorem e50 (s : ByteArray) : S50 [.c (.str s)] = [.bool (validB s)] := rfl
def tbl50 : FuncId → List A → List C := fun f ds => match f with
  | 59 => S59 ds
  | _ => []
theorem pc50  {x1 : ByteArray} {row : List C} (hS : S50 [.c (.str x1)] = row) (h : vc50 (stdE Try.prog tbl50) x1 fun c => c = row) : PCg Try.prog 50 S50 [(false, [.bool])] [.c (.str x1)] := PureC_vc mo h50 (by kernel_rfl) hS (w50  h)
theorem p50 (s : ByteArray) : PCg Try.prog 50 S50 [kB] [.c (.str s)] := by
  refine pc50 (e50 ..) ?_
  unfold vc50
  simp only [stdE, baseE, Br_iff, Imp_iff, tbl50, forall_eq]
  simp only [p59, implies_true, true_and]
  simp only [bg_fold, Int.toNat_zero, e59, List.getD_cons_zero, gb_bool]
  simp only [bad_eq]
  refine ⟨fun _ => by simp, fun h => by simp at h ⊢; omega, fun h => ?_, fun h => ?_⟩
  · unfold validB
    by_cases q1 : (s.size : Int) < 1
    · simp [show ¬ (1 ≤ s.size ∧ s.size ≤ 32) by omega]
    · by_cases q2 : 32 < (s.size : Int)
      · simp [show ¬ (1 ≤ s.size ∧ s.size ≤ 32) by omega]
      · simp [q1, q2] at h
        have h' : letB (bg s 0) = false := h
        simp [h']
  · have q1 : ¬ (s.size : Int) < 1 := fun q => by simp [q] at h
    have q2 : ¬ 32 < (s.size : Int) := fun q => by simp [q1, q] at h
    have q3 : letB (bg s 0) = true := by simp [q1, q2] at h; exact h
    have hv : validB s = decide (ixF s.size (fun j => badB (bg s j)) 0 = -1) := by
      unfold validB
      rw [decide_eq_true (show 1 ≤ s.size ∧ s.size ≤ 32 by omega), q3]; simp
    rw [hv]
    refine find_loop (p := fun j => badB (bg s j)) (n := s.size) (A' := fun k => [C.bool false] = [.bool (decide (ixF s.size (fun j => badB (bg s j)) 0 = -1))]) (B := [C.bool true] = [.bool (decide (ixF s.size (fun j => badB (bg s j)) 0 = -1))]) (by omega) ?_ ?_ ?_ ?_
    · intro k K hk ha hf
      simp only [decide_eq_true_eq, decide_eq_false_iff_not, toNat_cast]
      refine ⟨fun _ => ⟨by omega, ?_, fun h => ha h, fun h => ?_⟩, fun h => by omega⟩
      · intro h1 h2
        simp only [h1, Bool.true_and]
        exact h2
      · rw [wrap_up rfl (by omega)]; exact hf h
    · intro K hB
      simp only [decide_eq_true_eq, decide_eq_false_iff_not]
      exact ⟨fun h => by omega, fun _ => hB⟩
    · intro k hk h1 h2
      rw [h1]; simp
    · intro h; rw [h]; simp
/-! ### Recipes -/
def gI (xs : List (List C)) (i : Nat) : Int := (cellAt xs i 0).gi
theorem gI_fold (xs : List (List C)) (i : Nat) : (cellAt xs i 0).gi = gI xs i := id rfl
def outR (m : Int) (xs : List (List C)) (j : Nat) : Bool := decide (gI xs j < 0 ∨ m < gI xs j)
def inR (m : Int) (xs : List (List C)) : Bool := decide (ixF xs.length (outR m xs) 0 = -1)
def recE (r : List (List C)) (k : Int) : Int := if ¬ (1 ≤ k ∧ k ≤ 8 ∧ r.length = k) then 17 else if inR 1000 r = false then 1 else if sumN (gI r) r.length 0 0 ≠ 1000 then 18 else 0
def S56 : List A → List C := fun ds => match ds with
  | [.c (.sl _ r), .c (.int _ k)] => [.bool (decide (1 ≤ k ∧ k ≤ 8 ∧ r.length = k))]
  | _ => []
theorem e56 (r : List (List C)) (k : Int) : S56 [sI r, iC k] = [.bool (decide (1 ≤ k ∧ k ≤ 8 ∧ r.length = k))] := rfl
def tbl56 : FuncId → List A → List C := fun f ds => match f with
  | _ => []
theorem pc56  {x1 : List (List C)} {x2 : Int} {row : List C} (hS : S56 [.c (.sl [.int .i64] x1), .c (.int .i64 x2)] = row) (h : vc56 (stdE Try.prog tbl56) x1 x2 fun c => c = row) : PCg Try.prog 56 S56 [(false, [.bool])] [.c (.sl [.int .i64] x1), .c (.int .i64 x2)] := PureC_vc mo h56 (by kernel_rfl) hS (w56  h)
theorem p56 (r : List (List C)) (k : Int) : PCg Try.prog 56 S56 [kB] [sI r, iC k] := by
  refine pc56 (e56 ..) ?_
  unfold vc56
  simp only [stdE, baseE]
  by_cases q1 : 1 ≤ k <;> by_cases q2 : k ≤ 8 <;> by_cases q3 : (r.length : Int) = k <;> simp [q1, q2, q3]
abbrev eI (n : Int) : A := .el [.int .i64] [[.int .i64 n]] 0 0
def S74 : List A → List C := fun ds => match ds with
  | [.c (.int _ n), .el _ [[.int _ m]] _ _] => [.bool (decide (0 ≤ n ∧ n ≤ m))]
  | _ => []
theorem e74 (n m : Int) : S74 [iC n, eI m] = [.bool (decide (0 ≤ n ∧ n ≤ m))] := rfl
def tbl74 : FuncId → List A → List C := fun f ds => match f with
  | _ => []
theorem pc74  {x1 : Int} {x2 : Int} {row : List C} (hS : S74 [.c (.int .i64 x1), .el [.int .i64] [[.int .i64 x2]] 0 0] = row) (h : vc74 (stdE Try.prog tbl74) x1 x2 fun c => c = row) : PCg Try.prog 74 S74 [(false, [.bool])] [.c (.int .i64 x1), .el [.int .i64] [[.int .i64 x2]] 0 0] := PureC_vc mo h74 (by kernel_rfl) hS (w74  h)
theorem p74 (n m : Int) : PCg Try.prog 74 S74 [kB] [iC n, eI m] := by
  refine pc74 (e74 ..) ?_
  unfold vc74
  simp only [stdE, baseE, show (cellAt [[C.int IntKind.i64 m]] (0 : Int).toNat 0).gi = m from rfl]
  by_cases q1 : 0 ≤ n <;> by_cases q2 : n ≤ m <;> simp [q1, q2]
def S73 : List A → List C := fun ds => match ds with
  | [.c (.sl _ xs), .fn _ [.el _ [[.int _ m]] _ _]] => [.bool (inR m xs)]
  | _ => []
theorem e73 (r : List (List C)) (m : Int) : S73 [sI r, .fn 74 [eI m]] = [.bool (inR m r)] := rfl
def tbl73 : FuncId → List A → List C := fun f ds => match f with
  | 74 => S74 ds
  | _ => []
theorem pc73  {x1 : List (List C)} {x2 : Int} {row : List C} (hS : S73 [.c (.sl [.int .i64] x1), .fn 74 [.el [.int .i64] [[.int .i64 x2]] 0 0]] = row) (h : vc73 (stdE Try.prog tbl73) x1 x2 fun c => c = row) : PCg Try.prog 73 S73 [(false, [.bool])] [.c (.sl [.int .i64] x1), .fn 74 [.el [.int .i64] [[.int .i64 x2]] 0 0]] := PureC_vc mo h73 (by kernel_rfl) hS (w73  h)
theorem p73 {r : List (List C)} (hr : r.length ≤ 1000000) (m : Int) : PCg Try.prog 73 S73 [kB] [sI r, .fn 74 [eI m]] := by
  refine pc73 (e73 ..) ?_
  unfold vc73
  simp only [stdE, baseE, Br_iff, Imp_iff, tbl73, forall_eq]
  simp only [p74, implies_true, true_and]
  simp only [e74, List.getD_cons_zero, gb_bool, gI_fold]
  refine find_loop (p := outR m r) (n := r.length) (A' := fun k => [C.bool false] = [.bool (inR m r)]) (B := [C.bool true] = [.bool (inR m r)]) (by omega) ?_ ?_ ?_ ?_
  · intro k K hk ha hf
    simp only [decide_eq_true_eq, decide_eq_false_iff_not, toNat_cast]
    unfold outR at ha hf
    simp only [decide_eq_true_eq, decide_eq_false_iff_not] at ha hf
    refine ⟨fun _ => ⟨by omega, fun h => ?_, fun h => ?_⟩, fun h => by omega⟩
    · simp at h
      exact ha (by omega)
    · simp at h
      rw [wrap_up rfl (by omega)]; exact hf (by omega)
  · intro K hB
    simp only [decide_eq_true_eq, decide_eq_false_iff_not]
    exact ⟨fun h => by omega, fun _ => hB⟩
  · intro k hk h1 h2
    unfold inR; rw [h1]; simp
  · intro h; unfold inR; rw [h]; simp
def S57 : List A → List C := fun ds => match ds with
  | [.c (.sl _ xs), .c (.int _ m)] => [.bool (inR m xs)]
  | _ => []
theorem e57 (r : List (List C)) (m : Int) : S57 [sI r, iC m] = [.bool (inR m r)] := rfl
def tbl57 : FuncId → List A → List C := fun f ds => match f with
  | 73 => S73 ds
  | _ => []
theorem pc57  {x1 : List (List C)} {x2 : Int} {row : List C} (hS : S57 [.c (.sl [.int .i64] x1), .c (.int .i64 x2)] = row) (h : vc57 (stdE Try.prog tbl57) x1 x2 fun c => c = row) : PCg Try.prog 57 S57 [(false, [.bool])] [.c (.sl [.int .i64] x1), .c (.int .i64 x2)] := PureC_vc mo h57 (by kernel_rfl) hS (w57  h)
theorem p57 {r : List (List C)} (hr : r.length ≤ 1000000) (m : Int) : PCg Try.prog 57 S57 [kB] [sI r, iC m] := by
  refine pc57 (e57 ..) ?_
  unfold vc57
  simp only [stdE, baseE, Br_iff, Imp_iff, tbl57, forall_eq]
  simp only [p73 hr, implies_true, true_and]
  simp only [e73, List.getD_cons_zero, gb_bool]
def S58 : List A → List C := fun ds => match ds with
  | [.c (.sl _ xs)] => [.int .i64 (sumN (gI xs) xs.length 0 0)]
  | _ => []
theorem e58 (r : List (List C)) : S58 [sI r] = [.int .i64 (sumN (gI r) r.length 0 0)] := rfl
def tbl58 : FuncId → List A → List C := fun f ds => match f with
  | _ => []
theorem pc58  {x1 : List (List C)} {row : List C} (hS : S58 [.c (.sl [.int .i64] x1)] = row) (h : vc58 (stdE Try.prog tbl58) x1 fun c => c = row) : PCg Try.prog 58 S58 [(false, [.int .i64])] [.c (.sl [.int .i64] x1)] := PureC_vc mo h58 (by kernel_rfl) hS (w58  h)
theorem p58 {r : List (List C)} (hr : r.length ≤ 1000000) : PCg Try.prog 58 S58 [kI] [sI r] := by
  refine pc58 (e58 ..) ?_
  unfold vc58
  simp only [stdE, baseE, Br_iff, Imp_iff, tbl58, forall_eq, gI_fold]
  refine LoopP2.run (fun p : Int × Nat => p.1) (fun p => (p.2 : Int)) (fun p => p.2 ≤ r.length ∧ sumN (gI r) r.length p.2 p.1 = sumN (gI r) r.length 0 0) (fun p => r.length - p.2) (0, 0) ⟨Nat.zero_le _, rfl⟩ rfl rfl ?_
  rintro ⟨a, k⟩ ⟨hk, hs⟩ K hK
  dsimp only at hk hs ⊢
  simp only [decide_eq_true_eq, decide_eq_false_iff_not, toNat_cast]
  refine ⟨fun h => ⟨by omega, hK _ _ (IntKind.i64.wrap (a + gI r k), k + 1) ⟨by dsimp only; omega, ?_⟩ (by dsimp only; omega) rfl (wrap_up rfl (by omega))⟩, fun h => ?_⟩
  · rw [← hs, sumN_lt (show k < r.length by omega)]
  · rw [← hs, sumN_ge (by omega)]
def S61 : List A → List C := fun ds => match ds with
  | [.c (.sl _ xs)] => [.int .i64 (sumN (gI xs) xs.length 0 0)]
  | _ => []
theorem e61 (r : List (List C)) : S61 [sI r] = [.int .i64 (sumN (gI r) r.length 0 0)] := rfl
def tbl61 : FuncId → List A → List C := fun f ds => match f with
  | _ => []
theorem pc61  {x1 : List (List C)} {row : List C} (hS : S61 [.c (.sl [.int .i64] x1)] = row) (h : vc61 (stdE Try.prog tbl61) x1 fun c => c = row) : PCg Try.prog 61 S61 [(false, [.int .i64])] [.c (.sl [.int .i64] x1)] := PureC_vc mo h61 (by kernel_rfl) hS (w61  h)
theorem p61 {r : List (List C)} (hr : r.length ≤ 1000000) : PCg Try.prog 61 S61 [kI] [sI r] := by
  refine pc61 (e61 ..) ?_
  unfold vc61
  simp only [stdE, baseE, Br_iff, Imp_iff, tbl61, forall_eq, gI_fold]
  refine LoopP2.run (fun p : Int × Nat => p.1) (fun p => (p.2 : Int)) (fun p => p.2 ≤ r.length ∧ sumN (gI r) r.length p.2 p.1 = sumN (gI r) r.length 0 0) (fun p => r.length - p.2) (0, 0) ⟨Nat.zero_le _, rfl⟩ rfl rfl ?_
  rintro ⟨a, k⟩ ⟨hk, hs⟩ K hK
  dsimp only at hk hs ⊢
  simp only [decide_eq_true_eq, decide_eq_false_iff_not, toNat_cast]
  refine ⟨fun h => ⟨by omega, hK _ _ (IntKind.i64.wrap (a + gI r k), k + 1) ⟨by dsimp only; omega, ?_⟩ (by dsimp only; omega) rfl (wrap_up rfl (by omega))⟩, fun h => ?_⟩
  · rw [← hs, sumN_lt (show k < r.length by omega)]
  · rw [← hs, sumN_ge (by omega)]
def S49 : List A → List C := fun ds => match ds with
  | [.c (.sl _ xs), .c (.int _ k)] => [.int .i64 (recE xs k)]
  | _ => []
theorem e49 (r : List (List C)) (k : Int) : S49 [sI r, iC k] = [.int .i64 (recE r k)] := rfl
def tbl49 : FuncId → List A → List C := fun f ds => match f with
  | 56 => S56 ds
  | 57 => S57 ds
  | 58 => S58 ds
  | _ => []
theorem pc49  {x1 : List (List C)} {x2 : Int} {row : List C} (hS : S49 [.c (.sl [.int .i64] x1), .c (.int .i64 x2)] = row) (h : vc49 (stdE Try.prog tbl49) x1 x2 fun c => c = row) : PCg Try.prog 49 S49 [(false, [.int .i64])] [.c (.sl [.int .i64] x1), .c (.int .i64 x2)] := PureC_vc mo h49 (by kernel_rfl) hS (w49  h)
theorem p49 {r : List (List C)} (hr : r.length ≤ 1000000) (k : Int) : PCg Try.prog 49 S49 [kI] [sI r, iC k] := by
  refine pc49 (e49 ..) ?_
  unfold vc49
  simp only [stdE, baseE, Br_iff, Imp_iff, tbl49, forall_eq]
  simp only [p56, p57 hr, p58 hr, implies_true, true_and]
  simp only [e56, e57, e58, List.getD_cons_zero, gb_bool, gi_int]
  simp only [Bool.not_eq_true', Bool.not_eq_false', decide_eq_true_eq, decide_eq_false_iff_not, beq_iff_eq, beq_eq_false_iff_ne, ne_eq]
  refine ⟨fun h => ?_, fun h => ⟨fun h2 => ?_, fun h2 => ⟨fun h3 => ?_, fun h3 => ?_⟩⟩⟩
  · simp [recE, h]
  · simp [recE, h, h2]
  · simp [recE, h, h2, h3]
  · simp [recE, h, h2, h3]
def S60 : List A → List C := fun ds => match ds with
  | [.c (.sl _ r), .c (.int _ k), .c (.int _ m)] => [.int .i64 (if ¬ (1 ≤ k ∧ k ≤ 8 ∧ r.length = k) then 17 else if inR m r = false then 1 else 0)]
  | _ => []
theorem e60 (r : List (List C)) (k m : Int) : S60 [sI r, iC k, iC m] = [.int .i64 (if ¬ (1 ≤ k ∧ k ≤ 8 ∧ r.length = k) then 17 else if inR m r = false then 1 else 0)] := rfl
def tbl60 : FuncId → List A → List C := fun f ds => match f with
  | _ => []
theorem pc60  {x1 : List (List C)} {x2 : Int} {x3 : Int} {row : List C} (hS : S60 [.c (.sl [.int .i64] x1), .c (.int .i64 x2), .c (.int .i64 x3)] = row) (h : vc60 (stdE Try.prog tbl60) x1 x2 x3 fun c => c = row) : PCg Try.prog 60 S60 [(false, [.int .i64])] [.c (.sl [.int .i64] x1), .c (.int .i64 x2), .c (.int .i64 x3)] := PureC_vc mo h60 (by kernel_rfl) hS (w60  h)
theorem p60 {r : List (List C)} (hr : r.length ≤ 1000000) (k m : Int) : PCg Try.prog 60 S60 [kI] [sI r, iC k, iC m] := by
  refine pc60 (e60 ..) ?_
  unfold vc60
  simp only [stdE, baseE, Br_iff, Imp_iff, tbl60, forall_eq, gI_fold]
  have key : (if (if decide (k < 1) = true then true else decide (8 < k)) = true then true else !((r.length : Int) == k)) = !decide (1 ≤ k ∧ k ≤ 8 ∧ r.length = k) := by
    by_cases q1 : k < 1 <;> by_cases q2 : 8 < k <;> by_cases q3 : (r.length : Int) = k <;> simp [q1, q2, q3] <;> omega
  simp only [key]
  simp only [Bool.not_eq_true', Bool.not_eq_false', decide_eq_true_eq, decide_eq_false_iff_not]
  refine ⟨fun h => by rw [if_pos h], fun h => ?_⟩
  rw [if_neg (fun q => q h)]
  refine find_loop (p := outR m r) (n := r.length) (A' := fun k => [C.int .i64 1] = [.int .i64 (if inR m r = false then 1 else 0)]) (B := [C.int .i64 0] = [.int .i64 (if inR m r = false then 1 else 0)]) (by omega) ?_ ?_ ?_ ?_
  · intro k K hk ha hf
    simp only [toNat_cast]
    unfold outR at ha hf
    simp only [decide_eq_true_eq, decide_eq_false_iff_not] at ha hf
    refine ⟨fun _ => ⟨by omega, fun h => ?_, fun h => ?_⟩, fun h => by omega⟩
    · refine ha ?_
      by_cases q1 : gI r k < 0
      · exact .inl q1
      · simp [q1] at h; exact .inr h
    · rw [wrap_up rfl (by omega)]
      refine hf ?_
      by_cases q1 : gI r k < 0
      · simp [q1] at h
      · simp [q1] at h; omega
  · intro K hB
    exact ⟨fun h => by omega, fun _ => hB⟩
  · intro k hk h1 h2
    have : inR m r = false := by unfold inR; rw [h1]; simp
    rw [if_pos this]
  · intro h
    have : inR m r = true := by unfold inR; rw [h]; simp
    rw [if_neg (by simp [this])]
def S51 : List A → List C := fun ds => match ds with
  | [.c (.sl _ xs), .c (.int _ k)] => [.int .i64 (recE xs k)]
  | _ => []
theorem e51 (r : List (List C)) (k : Int) : S51 [sI r, iC k] = [.int .i64 (recE r k)] := rfl
def tbl51 : FuncId → List A → List C := fun f ds => match f with
  | 60 => S60 ds
  | 61 => S61 ds
  | _ => []
theorem pc51  {x1 : List (List C)} {x2 : Int} {row : List C} (hS : S51 [.c (.sl [.int .i64] x1), .c (.int .i64 x2)] = row) (h : vc51 (stdE Try.prog tbl51) x1 x2 fun c => c = row) : PCg Try.prog 51 S51 [(false, [.int .i64])] [.c (.sl [.int .i64] x1), .c (.int .i64 x2)] := PureC_vc mo h51 (by kernel_rfl) hS (w51  h)
theorem p51 {r : List (List C)} (hr : r.length ≤ 1000000) (k : Int) : PCg Try.prog 51 S51 [kI] [sI r, iC k] := by
  refine pc51 (e51 ..) ?_
  unfold vc51
  simp only [stdE, baseE, Br_iff, Imp_iff, tbl51, forall_eq]
  simp only [p60 hr, p61 hr, implies_true, true_and]
  simp only [e60, e61, List.getD_cons_zero, gb_bool, gi_int]
  simp only [Bool.not_eq_true', Bool.not_eq_false', decide_eq_true_eq, decide_eq_false_iff_not, beq_iff_eq, beq_eq_false_iff_ne, ne_eq]
  unfold recE
  by_cases h : 1 ≤ k ∧ k ≤ 8 ∧ (r.length : Int) = k
  · simp only [h, not_true_eq_false, if_false]
    cases h2 : inR 1000 r
    · simp
    · by_cases h3 : sumN (gI r) r.length 0 0 = 1000 <;> simp [h3]
  · simp [h]
end Go.Proofs.Ytljnpioekbdcaaa.V
