/- Grades: what is said of checking and finding them. No conditions. -/
import Derived.Test.YtljnpioekbdcaaaChk
import Derived.Test.YtljnpioekbdcaaaCmpLaw
set_option linter.unusedVariables false
set_option linter.unusedSimpArgs false
namespace Go.Proofs.Ytljnpioekbdcaaa.V
open Go Go.Eng
set_option maxRecDepth 1000000
set_option maxHeartbeats 1000000
/-! ### One grade -/
def badG (b bt m mt c : Int) : Bool := decide (b < 1 ∨ 1000000 < b ∨ bt < 0 ∨ b < bt ∨ m < 0 ∨ 2000 < m ∨ mt < 0 ∨ m < mt ∨ c < 1 ∨ 5000 < c)
def oneE (n : ByteArray) (b bt m mt c : Int) (r : List (List C)) (p k : Int) : Int :=
  if validB n = false then 5 else if badG b bt m mt c = true then 1 else if recE r k ≠ 0 then recE r k else if p < 0 ∨ 1000000000 < p then 1 else 0
def S30 : List A → List C := fun ds => match ds with
  | [.agg [.c (.str n), .c (.int _ b), .c (.int _ bt), .c (.int _ m), .c (.int _ mt), .c (.int _ c), .c (.sl _ r), .c (.int _ p)], .c (.int _ k)] => [.int .i64 (oneE n b bt m mt c r p k)]
  | _ => []
theorem e30 (n : ByteArray) (b bt m mt c : Int) (r : List (List C)) (p k : Int) : S30 [gA n b bt m mt c r p, iC k] = [.int .i64 (oneE n b bt m mt c r p k)] := rfl
def tbl30 : FuncId → List A → List C := fun f ds => match f with
  | 29 => S29 ds
  | 48 => S48 ds
  | 49 => S49 ds
  | _ => []
theorem pc30  {x1 : ByteArray} {x2 : Int} {x3 : Int} {x4 : Int} {x5 : Int} {x6 : Int} {x7 : List (List C)} {x8 : Int} {x9 : Int} {row : List C} (hS : S30 [.agg [.c (.str x1), .c (.int .i64 x2), .c (.int .i64 x3), .c (.int .i64 x4), .c (.int .i64 x5), .c (.int .i64 x6), .c (.sl [.int .i64] x7), .c (.int .i64 x8)], .c (.int .i64 x9)] = row) (h : vc30 (stdE Try.prog tbl30) x1 x2 x3 x4 x5 x6 x7 x8 x9 fun c => c = row) : PCg Try.prog 30 S30 [(false, [.int .i64])] [.agg [.c (.str x1), .c (.int .i64 x2), .c (.int .i64 x3), .c (.int .i64 x4), .c (.int .i64 x5), .c (.int .i64 x6), .c (.sl [.int .i64] x7), .c (.int .i64 x8)], .c (.int .i64 x9)] := PureC_vc mo h30 (by kernel_rfl) hS (w30  h)
theorem p30 (n : ByteArray) (b bt m mt c : Int) {r : List (List C)} (hr : r.length ≤ 1000000) (p k : Int) : PCg Try.prog 30 S30 [kI] [gA n b bt m mt c r p, iC k] := by
  refine pc30 (e30 ..) ?_
  unfold vc30
  simp only [stdE, baseE, Br_iff, Imp_iff, tbl30, forall_eq]
  simp only [p48, p29, p49 hr, implies_true, true_and]
  simp only [e48, e29, e49, List.getD_cons_zero, gb_bool, gi_int]
  have key : (if (if (if (if (!decide (1 ≤ b ∧ b ≤ 1000000)) = true then true else !decide (0 ≤ bt ∧ bt ≤ b)) = true then true else !decide (0 ≤ m ∧ m ≤ 2000)) = true then true else !decide (0 ≤ mt ∧ mt ≤ m)) = true then true else !decide (1 ≤ c ∧ c ≤ 5000)) = badG b bt m mt c := by
    unfold badG
    by_cases q1 : 1 ≤ b ∧ b ≤ 1000000 <;> by_cases q2 : 0 ≤ bt ∧ bt ≤ b <;> by_cases q3 : 0 ≤ m ∧ m ≤ 2000 <;> by_cases q4 : 0 ≤ mt ∧ mt ≤ m <;> by_cases q5 : 1 ≤ c ∧ c ≤ 5000 <;> simp [q1, q2, q3, q4, q5] <;> omega
  simp only [key]
  simp only [Bool.not_eq_true', Bool.not_eq_false', decide_eq_true_eq, decide_eq_false_iff_not, beq_iff_eq, beq_eq_false_iff_ne, ne_eq]
  refine ⟨fun h => ?_, fun h => ⟨fun h2 => ?_, fun h2 => ⟨fun h3 => ?_, fun h3 => ⟨fun h4 => ?_, fun h4 => ?_⟩⟩⟩⟩
  · simp [oneE, h]
  · simp [oneE, h, h2]
  · simp [oneE, h, h2, h3]
  · rw [oneE, if_neg (by simp [h]), if_neg (by simp [h2]), if_neg (by simp [h3]), if_pos (by omega)]
  · rw [oneE, if_neg (by simp [h]), if_neg (by simp [h2]), if_neg (by simp [h3]), if_neg (by omega)]
def S31 : List A → List C := fun ds => match ds with
  | [.agg [.c (.str n), .c (.int _ b), .c (.int _ bt), .c (.int _ m), .c (.int _ mt), .c (.int _ c), .c (.sl _ r), .c (.int _ p)], .c (.int _ k)] => [.int .i64 (oneE n b bt m mt c r p k)]
  | _ => []
theorem e31 (n : ByteArray) (b bt m mt c : Int) (r : List (List C)) (p k : Int) : S31 [gA n b bt m mt c r p, iC k] = [.int .i64 (oneE n b bt m mt c r p k)] := rfl
def tbl31 : FuncId → List A → List C := fun f ds => match f with
  | 50 => S50 ds
  | 51 => S51 ds
  | _ => []
theorem pc31  {x1 : ByteArray} {x2 : Int} {x3 : Int} {x4 : Int} {x5 : Int} {x6 : Int} {x7 : List (List C)} {x8 : Int} {x9 : Int} {row : List C} (hS : S31 [.agg [.c (.str x1), .c (.int .i64 x2), .c (.int .i64 x3), .c (.int .i64 x4), .c (.int .i64 x5), .c (.int .i64 x6), .c (.sl [.int .i64] x7), .c (.int .i64 x8)], .c (.int .i64 x9)] = row) (h : vc31 (stdE Try.prog tbl31) x1 x2 x3 x4 x5 x6 x7 x8 x9 fun c => c = row) : PCg Try.prog 31 S31 [(false, [.int .i64])] [.agg [.c (.str x1), .c (.int .i64 x2), .c (.int .i64 x3), .c (.int .i64 x4), .c (.int .i64 x5), .c (.int .i64 x6), .c (.sl [.int .i64] x7), .c (.int .i64 x8)], .c (.int .i64 x9)] := PureC_vc mo h31 (by kernel_rfl) hS (w31  h)
theorem p31 (n : ByteArray) (b bt m mt c : Int) {r : List (List C)} (hr : r.length ≤ 1000000) (p k : Int) : PCg Try.prog 31 S31 [kI] [gA n b bt m mt c r p, iC k] := by
  refine pc31 (e31 ..) ?_
  unfold vc31
  simp only [stdE, baseE, Br_iff, Imp_iff, tbl31, forall_eq]
  simp only [p50, p51 hr, implies_true, true_and]
  simp only [e50, e51, List.getD_cons_zero, gb_bool, gi_int]
  have key1 : (if (if (if decide (b < 1) = true then true else decide (1000000 < b)) = true then true else decide (bt < 0)) = true then true else decide (b < bt)) = decide (b < 1 ∨ 1000000 < b ∨ bt < 0 ∨ b < bt) := by
    by_cases q1 : b < 1 <;> by_cases q2 : 1000000 < b <;> by_cases q3 : bt < 0 <;> by_cases q4 : b < bt <;> simp [q1, q2, q3, q4]
  have key2 : (if (if (if (if (if decide (m < 0) = true then true else decide (2000 < m)) = true then true else decide (mt < 0)) = true then true else decide (m < mt)) = true then true else decide (c < 1)) = true then true else decide (5000 < c)) = decide (m < 0 ∨ 2000 < m ∨ mt < 0 ∨ m < mt ∨ c < 1 ∨ 5000 < c) := by
    by_cases q1 : m < 0 <;> by_cases q2 : 2000 < m <;> by_cases q3 : mt < 0 <;> by_cases q4 : m < mt <;> by_cases q5 : c < 1 <;> by_cases q6 : 5000 < c <;> simp [q1, q2, q3, q4, q5, q6]
  have key3 : (if decide (p < 0) = true then true else decide (1000000000 < p)) = decide (p < 0 ∨ 1000000000 < p) := by
    by_cases q1 : p < 0 <;> by_cases q2 : 1000000000 < p <;> simp [q1, q2]
  simp only [key1, key2, key3]
  simp only [Bool.not_eq_true', Bool.not_eq_false', decide_eq_true_eq, decide_eq_false_iff_not, beq_iff_eq, beq_eq_false_iff_ne, ne_eq]
  refine ⟨fun h => ?_, fun h => ⟨fun h2 => ?_, fun h2 => ⟨fun h2' => ?_, fun h2' => ⟨fun h3 => ?_, fun h3 => ⟨fun h4 => ?_, fun h4 => ?_⟩⟩⟩⟩⟩
  · simp [oneE, h]
  · rw [oneE, if_neg (by simp [h]), if_pos (by unfold badG; exact decide_eq_true (by omega))]
  · rw [oneE, if_neg (by simp [h]), if_pos (by unfold badG; exact decide_eq_true (by omega))]
  · rw [oneE, if_neg (by simp [h]), if_neg (by unfold badG; rw [decide_eq_false (by omega)]; simp), if_pos (by simp [h3])]
  · rw [oneE, if_neg (by simp [h]), if_neg (by unfold badG; rw [decide_eq_false (by omega)]; simp), if_neg (by simp [h3]), if_pos h4]
  · rw [oneE, if_neg (by simp [h]), if_neg (by unfold badG; rw [decide_eq_false (by omega)]; simp), if_neg (by simp [h3]), if_neg h4]
/-! ### Found -/
def nm (xs : List (List C)) (i : Nat) : ByteArray := (cellAt xs i 0).gs
theorem nm_fold (xs : List (List C)) (i : Nat) : (cellAt xs i 0).gs = nm xs i := id rfl
def fnd (xs : List (List C)) (s : ByteArray) : Int := ixF xs.length (fun j => (nm xs j).toList == s.toList) 0
theorem fnd_spec (xs : List (List C)) (s : ByteArray) : (fnd xs s = -1 ∧ ∀ m, m < xs.length → ((nm xs m).toList == s.toList) = false) ∨ ∃ m, m < xs.length ∧ fnd xs s = m ∧ ((nm xs m).toList == s.toList) = true ∧ ∀ q, q < m → ((nm xs q).toList == s.toList) = false := by
  rcases ixF_spec xs.length (fun j => (nm xs j).toList == s.toList) _ 0 rfl with ⟨h1, h2⟩ | ⟨m, _, h2, h3, h4, h5⟩
  · exact .inl ⟨h1, fun m h => h2 m (Nat.zero_le _) h⟩
  · exact .inr ⟨m, h2, h3, h4, fun q h => h5 q (Nat.zero_le _) h⟩
abbrev eS (s : ByteArray) : A := .el [.str] [[.str s]] 0 0
def S33 : List A → List C := fun ds => match ds with
  | [.agg [.c (.str n), _, _, _, _, _, _, _], .el _ [[.str s]] _ _] => [.bool (n.toList == s.toList)]
  | _ => []
theorem e33 (n : ByteArray) (b bt m mt c : Int) (r : List (List C)) (p : Int) (s : ByteArray) : S33 [gA n b bt m mt c r p, eS s] = [.bool (n.toList == s.toList)] := rfl
def tbl33 : FuncId → List A → List C := fun f ds => match f with
  | _ => []
theorem pc33  {x1 : ByteArray} {x2 : Int} {x3 : Int} {x4 : Int} {x5 : Int} {x6 : Int} {x7 : List (List C)} {x8 : Int} {x9 : ByteArray} {row : List C} (hS : S33 [.agg [.c (.str x1), .c (.int .i64 x2), .c (.int .i64 x3), .c (.int .i64 x4), .c (.int .i64 x5), .c (.int .i64 x6), .c (.sl [.int .i64] x7), .c (.int .i64 x8)], .el [.str] [[.str x9]] 0 0] = row) (h : vc33 (stdE Try.prog tbl33) x1 x2 x3 x4 x5 x6 x7 x8 x9 fun c => c = row) : PCg Try.prog 33 S33 [(false, [.bool])] [.agg [.c (.str x1), .c (.int .i64 x2), .c (.int .i64 x3), .c (.int .i64 x4), .c (.int .i64 x5), .c (.int .i64 x6), .c (.sl [.int .i64] x7), .c (.int .i64 x8)], .el [.str] [[.str x9]] 0 0] := PureC_vc mo h33 (by kernel_rfl) hS (w33  h)
theorem p33 (n : ByteArray) (b bt m mt c : Int) (r : List (List C)) (p : Int) (s : ByteArray) : PCg Try.prog 33 S33 [kB] [gA n b bt m mt c r p, eS s] := by
  refine pc33 (e33 ..) ?_
  unfold vc33
  simp only [stdE, baseE]
  rfl
def S32 : List A → List C := fun ds => match ds with
  | [.c (.sl _ xs), .fn _ [.el _ [[.str s]] _ _]] => [.int .i64 (fnd xs s)]
  | _ => []
theorem e32 (xs : List (List C)) (s : ByteArray) : S32 [sG xs, .fn 33 [eS s]] = [.int .i64 (fnd xs s)] := rfl
def tbl32 : FuncId → List A → List C := fun f ds => match f with
  | 33 => S33 ds
  | _ => []
theorem pc32  {x1 : List (List C)} {x2 : ByteArray} {row : List C} (hS : S32 [.c (.sl [.str, .int .i64, .int .i64, .int .i64, .int .i64, .int .i64, .sl [.int .i64], .int .i64] x1), .fn 33 [.el [.str] [[.str x2]] 0 0]] = row) (h : vc32 (stdE Try.prog tbl32) x1 x2 fun c => c = row) : PCg Try.prog 32 S32 [(false, [.int .i64])] [.c (.sl [.str, .int .i64, .int .i64, .int .i64, .int .i64, .int .i64, .sl [.int .i64], .int .i64] x1), .fn 33 [.el [.str] [[.str x2]] 0 0]] := PureC_vc mo h32 (by kernel_rfl) hS (w32  h)
theorem p32 {xs : List (List C)} (hx : xs.length ≤ 1000000) (s : ByteArray) : PCg Try.prog 32 S32 [kI] [sG xs, .fn 33 [eS s]] := by
  refine pc32 (e32 ..) ?_
  unfold vc32
  simp only [stdE, baseE, Br_iff, Imp_iff, tbl32, forall_eq]
  simp only [p33, implies_true, true_and]
  simp only [e33, List.getD_cons_zero, gb_bool, nm_fold]
  refine find_loop (p := fun j => (nm xs j).toList == s.toList) (n := xs.length) (A' := fun k => [C.int .i64 (k : Int)] = [.int .i64 (fnd xs s)]) (B := [C.int .i64 (-1)] = [.int .i64 (fnd xs s)]) (by omega) ?_ ?_ ?_ ?_
  · intro k K hk ha hf
    simp only [decide_eq_true_eq, decide_eq_false_iff_not, toNat_cast]
    refine ⟨fun _ => ⟨by omega, fun h => ha h, fun h => ?_⟩, fun h => by omega⟩
    rw [wrap_up rfl (by omega)]; exact hf h
  · intro K hB
    simp only [decide_eq_true_eq, decide_eq_false_iff_not]
    exact ⟨fun h => by omega, fun _ => hB⟩
  · intro k hk h1 h2
    unfold fnd; rw [h1]
  · intro h; unfold fnd; rw [h]
def fndR (xs : List (List C)) (s : ByteArray) : List C := [.int .i64 (if fnd xs s < 0 then 0 else fnd xs s), .bool (decide (0 ≤ fnd xs s))]
def S14 : List A → List C := fun ds => match ds with
  | [.c (.sl _ xs), .c (.str s)] => fndR xs s
  | _ => []
theorem e14 (xs : List (List C)) (s : ByteArray) : S14 [sG xs, .c (.str s)] = fndR xs s := rfl
def tbl14 : FuncId → List A → List C := fun f ds => match f with
  | 32 => S32 ds
  | _ => []
theorem pc14  {x1 : List (List C)} {x2 : ByteArray} {row : List C} (hS : S14 [.c (.sl [.str, .int .i64, .int .i64, .int .i64, .int .i64, .int .i64, .sl [.int .i64], .int .i64] x1), .c (.str x2)] = row) (h : vc14 (stdE Try.prog tbl14) x1 x2 fun c => c = row) : PCg Try.prog 14 S14 [(false, [.int .i64]), (false, [.bool])] [.c (.sl [.str, .int .i64, .int .i64, .int .i64, .int .i64, .int .i64, .sl [.int .i64], .int .i64] x1), .c (.str x2)] := PureC_vc mo h14 (by kernel_rfl) hS (w14  h)
theorem p14 {xs : List (List C)} (hx : xs.length ≤ 1000000) (s : ByteArray) : PCg Try.prog 14 S14 [kI, kB] [sG xs, .c (.str s)] := by
  refine pc14 (e14 ..) ?_
  unfold vc14
  simp only [stdE, baseE, Br_iff, Imp_iff, tbl14, forall_eq]
  simp only [p32 hx, implies_true, true_and]
  simp only [e32, List.getD_cons_zero, gi_int, fndR]
def S15 : List A → List C := fun ds => match ds with
  | [.c (.sl _ xs), .c (.str s)] => fndR xs s
  | _ => []
theorem e15 (xs : List (List C)) (s : ByteArray) : S15 [sG xs, .c (.str s)] = fndR xs s := rfl
def tbl15 : FuncId → List A → List C := fun f ds => match f with
  | _ => []
theorem pc15  {x1 : List (List C)} {x2 : ByteArray} {row : List C} (hS : S15 [.c (.sl [.str, .int .i64, .int .i64, .int .i64, .int .i64, .int .i64, .sl [.int .i64], .int .i64] x1), .c (.str x2)] = row) (h : vc15 (stdE Try.prog tbl15) x1 x2 fun c => c = row) : PCg Try.prog 15 S15 [(false, [.int .i64]), (false, [.bool])] [.c (.sl [.str, .int .i64, .int .i64, .int .i64, .int .i64, .int .i64, .sl [.int .i64], .int .i64] x1), .c (.str x2)] := PureC_vc mo h15 (by kernel_rfl) hS (w15  h)
theorem p15 {xs : List (List C)} (hx : xs.length ≤ 1000000) (s : ByteArray) : PCg Try.prog 15 S15 [kI, kB] [sG xs, .c (.str s)] := by
  refine pc15 (e15 ..) ?_
  unfold vc15
  simp only [stdE, baseE, Br_iff, Imp_iff, tbl15, forall_eq, nm_fold]
  refine find_loop (p := fun j => (nm xs j).toList == s.toList) (n := xs.length) (A' := fun k => [C.int .i64 (k : Int), .bool true] = fndR xs s) (B := [C.int .i64 0, .bool false] = fndR xs s) (by omega) ?_ ?_ ?_ ?_
  · intro k K hk ha hf
    simp only [decide_eq_true_eq, decide_eq_false_iff_not, toNat_cast]
    refine ⟨fun _ => ⟨by omega, fun h => ha h, fun h => ?_⟩, fun h => by omega⟩
    rw [wrap_up rfl (by omega)]; exact hf h
  · intro K hB
    simp only [decide_eq_true_eq, decide_eq_false_iff_not]
    exact ⟨fun h => by omega, fun _ => hB⟩
  · intro k hk h1 h2
    unfold fndR fnd; rw [h1, if_neg (by omega)]; simp
  · intro h; unfold fndR fnd; rw [h]; rfl
/-! ### All of them -/
abbrev gR (xs : List (List C)) (i : Nat) : A := gA (cellAt xs i 0).gs (cellAt xs i 1).gi (cellAt xs i 2).gi (cellAt xs i 3).gi (cellAt xs i 4).gi (cellAt xs i 5).gi (cellAt xs i 6).gl (cellAt xs i 7).gi
def oneN (xs : List (List C)) (k : Int) (i : Nat) : Int := oneE (cellAt xs i 0).gs (cellAt xs i 1).gi (cellAt xs i 2).gi (cellAt xs i 3).gi (cellAt xs i 4).gi (cellAt xs i 5).gi (cellAt xs i 6).gl (cellAt xs i 7).gi k
def twB (xs : List (List C)) (i : Nat) : Bool := decide (fnd xs (nm xs i) ≠ i)
theorem fnd_own {xs : List (List C)} {i : Nat} (h : i < xs.length) : 0 ≤ fnd xs (nm xs i) ∧ fnd xs (nm xs i) ≤ i := by
  rcases fnd_spec xs (nm xs i) with ⟨_, h2⟩ | ⟨m, h1, h2, h3, h4⟩
  · have := h2 i h; simp at this
  · rw [h2]
    refine ⟨by omega, ?_⟩
    by_cases q : i < m
    · have := h4 i q; simp at this
    · omega
def chkE (xs : List (List C)) (k : Int) : Int :=
  if ¬ (1 ≤ k ∧ k ≤ 8) then 17 else if xs.length = 0 then 10 else if 16 < xs.length then 8 else if firstN (oneN xs k) xs.length 0 ≠ 0 then firstN (oneN xs k) xs.length 0 else if ixF xs.length (twB xs) 0 = -1 then 0 else 6
/-- The recipes are not long. -/
def recsB (xs : List (List C)) : Prop := ∀ i, i < xs.length → (cellAt xs i 6).gl.length ≤ 1000000
/-- A loop that looks for the first error. -/
theorem first_loop {n : Nat} {f : Nat → Int} {B : Prop} {A' : Int → Prop} {b : Int → (Int → Prop) → Prop} (hn : n ≤ 9223372036854775806) (hb : ∀ (k : Nat) (K : Int → Prop), k < n → (f k ≠ 0 → A' (f k)) → (f k = 0 → K ((k + 1 : Nat) : Int)) → b k K)
    (he : ∀ K : Int → Prop, B → b n K) (ha : firstN f n 0 ≠ 0 → A' (firstN f n 0)) (hB : firstN f n 0 = 0 → B) : LoopP1 b 0 := by
  refine LoopP1.run (fun k : Nat => (k : Int)) (fun k => k ≤ n ∧ firstN f n k = firstN f n 0) (fun k => n - k) 0 ⟨Nat.zero_le _, rfl⟩ rfl ?_
  rintro k ⟨hk, hf⟩ K hK
  by_cases h : k < n
  · have e := firstN_lt (f := f) h
    refine hb k K h (fun hp => ?_) fun hp => hK _ (k + 1) ⟨by omega, ?_⟩ (by omega) rfl
    · rw [if_neg hp] at e
      rw [hf] at e
      have := ha (by rw [e]; exact hp)
      rw [e] at this; exact this
    · rw [← hf, e, if_pos hp]
  · have hk : k = n := by omega
    subst hk
    exact he K (hB (by rw [← hf, firstN_ge (by omega)]))
def S12 : List A → List C := fun ds => match ds with
  | [.c (.sl _ xs), .c (.int _ k)] => [.int .i64 (chkE xs k)]
  | _ => []
theorem e12 (xs : List (List C)) (k : Int) : S12 [sG xs, iC k] = [.int .i64 (chkE xs k)] := rfl
def tbl12 : FuncId → List A → List C := fun f ds => match f with
  | 14 => S14 ds
  | 29 => S29 ds
  | 30 => S30 ds
  | _ => []
theorem pc12  {x1 : List (List C)} {x2 : Int} {row : List C} (hS : S12 [.c (.sl [.str, .int .i64, .int .i64, .int .i64, .int .i64, .int .i64, .sl [.int .i64], .int .i64] x1), .c (.int .i64 x2)] = row) (h : vc12 (stdE Try.prog tbl12) x1 x2 fun c => c = row) : PCg Try.prog 12 S12 [(false, [.int .i64])] [.c (.sl [.str, .int .i64, .int .i64, .int .i64, .int .i64, .int .i64, .sl [.int .i64], .int .i64] x1), .c (.int .i64 x2)] := PureC_vc mo h12 (by kernel_rfl) hS (w12  h)
theorem p12 {xs : List (List C)} (hx : recsB xs) (k : Int) : PCg Try.prog 12 S12 [kI] [sG xs, iC k] := by
  refine pc12 (e12 ..) ?_
  unfold vc12
  simp only [stdE, baseE, Br_iff, Imp_iff, tbl12, forall_eq]
  simp only [p29, implies_true, true_and]
  simp only [e29, List.getD_cons_zero, gb_bool]
  simp only [Bool.not_eq_true', Bool.not_eq_false', decide_eq_true_eq, decide_eq_false_iff_not, beq_iff_eq, beq_eq_false_iff_ne, ne_eq]
  refine ⟨fun h => ?_, fun h => ⟨fun h2 => ?_, fun h2 => ⟨fun h3 => ?_, fun h3 => ?_⟩⟩⟩
  · rw [chkE, if_pos h]
  · rw [chkE, if_neg (by simpa using h), if_pos (by omega)]
  · rw [chkE, if_neg (by simpa using h), if_neg (by omega), if_pos (by omega)]
  have hl : xs.length ≤ 16 := by omega
  have hc : chkE xs k = if firstN (oneN xs k) xs.length 0 ≠ 0 then firstN (oneN xs k) xs.length 0 else if ixF xs.length (twB xs) 0 = -1 then 0 else 6 := by
    rw [chkE, if_neg (by simpa using h), if_neg (by omega), if_neg (by omega)]
  refine first_loop (f := oneN xs k) (n := xs.length) (A' := fun e => [C.int .i64 e] = [.int .i64 (chkE xs k)]) (B := [C.int .i64 (if ixF xs.length (twB xs) 0 = -1 then 0 else 6)] = [.int .i64 (chkE xs k)]) (by omega) ?_ ?_ ?_ ?_
  · intro j K hj ha hf
    simp only [toNat_cast]
    simp only [p30 _ _ _ _ _ _ (hx j hj), true_and]
    simp only [e30, List.getD_cons_zero, gi_int]
    refine ⟨fun _ => ⟨by omega, fun h4 => ha h4, fun h4 => ?_⟩, fun h4 => by omega⟩
    rw [wrap_up rfl (by omega)]; exact hf h4
  · intro K hB
    refine ⟨fun h => by omega, fun _ => ?_⟩
    simp only [nm_fold]
    refine find_loop (p := twB xs) (n := xs.length) (A' := fun _ => [C.int .i64 6] = [.int .i64 (chkE xs k)]) (B := [C.int .i64 0] = [.int .i64 (chkE xs k)]) (by omega) ?_ ?_ ?_ ?_
    · intro j K hj ha hf
      simp only [toNat_cast]
      simp only [p14 (show xs.length ≤ 1000000 by omega), true_and]
      simp only [e14, fndR, List.getD_cons_zero, gi_int]
      obtain ⟨f1, f2⟩ := fnd_own hj
      rw [if_neg (by omega)]
      unfold twB at ha hf
      simp only [decide_eq_true_eq, decide_eq_false_iff_not] at ha hf
      refine ⟨fun _ => ⟨by omega, fun h4 => ha h4, fun h4 => ?_⟩, fun h4 => by omega⟩
      rw [wrap_up rfl (by omega)]; exact hf (fun q => q h4)
    · intro K hB'
      exact ⟨fun h => by omega, fun _ => hB'⟩
    · intro j hj h1 h2
      rw [← hB, h1, if_neg (by omega)]
    · intro h1
      rw [← hB, h1, if_pos rfl]
  · intro h4
    rw [hc, if_pos h4]
  · intro h4
    rw [hc, if_neg (fun q : firstN (oneN xs k) xs.length 0 ≠ 0 => q h4)]
def S13 : List A → List C := fun ds => match ds with
  | [.c (.sl _ xs), .c (.int _ k)] => [.int .i64 (chkE xs k)]
  | _ => []
theorem e13 (xs : List (List C)) (k : Int) : S13 [sG xs, iC k] = [.int .i64 (chkE xs k)] := rfl
def tbl13 : FuncId → List A → List C := fun f ds => match f with
  | 15 => S15 ds
  | 31 => S31 ds
  | _ => []
theorem pc13  {x1 : List (List C)} {x2 : Int} {row : List C} (hS : S13 [.c (.sl [.str, .int .i64, .int .i64, .int .i64, .int .i64, .int .i64, .sl [.int .i64], .int .i64] x1), .c (.int .i64 x2)] = row) (h : vc13 (stdE Try.prog tbl13) x1 x2 fun c => c = row) : PCg Try.prog 13 S13 [(false, [.int .i64])] [.c (.sl [.str, .int .i64, .int .i64, .int .i64, .int .i64, .int .i64, .sl [.int .i64], .int .i64] x1), .c (.int .i64 x2)] := PureC_vc mo h13 (by kernel_rfl) hS (w13  h)
theorem p13 {xs : List (List C)} (hx : recsB xs) (k : Int) : PCg Try.prog 13 S13 [kI] [sG xs, iC k] := by
  refine pc13 (e13 ..) ?_
  unfold vc13
  simp only [stdE, baseE, Br_iff, Imp_iff, tbl13, forall_eq]
  have key : (if decide (k < 1) = true then true else decide (8 < k)) = !decide (1 ≤ k ∧ k ≤ 8) := by
    by_cases q1 : k < 1 <;> by_cases q2 : 8 < k <;> simp [q1, q2] <;> omega
  simp only [key]
  simp only [Bool.not_eq_true', Bool.not_eq_false', decide_eq_true_eq, decide_eq_false_iff_not, beq_iff_eq, beq_eq_false_iff_ne, ne_eq]
  refine ⟨fun h => ?_, fun h => ⟨fun h2 => ?_, fun h2 => ⟨fun h3 => ?_, fun h3 => ?_⟩⟩⟩
  · rw [chkE, if_pos h]
  · rw [chkE, if_neg (by simpa using h), if_pos (by omega)]
  · rw [chkE, if_neg (by simpa using h), if_neg (by omega), if_pos (by omega)]
  have hl : xs.length ≤ 16 := by omega
  have hc : chkE xs k = if firstN (oneN xs k) xs.length 0 ≠ 0 then firstN (oneN xs k) xs.length 0 else if ixF xs.length (twB xs) 0 = -1 then 0 else 6 := by
    rw [chkE, if_neg (by simpa using h), if_neg (by omega), if_neg (by omega)]
  refine first_loop (f := oneN xs k) (n := xs.length) (A' := fun e => [C.int .i64 e] = [.int .i64 (chkE xs k)]) (B := [C.int .i64 (if ixF xs.length (twB xs) 0 = -1 then 0 else 6)] = [.int .i64 (chkE xs k)]) (by omega) ?_ ?_ ?_ ?_
  · intro j K hj ha hf
    simp only [toNat_cast]
    simp only [p31 _ _ _ _ _ _ (hx j hj), true_and]
    simp only [e31, List.getD_cons_zero, gi_int]
    refine ⟨fun _ => ⟨by omega, fun h4 => ha h4, fun h4 => ?_⟩, fun h4 => by omega⟩
    rw [wrap_up rfl (by omega)]; exact hf h4
  · intro K hB
    refine ⟨fun h => by omega, fun _ => ?_⟩
    simp only [nm_fold]
    refine find_loop (p := twB xs) (n := xs.length) (A' := fun _ => [C.int .i64 6] = [.int .i64 (chkE xs k)]) (B := [C.int .i64 0] = [.int .i64 (chkE xs k)]) (by omega) ?_ ?_ ?_ ?_
    · intro j K hj ha hf
      simp only [toNat_cast]
      simp only [p15 (show xs.length ≤ 1000000 by omega), true_and]
      simp only [e15, fndR, List.getD_cons_zero, gi_int]
      obtain ⟨f1, f2⟩ := fnd_own hj
      rw [if_neg (by omega)]
      unfold twB at ha hf
      simp only [decide_eq_true_eq, decide_eq_false_iff_not] at ha hf
      refine ⟨fun _ => ⟨by omega, fun h4 => ha (by omega), fun h4 => ?_⟩, fun h4 => by omega⟩
      rw [wrap_up rfl (by omega)]; exact hf (by omega)
    · intro K hB'
      exact ⟨fun h => by omega, fun _ => hB'⟩
    · intro j hj h1 h2
      rw [← hB, h1, if_neg (by omega)]
    · intro h1
      rw [← hB, h1, if_pos rfl]
  · intro h4
    rw [hc, if_pos h4]
  · intro h4
    rw [hc, if_neg (fun q : firstN (oneN xs k) xs.length 0 ≠ 0 => q h4)]
/-! ### The laws -/
def heavy (xs : List (List C)) (i : Nat) : Bool := decide (100 < (cellAt xs i 0).gs.size ∨ 20 < (cellAt xs i 6).gl.length)
def lightB (xs : List (List C)) : Bool := decide (xs.length ≤ 30) && decide (ixF xs.length (heavy xs) 0 = -1)
def S10 : List A → List C := fun ds => match ds with
  | [.c (.sl _ xs)] => [.bool (lightB xs)]
  | _ => []
theorem e10 (xs : List (List C)) : S10 [sG xs] = [.bool (lightB xs)] := rfl
def tbl10 : FuncId → List A → List C := fun f ds => match f with
  | _ => []
theorem pc10  {x1 : List (List C)} {row : List C} (hS : S10 [.c (.sl [.str, .int .i64, .int .i64, .int .i64, .int .i64, .int .i64, .sl [.int .i64], .int .i64] x1)] = row) (h : vc10 (stdE Try.prog tbl10) x1 fun c => c = row) : PCg Try.prog 10 S10 [(false, [.bool])] [.c (.sl [.str, .int .i64, .int .i64, .int .i64, .int .i64, .int .i64, .sl [.int .i64], .int .i64] x1)] := PureC_vc mo h10 (by kernel_rfl) hS (w10  h)
theorem p10 (xs : List (List C)) : PCg Try.prog 10 S10 [kB] [sG xs] := by
  refine pc10 (e10 ..) ?_
  unfold vc10
  simp only [stdE, baseE, Br_iff, Imp_iff, tbl10, forall_eq, decide_eq_true_eq, decide_eq_false_iff_not]
  refine ⟨fun h => ?_, fun h => ?_⟩
  · rw [lightB, decide_eq_false (show ¬ xs.length ≤ 30 by omega)]; rfl
  have hb : lightB xs = decide (ixF xs.length (heavy xs) 0 = -1) := by rw [lightB, decide_eq_true (show xs.length ≤ 30 by omega)]; simp
  rw [hb]
  refine find_loop (p := heavy xs) (n := xs.length) (A' := fun _ => [C.bool false] = [.bool (decide (ixF xs.length (heavy xs) 0 = -1))]) (B := [C.bool true] = [.bool (decide (ixF xs.length (heavy xs) 0 = -1))]) (by omega) ?_ ?_ ?_ ?_
  · intro k K hk ha hf
    simp only [toNat_cast]
    unfold heavy at ha hf
    simp only [decide_eq_true_eq, decide_eq_false_iff_not] at ha hf
    refine ⟨fun _ => ⟨by omega, fun h => ?_, fun h => ?_⟩, fun h => by omega⟩
    · refine ha ?_
      by_cases q1 : 100 < ((cellAt xs k 0).gs.size : Int)
      · exact .inl (by omega)
      · simp [q1] at h; exact .inr (by omega)
    · rw [wrap_up rfl (by omega)]
      refine hf ?_
      by_cases q1 : 100 < ((cellAt xs k 0).gs.size : Int)
      · simp [q1] at h
      · simp [q1] at h; omega
  · intro K hB
    exact ⟨fun h => by omega, fun _ => hB⟩
  · intro k hk h1 h2
    rw [h1]; simp
  · intro h1; rw [h1]; simp
theorem light_spec {xs : List (List C)} (h : lightB xs = true) : xs.length ≤ 30 ∧ recsB xs := by
  unfold lightB at h
  simp only [Bool.and_eq_true, decide_eq_true_eq] at h
  refine ⟨h.1, fun i hi => ?_⟩
  rcases ixF_spec xs.length (heavy xs) _ 0 rfl with ⟨_, h2⟩ | ⟨m, _, _, h3, _⟩
  · have := h2 i (Nat.zero_le _) hi
    unfold heavy at this
    simp only [decide_eq_false_iff_not] at this
    omega
  · omega
def S3 : List A → List C := fun _ => [.bool true]
def tbl3 : FuncId → List A → List C := fun f ds => match f with
  | 10 => S10 ds
  | 11 => S11 ds
  | 12 => S12 ds
  | 13 => S13 ds
  | _ => []
theorem pc3  {x1 : List (List C)} {x2 : Int} {row : List C} (hS : S3 [.c (.sl [.str, .int .i64, .int .i64, .int .i64, .int .i64, .int .i64, .sl [.int .i64], .int .i64] x1), .c (.int .i64 x2)] = row) (h : vc3 (stdE Try.prog tbl3) x1 x2 fun c => c = row) : PCg Try.prog 3 S3 [(false, [.bool])] [.c (.sl [.str, .int .i64, .int .i64, .int .i64, .int .i64, .int .i64, .sl [.int .i64], .int .i64] x1), .c (.int .i64 x2)] := PureC_vc mo h3 (by kernel_rfl) hS (w3  h)
theorem p3 (xs : List (List C)) (k : Int) : PureC Try.prog 3 [kB] [sG xs, iC k] fun _ => .bool true := by
  refine PureC.one (get := fun i => (S3 [sG xs, iC k]).getD i .nil) (pc3 (row := [.bool true]) rfl ?_) rfl
  unfold vc3
  simp only [stdE, baseE, Br_iff, Imp_iff, tbl3, forall_eq]
  simp only [p11, p10, implies_true, true_and]
  simp only [e11, e10, List.getD_cons_zero, gb_bool]
  cases h : lightB xs
  · simp
  · have hr := (light_spec h).2
    simp only [p12 hr, p13 hr, implies_true, true_and]
    simp only [e12, e13, List.getD_cons_zero, gi_int]
    simp
def S4 : List A → List C := fun _ => [.bool true]
def tbl4 : FuncId → List A → List C := fun f ds => match f with
  | 10 => S10 ds
  | 11 => S11 ds
  | 14 => S14 ds
  | 15 => S15 ds
  | _ => []
theorem pc4  {x1 : List (List C)} {x2 : ByteArray} {row : List C} (hS : S4 [.c (.sl [.str, .int .i64, .int .i64, .int .i64, .int .i64, .int .i64, .sl [.int .i64], .int .i64] x1), .c (.str x2)] = row) (h : vc4 (stdE Try.prog tbl4) x1 x2 fun c => c = row) : PCg Try.prog 4 S4 [(false, [.bool])] [.c (.sl [.str, .int .i64, .int .i64, .int .i64, .int .i64, .int .i64, .sl [.int .i64], .int .i64] x1), .c (.str x2)] := PureC_vc mo h4 (by kernel_rfl) hS (w4  h)
theorem p4 (xs : List (List C)) (s : ByteArray) : PureC Try.prog 4 [kB] [sG xs, .c (.str s)] fun _ => .bool true := by
  refine PureC.one (get := fun i => (S4 [sG xs, .c (.str s)]).getD i .nil) (pc4 (row := [.bool true]) rfl ?_) rfl
  unfold vc4
  simp only [stdE, baseE, Br_iff, Imp_iff, tbl4, forall_eq]
  simp only [p11, p10, implies_true, true_and]
  simp only [e11, e10, List.getD_cons_zero, gb_bool]
  cases h : lightB xs
  · simp
  · have hr := (light_spec h).1
    refine ⟨fun _ => trivial, fun _ => ?_⟩
    simp only [p14 (show xs.length ≤ 1000000 by omega), p15 (show xs.length ≤ 1000000 by omega), implies_true, true_and]
    simp only [e14, e15, fndR, List.getD_cons_zero, List.getD_cons_succ, gi_int, gb_bool]
    simp
end Go.Proofs.Ytljnpioekbdcaaa.V
