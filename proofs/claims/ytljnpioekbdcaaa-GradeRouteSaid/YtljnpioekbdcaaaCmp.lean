/- Grades: compared, in the program and in the reference. No conditions. -/
import Derived.Test.YtljnpioekbdcaaaGA
set_option linter.unusedVariables false
set_option linter.unusedSimpArgs false
namespace Go.Proofs.Ytljnpioekbdcaaa.V
open Go Go.Eng
set_option maxRecDepth 1000000
set_option maxHeartbeats 1000000
abbrev kU : Bool × List LK := (false, [.int .u64])
abbrev uw (n : Int) : Int := IntKind.u64.wrap n
/-- The difference of two integers. -/
def apart (a b : Int) : Int := if a < b then uw (uw b - uw a) else uw (uw a - uw b)
def meets (b bt m mt rb rm : Int) : Bool := decide (0 ≤ bt ∧ 0 ≤ mt) && (decide (apart b rb ≤ uw bt) && decide (apart m rm ≤ uw mt))
def same (b bt m mt b' bt' m' mt' : Int) : Bool := decide (0 ≤ bt ∧ 0 ≤ mt ∧ 0 ≤ bt' ∧ 0 ≤ mt') && (decide (apart b b' ≤ uw (uw bt + uw bt')) && decide (apart m m' ≤ uw (uw mt + uw mt')))
/-- The errors of two grades' differences: 1 if one is out of range. -/
def outB (b m : Int) : Bool := decide (b < 1 ∨ 1000000 < b ∨ m < 0 ∨ 2000 < m)
def steps (b m b' m' : Int) : List C := if outB b m || outB b' m' then [.int .i64 0, .int .i64 0, .int .i64 1] else [.int .i64 (IntKind.i64.wrap (apart b b')), .int .i64 (IntKind.i64.wrap (apart m m')), .int .i64 0]
def S29 : List A → List C := fun ds => match ds with
  | [.c (.int _ n), .c (.int _ lo), .c (.int _ hi)] => [.bool (decide (lo ≤ n ∧ n ≤ hi))]
  | _ => []
def tbl29 : FuncId → List A → List C := fun f ds => match f with
  | _ => []
theorem pc29  {x1 : Int} {x2 : Int} {x3 : Int} {row : List C} (hS : S29 [.c (.int .i64 x1), .c (.int .i64 x2), .c (.int .i64 x3)] = row) (h : vc29 (stdE Try.prog tbl29) x1 x2 x3 fun c => c = row) : PCg Try.prog 29 S29 [(false, [.bool])] [.c (.int .i64 x1), .c (.int .i64 x2), .c (.int .i64 x3)] := PureC_vc mo h29 (by kernel_rfl) hS (w29  h)
theorem e29 (n lo hi : Int) : S29 [iC n, iC lo, iC hi] = [.bool (decide (lo ≤ n ∧ n ≤ hi))] := rfl
theorem p29 (n lo hi : Int) : PCg Try.prog 29 S29 [kB] [iC n, iC lo, iC hi] := by
  refine pc29 (e29 ..) ?_
  unfold vc29
  simp only [stdE, baseE]
  by_cases h1 : lo ≤ n <;> by_cases h2 : n ≤ hi <;> simp [h1, h2]
def S34 : List A → List C := fun ds => match ds with
  | [.c (.int _ a), .c (.int _ b)] => [.int .u64 (apart a b)]
  | _ => []
def tbl34 : FuncId → List A → List C := fun f ds => match f with
  | _ => []
theorem pc34  {x1 : Int} {x2 : Int} {row : List C} (hS : S34 [.c (.int .i64 x1), .c (.int .i64 x2)] = row) (h : vc34 (stdE Try.prog tbl34) x1 x2 fun c => c = row) : PCg Try.prog 34 S34 [(false, [.int .u64])] [.c (.int .i64 x1), .c (.int .i64 x2)] := PureC_vc mo h34 (by kernel_rfl) hS (w34  h)
theorem e34 (a b : Int) : S34 [iC a, iC b] = [.int .u64 (apart a b)] := rfl
theorem p34 (a b : Int) : PCg Try.prog 34 S34 [kU] [iC a, iC b] := by
  refine pc34 (e34 ..) ?_
  unfold vc34
  simp only [stdE, baseE, Br_iff, decide_eq_true_eq, decide_eq_false_iff_not, apart]
  exact ⟨fun h => by rw [if_pos h], fun h => by rw [if_neg h]⟩
def S37 : List A → List C := fun ds => match ds with
  | [.c (.int _ a), .c (.int _ b)] => [.int .u64 (apart a b)]
  | _ => []
def tbl37 : FuncId → List A → List C := fun f ds => match f with
  | _ => []
theorem pc37  {x1 : Int} {x2 : Int} {row : List C} (hS : S37 [.c (.int .i64 x1), .c (.int .i64 x2)] = row) (h : vc37 (stdE Try.prog tbl37) x1 x2 fun c => c = row) : PCg Try.prog 37 S37 [(false, [.int .u64])] [.c (.int .i64 x1), .c (.int .i64 x2)] := PureC_vc mo h37 (by kernel_rfl) hS (w37  h)
theorem e37 (a b : Int) : S37 [iC a, iC b] = [.int .u64 (apart a b)] := rfl
theorem p37 (a b : Int) : PCg Try.prog 37 S37 [kU] [iC a, iC b] := by
  refine pc37 (e37 ..) ?_
  unfold vc37
  simp only [stdE, baseE, Br_iff, decide_eq_true_eq, decide_eq_false_iff_not, apart]
  exact ⟨fun h => by rw [if_pos h], fun h => by rw [if_neg h]⟩
def S35 : List A → List C := fun ds => match ds with
  | [.c (.int _ a), .c (.int _ b), .c (.int _ t)] => [.bool (decide (0 ≤ t) && decide (apart a b ≤ uw t))]
  | _ => []
def tbl35 : FuncId → List A → List C := fun f ds => match f with
  | 37 => S37 ds
  | _ => []
theorem pc35  {x1 : Int} {x2 : Int} {x3 : Int} {row : List C} (hS : S35 [.c (.int .i64 x1), .c (.int .i64 x2), .c (.int .i64 x3)] = row) (h : vc35 (stdE Try.prog tbl35) x1 x2 x3 fun c => c = row) : PCg Try.prog 35 S35 [(false, [.bool])] [.c (.int .i64 x1), .c (.int .i64 x2), .c (.int .i64 x3)] := PureC_vc mo h35 (by kernel_rfl) hS (w35  h)
theorem e35 (a b t : Int) : S35 [iC a, iC b, iC t] = [.bool (decide (0 ≤ t) && decide (apart a b ≤ uw t))] := rfl
theorem p35 (a b t : Int) : PCg Try.prog 35 S35 [kB] [iC a, iC b, iC t] := by
  refine pc35 (e35 ..) ?_
  unfold vc35
  simp only [stdE, baseE, Imp_iff, tbl35, forall_eq]
  simp only [p37, implies_true, true_and]
  simp only [e37, List.getD_cons_zero, gi_int]
  by_cases h : 0 ≤ t <;> simp [h]
def S36 : List A → List C := fun ds => match ds with
  | [.c (.int _ a), .c (.int _ t), .c (.int _ b), .c (.int _ u)] => [.bool (decide (0 ≤ t ∧ 0 ≤ u) && decide (apart a b ≤ uw (uw t + uw u)))]
  | _ => []
def tbl36 : FuncId → List A → List C := fun f ds => match f with
  | 37 => S37 ds
  | _ => []
theorem pc36  {x1 : Int} {x2 : Int} {x3 : Int} {x4 : Int} {row : List C} (hS : S36 [.c (.int .i64 x1), .c (.int .i64 x2), .c (.int .i64 x3), .c (.int .i64 x4)] = row) (h : vc36 (stdE Try.prog tbl36) x1 x2 x3 x4 fun c => c = row) : PCg Try.prog 36 S36 [(false, [.bool])] [.c (.int .i64 x1), .c (.int .i64 x2), .c (.int .i64 x3), .c (.int .i64 x4)] := PureC_vc mo h36 (by kernel_rfl) hS (w36  h)
theorem e36 (a t b u : Int) : S36 [iC a, iC t, iC b, iC u] = [.bool (decide (0 ≤ t ∧ 0 ≤ u) && decide (apart a b ≤ uw (uw t + uw u)))] := rfl
theorem p36 (a t b u : Int) : PCg Try.prog 36 S36 [kB] [iC a, iC t, iC b, iC u] := by
  refine pc36 (e36 ..) ?_
  unfold vc36
  simp only [stdE, baseE, Imp_iff, tbl36, forall_eq]
  simp only [p37, implies_true, true_and]
  simp only [e37, List.getD_cons_zero, gi_int]
  by_cases h : 0 ≤ t <;> by_cases h2 : 0 ≤ u <;> simp [h, h2]
/-- A grade. -/
abbrev gA (n : ByteArray) (b bt m mt c : Int) (r : List (List C)) (p : Int) : A := .agg [.c (.str n), .c (.int .i64 b), .c (.int .i64 bt), .c (.int .i64 m), .c (.int .i64 mt), .c (.int .i64 c), .c (.sl [.int .i64] r), .c (.int .i64 p)]
def S16 : List A → List C := fun ds => match ds with
  | [.agg [_, .c (.int _ b), .c (.int _ bt), .c (.int _ m), .c (.int _ mt), _, _, _], .agg [.c (.int _ rb), .c (.int _ rm)]] => [.bool (meets b bt m mt rb rm)]
  | _ => []
def tbl16 : FuncId → List A → List C := fun f ds => match f with
  | 34 => S34 ds
  | _ => []
theorem pc16  {x1 : ByteArray} {x2 : Int} {x3 : Int} {x4 : Int} {x5 : Int} {x6 : Int} {x7 : List (List C)} {x8 : Int} {x9 : Int} {x10 : Int} {row : List C} (hS : S16 [.agg [.c (.str x1), .c (.int .i64 x2), .c (.int .i64 x3), .c (.int .i64 x4), .c (.int .i64 x5), .c (.int .i64 x6), .c (.sl [.int .i64] x7), .c (.int .i64 x8)], .agg [.c (.int .i64 x9), .c (.int .i64 x10)]] = row) (h : vc16 (stdE Try.prog tbl16) x1 x2 x3 x4 x5 x6 x7 x8 x9 x10 fun c => c = row) : PCg Try.prog 16 S16 [(false, [.bool])] [.agg [.c (.str x1), .c (.int .i64 x2), .c (.int .i64 x3), .c (.int .i64 x4), .c (.int .i64 x5), .c (.int .i64 x6), .c (.sl [.int .i64] x7), .c (.int .i64 x8)], .agg [.c (.int .i64 x9), .c (.int .i64 x10)]] := PureC_vc mo h16 (by kernel_rfl) hS (w16  h)
theorem e16 (n : ByteArray) (b bt m mt c : Int) (r : List (List C)) (p rb rm : Int) : S16 [gA n b bt m mt c r p, .agg [iC rb, iC rm]] = [.bool (meets b bt m mt rb rm)] := rfl
theorem p16 (n : ByteArray) (b bt m mt c : Int) (r : List (List C)) (p rb rm : Int) : PCg Try.prog 16 S16 [kB] [gA n b bt m mt c r p, .agg [iC rb, iC rm]] := by
  refine pc16 (e16 ..) ?_
  unfold vc16
  simp only [stdE, baseE, Br_iff, Imp_iff, tbl16, forall_eq]
  simp only [p34, implies_true, true_and]
  simp only [e34, List.getD_cons_zero, gi_int, meets]
  by_cases h : bt < 0 <;> by_cases h2 : mt < 0 <;> simp [h, h2] <;> first | omega | (split <;> simp_all <;> omega)
def S17 : List A → List C := fun ds => match ds with
  | [.agg [_, .c (.int _ b), .c (.int _ bt), .c (.int _ m), .c (.int _ mt), _, _, _], .agg [.c (.int _ rb), .c (.int _ rm)]] => [.bool (meets b bt m mt rb rm)]
  | _ => []
def tbl17 : FuncId → List A → List C := fun f ds => match f with
  | 35 => S35 ds
  | _ => []
theorem pc17  {x1 : ByteArray} {x2 : Int} {x3 : Int} {x4 : Int} {x5 : Int} {x6 : Int} {x7 : List (List C)} {x8 : Int} {x9 : Int} {x10 : Int} {row : List C} (hS : S17 [.agg [.c (.str x1), .c (.int .i64 x2), .c (.int .i64 x3), .c (.int .i64 x4), .c (.int .i64 x5), .c (.int .i64 x6), .c (.sl [.int .i64] x7), .c (.int .i64 x8)], .agg [.c (.int .i64 x9), .c (.int .i64 x10)]] = row) (h : vc17 (stdE Try.prog tbl17) x1 x2 x3 x4 x5 x6 x7 x8 x9 x10 fun c => c = row) : PCg Try.prog 17 S17 [(false, [.bool])] [.agg [.c (.str x1), .c (.int .i64 x2), .c (.int .i64 x3), .c (.int .i64 x4), .c (.int .i64 x5), .c (.int .i64 x6), .c (.sl [.int .i64] x7), .c (.int .i64 x8)], .agg [.c (.int .i64 x9), .c (.int .i64 x10)]] := PureC_vc mo h17 (by kernel_rfl) hS (w17  h)
theorem e17 (n : ByteArray) (b bt m mt c : Int) (r : List (List C)) (p rb rm : Int) : S17 [gA n b bt m mt c r p, .agg [iC rb, iC rm]] = [.bool (meets b bt m mt rb rm)] := rfl
theorem p17 (n : ByteArray) (b bt m mt c : Int) (r : List (List C)) (p rb rm : Int) : PCg Try.prog 17 S17 [kB] [gA n b bt m mt c r p, .agg [iC rb, iC rm]] := by
  refine pc17 (e17 ..) ?_
  unfold vc17
  simp only [stdE, baseE, Br_iff, Imp_iff, tbl17, forall_eq]
  simp only [p35, implies_true, true_and]
  simp only [e35, List.getD_cons_zero, gb_bool, meets]
  by_cases h : 0 ≤ bt <;> by_cases h2 : 0 ≤ mt <;> simp [h, h2]
def S18 : List A → List C := fun ds => match ds with
  | [.agg [_, .c (.int _ b), .c (.int _ bt), .c (.int _ m), .c (.int _ mt), _, _, _], .agg [_, .c (.int _ b'), .c (.int _ bt'), .c (.int _ m'), .c (.int _ mt'), _, _, _]] => [.bool (same b bt m mt b' bt' m' mt')]
  | _ => []
def tbl18 : FuncId → List A → List C := fun f ds => match f with
  | 34 => S34 ds
  | _ => []
theorem pc18  {x1 : ByteArray} {x2 : Int} {x3 : Int} {x4 : Int} {x5 : Int} {x6 : Int} {x7 : List (List C)} {x8 : Int} {x9 : ByteArray} {x10 : Int} {x11 : Int} {x12 : Int} {x13 : Int} {x14 : Int} {x15 : List (List C)} {x16 : Int} {row : List C} (hS : S18 [.agg [.c (.str x1), .c (.int .i64 x2), .c (.int .i64 x3), .c (.int .i64 x4), .c (.int .i64 x5), .c (.int .i64 x6), .c (.sl [.int .i64] x7), .c (.int .i64 x8)], .agg [.c (.str x9), .c (.int .i64 x10), .c (.int .i64 x11), .c (.int .i64 x12), .c (.int .i64 x13), .c (.int .i64 x14), .c (.sl [.int .i64] x15), .c (.int .i64 x16)]] = row) (h : vc18 (stdE Try.prog tbl18) x1 x2 x3 x4 x5 x6 x7 x8 x9 x10 x11 x12 x13 x14 x15 x16 fun c => c = row) : PCg Try.prog 18 S18 [(false, [.bool])] [.agg [.c (.str x1), .c (.int .i64 x2), .c (.int .i64 x3), .c (.int .i64 x4), .c (.int .i64 x5), .c (.int .i64 x6), .c (.sl [.int .i64] x7), .c (.int .i64 x8)], .agg [.c (.str x9), .c (.int .i64 x10), .c (.int .i64 x11), .c (.int .i64 x12), .c (.int .i64 x13), .c (.int .i64 x14), .c (.sl [.int .i64] x15), .c (.int .i64 x16)]] := PureC_vc mo h18 (by kernel_rfl) hS (w18  h)
theorem e18 (n : ByteArray) (b bt m mt c : Int) (r : List (List C)) (p : Int) (n' : ByteArray) (b' bt' m' mt' c' : Int) (r' : List (List C)) (p' : Int) :
    S18 [gA n b bt m mt c r p, gA n' b' bt' m' mt' c' r' p'] = [.bool (same b bt m mt b' bt' m' mt')] := rfl
theorem p18 (n : ByteArray) (b bt m mt c : Int) (r : List (List C)) (p : Int) (n' : ByteArray) (b' bt' m' mt' c' : Int) (r' : List (List C)) (p' : Int) :
    PCg Try.prog 18 S18 [kB] [gA n b bt m mt c r p, gA n' b' bt' m' mt' c' r' p'] := by
  refine pc18 (e18 ..) ?_
  unfold vc18
  simp only [stdE, baseE, Br_iff, Imp_iff, tbl18, forall_eq]
  simp only [p34, implies_true, true_and]
  simp only [e34, List.getD_cons_zero, gi_int, same]
  by_cases h : bt < 0 <;> by_cases h2 : mt < 0 <;> by_cases h3 : bt' < 0 <;> by_cases h4 : mt' < 0 <;> simp [h, h2, h3, h4] <;> first | omega | (split <;> simp_all <;> omega)
def S19 : List A → List C := fun ds => match ds with
  | [.agg [_, .c (.int _ b), .c (.int _ bt), .c (.int _ m), .c (.int _ mt), _, _, _], .agg [_, .c (.int _ b'), .c (.int _ bt'), .c (.int _ m'), .c (.int _ mt'), _, _, _]] => [.bool (same b bt m mt b' bt' m' mt')]
  | _ => []
def tbl19 : FuncId → List A → List C := fun f ds => match f with
  | 36 => S36 ds
  | _ => []
theorem pc19  {x1 : ByteArray} {x2 : Int} {x3 : Int} {x4 : Int} {x5 : Int} {x6 : Int} {x7 : List (List C)} {x8 : Int} {x9 : ByteArray} {x10 : Int} {x11 : Int} {x12 : Int} {x13 : Int} {x14 : Int} {x15 : List (List C)} {x16 : Int} {row : List C} (hS : S19 [.agg [.c (.str x1), .c (.int .i64 x2), .c (.int .i64 x3), .c (.int .i64 x4), .c (.int .i64 x5), .c (.int .i64 x6), .c (.sl [.int .i64] x7), .c (.int .i64 x8)], .agg [.c (.str x9), .c (.int .i64 x10), .c (.int .i64 x11), .c (.int .i64 x12), .c (.int .i64 x13), .c (.int .i64 x14), .c (.sl [.int .i64] x15), .c (.int .i64 x16)]] = row) (h : vc19 (stdE Try.prog tbl19) x1 x2 x3 x4 x5 x6 x7 x8 x9 x10 x11 x12 x13 x14 x15 x16 fun c => c = row) : PCg Try.prog 19 S19 [(false, [.bool])] [.agg [.c (.str x1), .c (.int .i64 x2), .c (.int .i64 x3), .c (.int .i64 x4), .c (.int .i64 x5), .c (.int .i64 x6), .c (.sl [.int .i64] x7), .c (.int .i64 x8)], .agg [.c (.str x9), .c (.int .i64 x10), .c (.int .i64 x11), .c (.int .i64 x12), .c (.int .i64 x13), .c (.int .i64 x14), .c (.sl [.int .i64] x15), .c (.int .i64 x16)]] := PureC_vc mo h19 (by kernel_rfl) hS (w19  h)
theorem e19 (n : ByteArray) (b bt m mt c : Int) (r : List (List C)) (p : Int) (n' : ByteArray) (b' bt' m' mt' c' : Int) (r' : List (List C)) (p' : Int) :
    S19 [gA n b bt m mt c r p, gA n' b' bt' m' mt' c' r' p'] = [.bool (same b bt m mt b' bt' m' mt')] := rfl
theorem p19 (n : ByteArray) (b bt m mt c : Int) (r : List (List C)) (p : Int) (n' : ByteArray) (b' bt' m' mt' c' : Int) (r' : List (List C)) (p' : Int) :
    PCg Try.prog 19 S19 [kB] [gA n b bt m mt c r p, gA n' b' bt' m' mt' c' r' p'] := by
  refine pc19 (e19 ..) ?_
  unfold vc19
  simp only [stdE, baseE, Br_iff, Imp_iff, tbl19, forall_eq]
  simp only [p36, implies_true, true_and]
  simp only [e36, List.getD_cons_zero, gb_bool, same]
  by_cases h : 0 ≤ bt <;> by_cases h2 : 0 ≤ mt <;> by_cases h3 : 0 ≤ bt' <;> by_cases h4 : 0 ≤ mt' <;> simp [h, h2, h3, h4]
def S20 : List A → List C := fun ds => match ds with
  | [.agg [_, .c (.int _ b), _, .c (.int _ m), _, _, _, _], .agg [_, .c (.int _ b'), _, .c (.int _ m'), _, _, _, _]] => steps b m b' m'
  | _ => []
def tbl20 : FuncId → List A → List C := fun f ds => match f with
  | 29 => S29 ds
  | 34 => S34 ds
  | _ => []
theorem pc20  {x1 : ByteArray} {x2 : Int} {x3 : Int} {x4 : Int} {x5 : Int} {x6 : Int} {x7 : List (List C)} {x8 : Int} {x9 : ByteArray} {x10 : Int} {x11 : Int} {x12 : Int} {x13 : Int} {x14 : Int} {x15 : List (List C)} {x16 : Int} {row : List C} (hS : S20 [.agg [.c (.str x1), .c (.int .i64 x2), .c (.int .i64 x3), .c (.int .i64 x4), .c (.int .i64 x5), .c (.int .i64 x6), .c (.sl [.int .i64] x7), .c (.int .i64 x8)], .agg [.c (.str x9), .c (.int .i64 x10), .c (.int .i64 x11), .c (.int .i64 x12), .c (.int .i64 x13), .c (.int .i64 x14), .c (.sl [.int .i64] x15), .c (.int .i64 x16)]] = row) (h : vc20 (stdE Try.prog tbl20) x1 x2 x3 x4 x5 x6 x7 x8 x9 x10 x11 x12 x13 x14 x15 x16 fun c => c = row) : PCg Try.prog 20 S20 [(true, [.int .i64, .int .i64]), (false, [.int .i64])] [.agg [.c (.str x1), .c (.int .i64 x2), .c (.int .i64 x3), .c (.int .i64 x4), .c (.int .i64 x5), .c (.int .i64 x6), .c (.sl [.int .i64] x7), .c (.int .i64 x8)], .agg [.c (.str x9), .c (.int .i64 x10), .c (.int .i64 x11), .c (.int .i64 x12), .c (.int .i64 x13), .c (.int .i64 x14), .c (.sl [.int .i64] x15), .c (.int .i64 x16)]] := PureC_vc mo h20 (by kernel_rfl) hS (w20  h)
theorem e20 (n : ByteArray) (b bt m mt c : Int) (r : List (List C)) (p : Int) (n' : ByteArray) (b' bt' m' mt' c' : Int) (r' : List (List C)) (p' : Int) :
    S20 [gA n b bt m mt c r p, gA n' b' bt' m' mt' c' r' p'] = steps b m b' m' := rfl
theorem p20 (n : ByteArray) (b bt m mt c : Int) (r : List (List C)) (p : Int) (n' : ByteArray) (b' bt' m' mt' c' : Int) (r' : List (List C)) (p' : Int) :
    PCg Try.prog 20 S20 [(true, [iK, iK]), kI] [gA n b bt m mt c r p, gA n' b' bt' m' mt' c' r' p'] := by
  refine pc20 (e20 ..) ?_
  unfold vc20
  simp only [stdE, baseE, Br_iff, Imp_iff, tbl20, forall_eq]
  simp only [p34, p29, implies_true, true_and]
  simp only [e34, e29, List.getD_cons_zero, gi_int, gb_bool]
  refine LoopP1.run (fun k : Nat => (k : Int)) (fun k => k ≤ 2 ∧ (1 ≤ k → outB b m = false) ∧ (2 ≤ k → outB b' m' = false)) (fun k => 2 - k) 0 ⟨by omega, fun h => by omega, fun h => by omega⟩ rfl ?_
  rintro k ⟨h0, h1, h2⟩ K hK
  have key : ∀ b m : Int, (if (!decide (1 ≤ b ∧ b ≤ 1000000)) = true then true else !decide (0 ≤ m ∧ m ≤ 2000)) = outB b m := by
    intro b m
    unfold outB
    by_cases q1 : 1 ≤ b <;> by_cases q2 : b ≤ 1000000 <;> by_cases q3 : 0 ≤ m <;> by_cases q4 : m ≤ 2000 <;> simp [q1, q2, q3, q4] <;> omega
  simp only [key, decide_eq_true_eq, decide_eq_false_iff_not]
  have hk : k = 0 ∨ k = 1 ∨ k = 2 := by omega
  rcases hk with rfl | rfl | rfl
  · simp only [show (((0 : Nat) : Int) == 0) = true by rfl, if_true]
    refine ⟨fun _ => ⟨by omega, fun h => ?_, fun h => hK _ 1 ⟨by omega, fun _ => h, fun h => by omega⟩ (by omega) (wrap_up rfl (by omega))⟩, fun h => by omega⟩
    simp [steps, h]
  · simp only [show (((1 : Nat) : Int) == 0) = false by rfl, Bool.false_eq_true, if_false]
    refine ⟨fun _ => ⟨by omega, fun h => ?_, fun h => hK _ 2 ⟨by omega, fun _ => h1 (by omega), fun _ => h⟩ (by omega) (wrap_up rfl (by omega))⟩, fun h => by omega⟩
    simp [steps, h]
  · refine ⟨fun h => by omega, fun _ => ?_⟩
    simp [steps, h1 (by omega), h2 (by omega)]
def S21 : List A → List C := fun ds => match ds with
  | [.agg [_, .c (.int _ b), _, .c (.int _ m), _, _, _, _], .agg [_, .c (.int _ b'), _, .c (.int _ m'), _, _, _, _]] => steps b m b' m'
  | _ => []
def tbl21 : FuncId → List A → List C := fun f ds => match f with
  | 37 => S37 ds
  | _ => []
theorem pc21  {x1 : ByteArray} {x2 : Int} {x3 : Int} {x4 : Int} {x5 : Int} {x6 : Int} {x7 : List (List C)} {x8 : Int} {x9 : ByteArray} {x10 : Int} {x11 : Int} {x12 : Int} {x13 : Int} {x14 : Int} {x15 : List (List C)} {x16 : Int} {row : List C} (hS : S21 [.agg [.c (.str x1), .c (.int .i64 x2), .c (.int .i64 x3), .c (.int .i64 x4), .c (.int .i64 x5), .c (.int .i64 x6), .c (.sl [.int .i64] x7), .c (.int .i64 x8)], .agg [.c (.str x9), .c (.int .i64 x10), .c (.int .i64 x11), .c (.int .i64 x12), .c (.int .i64 x13), .c (.int .i64 x14), .c (.sl [.int .i64] x15), .c (.int .i64 x16)]] = row) (h : vc21 (stdE Try.prog tbl21) x1 x2 x3 x4 x5 x6 x7 x8 x9 x10 x11 x12 x13 x14 x15 x16 fun c => c = row) : PCg Try.prog 21 S21 [(true, [.int .i64, .int .i64]), (false, [.int .i64])] [.agg [.c (.str x1), .c (.int .i64 x2), .c (.int .i64 x3), .c (.int .i64 x4), .c (.int .i64 x5), .c (.int .i64 x6), .c (.sl [.int .i64] x7), .c (.int .i64 x8)], .agg [.c (.str x9), .c (.int .i64 x10), .c (.int .i64 x11), .c (.int .i64 x12), .c (.int .i64 x13), .c (.int .i64 x14), .c (.sl [.int .i64] x15), .c (.int .i64 x16)]] := PureC_vc mo h21 (by kernel_rfl) hS (w21  h)
theorem e21 (n : ByteArray) (b bt m mt c : Int) (r : List (List C)) (p : Int) (n' : ByteArray) (b' bt' m' mt' c' : Int) (r' : List (List C)) (p' : Int) :
    S21 [gA n b bt m mt c r p, gA n' b' bt' m' mt' c' r' p'] = steps b m b' m' := rfl
theorem p21 (n : ByteArray) (b bt m mt c : Int) (r : List (List C)) (p : Int) (n' : ByteArray) (b' bt' m' mt' c' : Int) (r' : List (List C)) (p' : Int) :
    PCg Try.prog 21 S21 [(true, [iK, iK]), kI] [gA n b bt m mt c r p, gA n' b' bt' m' mt' c' r' p'] := by
  refine pc21 (e21 ..) ?_
  unfold vc21
  simp only [stdE, baseE, Br_iff, Imp_iff, tbl21, forall_eq]
  simp only [p37, implies_true, true_and]
  simp only [e37, List.getD_cons_zero, gi_int, gb_bool]
  generalize hL : ([[.str n, .int .i64 b, .int .i64 bt, .int .i64 m, .int .i64 mt, .int .i64 c, .sl [.int .i64] r, .int .i64 p], [.str n', .int .i64 b', .int .i64 bt', .int .i64 m', .int .i64 mt', .int .i64 c', .sl [.int .i64] r', .int .i64 p']] : List (List C)) = L
  have l0 : (cellAt L 0 1).gi = b ∧ (cellAt L 0 3).gi = m ∧ (cellAt L 1 1).gi = b' ∧ (cellAt L 1 3).gi = m' ∧ L.length = 2 := by subst hL; exact ⟨rfl, rfl, rfl, rfl, rfl⟩
  obtain ⟨l0, l1, l2, l3, l4⟩ := l0
  refine LoopP1.run (fun k : Nat => (k : Int)) (fun k => k ≤ 2 ∧ (1 ≤ k → outB b m = false) ∧ (2 ≤ k → outB b' m' = false)) (fun k => 2 - k) 0 ⟨by omega, fun h => by omega, fun h => by omega⟩ rfl ?_
  rintro k ⟨h0, h1, h2⟩ K hK
  have key : ∀ b m : Int, (if (if (if decide (b < 1) = true then true else decide (1000000 < b)) = true then true else decide (m < 0)) = true then true else decide (2000 < m)) = outB b m := by
    intro b m
    unfold outB
    by_cases q1 : b < 1 <;> by_cases q2 : 1000000 < b <;> by_cases q3 : m < 0 <;> by_cases q4 : 2000 < m <;> simp [q1, q2, q3, q4]
  simp only [toNat_cast, l4]
  have hk : k = 0 ∨ k = 1 ∨ k = 2 := by omega
  rcases hk with rfl | rfl | rfl
  · simp only [l0, l1]
    simp only [key]
    simp only [decide_eq_true_eq, decide_eq_false_iff_not]
    refine ⟨fun _ => ⟨by omega, by omega, fun h => ?_, fun h => hK _ 1 ⟨by omega, fun _ => h, fun h => by omega⟩ (by omega) (wrap_up rfl (by omega))⟩, fun h => by omega⟩
    have h' : outB b m = true := h
    simp [steps, h']
  · simp only [l2, l3]
    simp only [key]
    simp only [decide_eq_true_eq, decide_eq_false_iff_not]
    refine ⟨fun _ => ⟨by omega, by omega, fun h => ?_, fun h => hK _ 2 ⟨by omega, fun _ => h1 (by omega), fun _ => h⟩ (by omega) (wrap_up rfl (by omega))⟩, fun h => by omega⟩
    have h' : outB b' m' = true := h
    simp [steps, h']
  · simp only [decide_eq_true_eq, decide_eq_false_iff_not]
    refine ⟨fun h => by omega, fun _ => ?_⟩
    simp [steps, h1 (by omega), h2 (by omega)]
end Go.Proofs.Ytljnpioekbdcaaa.V
