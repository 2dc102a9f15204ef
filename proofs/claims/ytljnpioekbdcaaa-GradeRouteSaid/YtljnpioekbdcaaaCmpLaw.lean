/- Grades: what is said of comparing them. No conditions. -/
import Derived.Test.YtljnpioekbdcaaaCmp
set_option linter.unusedVariables false
set_option linter.unusedSimpArgs false
namespace Go.Proofs.Ytljnpioekbdcaaa.V
open Go Go.Eng
set_option maxRecDepth 1000000
set_option maxHeartbeats 1000000
def S11 : List A → List C := fun _ => [.bool true]
theorem p11 : PCg Try.prog 11 S11 [kB] [] := awake.one rfl
theorem e11 : S11 [] = [.bool true] := rfl
def S5 : List A → List C := fun _ => [.bool true]
def tbl5 : FuncId → List A → List C := fun f ds => match f with
  | 11 => S11 ds
  | 16 => S16 ds
  | 17 => S17 ds
  | 18 => S18 ds
  | 19 => S19 ds
  | _ => []
theorem pc5  {x1 : ByteArray} {x2 : Int} {x3 : Int} {x4 : Int} {x5 : Int} {x6 : Int} {x7 : List (List C)} {x8 : Int} {x9 : ByteArray} {x10 : Int} {x11 : Int} {x12 : Int} {x13 : Int} {x14 : Int} {x15 : List (List C)} {x16 : Int} {x17 : Int} {x18 : Int} {row : List C} (hS : S5 [.agg [.c (.str x1), .c (.int .i64 x2), .c (.int .i64 x3), .c (.int .i64 x4), .c (.int .i64 x5), .c (.int .i64 x6), .c (.sl [.int .i64] x7), .c (.int .i64 x8)], .agg [.c (.str x9), .c (.int .i64 x10), .c (.int .i64 x11), .c (.int .i64 x12), .c (.int .i64 x13), .c (.int .i64 x14), .c (.sl [.int .i64] x15), .c (.int .i64 x16)], .agg [.c (.int .i64 x17), .c (.int .i64 x18)]] = row) (h : vc5 (stdE Try.prog tbl5) x1 x2 x3 x4 x5 x6 x7 x8 x9 x10 x11 x12 x13 x14 x15 x16 x17 x18 fun c => c = row) : PCg Try.prog 5 S5 [(false, [.bool])] [.agg [.c (.str x1), .c (.int .i64 x2), .c (.int .i64 x3), .c (.int .i64 x4), .c (.int .i64 x5), .c (.int .i64 x6), .c (.sl [.int .i64] x7), .c (.int .i64 x8)], .agg [.c (.str x9), .c (.int .i64 x10), .c (.int .i64 x11), .c (.int .i64 x12), .c (.int .i64 x13), .c (.int .i64 x14), .c (.sl [.int .i64] x15), .c (.int .i64 x16)], .agg [.c (.int .i64 x17), .c (.int .i64 x18)]] := PureC_vc mo h5 (by kernel_rfl) hS (w5  h)
theorem p5 (n : ByteArray) (b bt m mt c : Int) (r : List (List C)) (p : Int) (n' : ByteArray) (b' bt' m' mt' c' : Int) (r' : List (List C)) (p' rb rm : Int) :
    PureC Try.prog 5 [kB] [gA n b bt m mt c r p, gA n' b' bt' m' mt' c' r' p', .agg [iC rb, iC rm]] fun _ => .bool true := by
  refine PureC.one (get := fun i => (S5 [gA n b bt m mt c r p, gA n' b' bt' m' mt' c' r' p', .agg [iC rb, iC rm]]).getD i .nil) (pc5 (row := [.bool true]) rfl ?_) rfl
  unfold vc5
  simp only [stdE, baseE, Br_iff, Imp_iff, tbl5, forall_eq]
  simp only [p11, p16, p17, p18, p19, implies_true, true_and]
  simp only [e11, e16, e17, e18, e19, List.getD_cons_zero, gb_bool]
  simp
def S6 : List A → List C := fun _ => [.bool true]
def tbl6 : FuncId → List A → List C := fun f ds => match f with
  | 11 => S11 ds
  | 20 => S20 ds
  | 21 => S21 ds
  | _ => []
theorem pc6  {x1 : ByteArray} {x2 : Int} {x3 : Int} {x4 : Int} {x5 : Int} {x6 : Int} {x7 : List (List C)} {x8 : Int} {x9 : ByteArray} {x10 : Int} {x11 : Int} {x12 : Int} {x13 : Int} {x14 : Int} {x15 : List (List C)} {x16 : Int} {row : List C} (hS : S6 [.agg [.c (.str x1), .c (.int .i64 x2), .c (.int .i64 x3), .c (.int .i64 x4), .c (.int .i64 x5), .c (.int .i64 x6), .c (.sl [.int .i64] x7), .c (.int .i64 x8)], .agg [.c (.str x9), .c (.int .i64 x10), .c (.int .i64 x11), .c (.int .i64 x12), .c (.int .i64 x13), .c (.int .i64 x14), .c (.sl [.int .i64] x15), .c (.int .i64 x16)]] = row) (h : vc6 (stdE Try.prog tbl6) x1 x2 x3 x4 x5 x6 x7 x8 x9 x10 x11 x12 x13 x14 x15 x16 fun c => c = row) : PCg Try.prog 6 S6 [(false, [.bool])] [.agg [.c (.str x1), .c (.int .i64 x2), .c (.int .i64 x3), .c (.int .i64 x4), .c (.int .i64 x5), .c (.int .i64 x6), .c (.sl [.int .i64] x7), .c (.int .i64 x8)], .agg [.c (.str x9), .c (.int .i64 x10), .c (.int .i64 x11), .c (.int .i64 x12), .c (.int .i64 x13), .c (.int .i64 x14), .c (.sl [.int .i64] x15), .c (.int .i64 x16)]] := PureC_vc mo h6 (by kernel_rfl) hS (w6  h)
theorem p6 (n : ByteArray) (b bt m mt c : Int) (r : List (List C)) (p : Int) (n' : ByteArray) (b' bt' m' mt' c' : Int) (r' : List (List C)) (p' : Int) :
    PureC Try.prog 6 [kB] [gA n b bt m mt c r p, gA n' b' bt' m' mt' c' r' p'] fun _ => .bool true := by
  refine PureC.one (get := fun i => (S6 [gA n b bt m mt c r p, gA n' b' bt' m' mt' c' r' p']).getD i .nil) (pc6 (row := [.bool true]) rfl ?_) rfl
  unfold vc6
  simp only [stdE, baseE, Br_iff, Imp_iff, tbl6, forall_eq]
  simp only [p11, p20, p21, implies_true, true_and]
  simp only [e11, e20, e21, List.getD_cons_zero, gb_bool]
  simp
/-- Within the range of an int. -/
abbrev I64 (n : Int) : Prop := -9223372036854775808 ≤ n ∧ n ≤ 9223372036854775807
theorem uw_mod (n : Int) : uw n = n % 18446744073709551616 := by
  show (let m := n % (2 ^ 64 : Int); if false && decide (m ≥ (2 ^ (64 - 1) : Int)) then m - (2 ^ 64 : Int) else m) = _
  simp
theorem apart_eq {a b : Int} (ha : I64 a) (hb : I64 b) : apart a b = if a < b then b - a else a - b := by
  unfold apart
  simp only [uw_mod]
  split <;> omega
theorem meets_own {b bt m mt : Int} (h1 : I64 b) (h2 : I64 bt) (h3 : I64 m) (h4 : I64 mt) : meets b bt m mt b m = decide (0 ≤ bt ∧ 0 ≤ mt) := by
  unfold meets
  rw [apart_eq h1 h1, apart_eq h3 h3, if_neg (by omega), if_neg (by omega), uw_mod, uw_mod]
  have e1 : (b - b ≤ bt % 18446744073709551616) = True := eq_true (by omega)
  have e2 : (m - m ≤ mt % 18446744073709551616) = True := eq_true (by omega)
  rw [decide_eq_true (of_eq_true e1), decide_eq_true (of_eq_true e2)]
  simp
theorem apart_comm (a b : Int) : apart a b = apart b a := by
  unfold apart
  by_cases h1 : a < b
  · rw [if_pos h1, if_neg (by omega)]
  · by_cases h2 : b < a
    · rw [if_neg h1, if_pos h2]
    · have : a = b := by omega
      rw [this]
theorem same_comm (b bt m mt b' bt' m' mt' : Int) : same b bt m mt b' bt' m' mt' = same b' bt' m' mt' b bt m mt := by
  unfold same
  rw [apart_comm b b', apart_comm m m', Int.add_comm (uw bt), Int.add_comm (uw mt)]
  congr 1
  simp only [decide_eq_decide]
  omega
theorem same_own {b bt m mt : Int} (h1 : I64 b) (h2 : I64 bt) (h3 : I64 m) (h4 : I64 mt) : same b bt m mt b bt m mt = decide (0 ≤ bt ∧ 0 ≤ mt) := by
  unfold same
  rw [apart_eq h1 h1, apart_eq h3 h3, if_neg (by omega), if_neg (by omega)]
  simp only [uw_mod]
  rw [decide_eq_true (show b - b ≤ (bt % 18446744073709551616 + bt % 18446744073709551616) % 18446744073709551616 by omega), decide_eq_true (show m - m ≤ (mt % 18446744073709551616 + mt % 18446744073709551616) % 18446744073709551616 by omega)]
  simp only [Bool.and_true, decide_eq_decide]
  omega
theorem meets_same {b bt m mt b' bt' m' mt' rb rm : Int} (h1 : I64 b) (h2 : I64 bt) (h3 : I64 m) (h4 : I64 mt) (k1 : I64 b') (k2 : I64 bt') (k3 : I64 m') (k4 : I64 mt') (r1 : I64 rb) (r2 : I64 rm)
    (ha : meets b bt m mt rb rm = true) (hb : meets b' bt' m' mt' rb rm = true) : same b bt m mt b' bt' m' mt' = true := by
  unfold meets at ha hb
  unfold same
  rw [apart_eq h1 r1, apart_eq h3 r2] at ha
  rw [apart_eq k1 r1, apart_eq k3 r2] at hb
  rw [apart_eq h1 k1, apart_eq h3 k3]
  simp only [uw_mod, Bool.and_eq_true, decide_eq_true_eq] at ha hb ⊢
  obtain ⟨⟨a1, a2⟩, a3, a4⟩ := ha
  obtain ⟨⟨b1, b2⟩, b3, b4⟩ := hb
  refine ⟨⟨a1, a2, b1, b2⟩, ?_, ?_⟩
  · clear a4 b4
    split <;> split at a3 <;> split at b3 <;> omega
  · clear a3 b3
    split <;> split at a4 <;> split at b4 <;> omega
def S9 : List A → List C := fun _ => [.bool true]
def tbl9 : FuncId → List A → List C := fun f ds => match f with
  | 11 => S11 ds
  | 16 => S16 ds
  | 18 => S18 ds
  | _ => []
theorem pc9  {x1 : ByteArray} {x2 : Int} {x3 : Int} {x4 : Int} {x5 : Int} {x6 : Int} {x7 : List (List C)} {x8 : Int} {x9 : ByteArray} {x10 : Int} {x11 : Int} {x12 : Int} {x13 : Int} {x14 : Int} {x15 : List (List C)} {x16 : Int} {x17 : Int} {x18 : Int} {row : List C} (hS : S9 [.agg [.c (.str x1), .c (.int .i64 x2), .c (.int .i64 x3), .c (.int .i64 x4), .c (.int .i64 x5), .c (.int .i64 x6), .c (.sl [.int .i64] x7), .c (.int .i64 x8)], .agg [.c (.str x9), .c (.int .i64 x10), .c (.int .i64 x11), .c (.int .i64 x12), .c (.int .i64 x13), .c (.int .i64 x14), .c (.sl [.int .i64] x15), .c (.int .i64 x16)], .agg [.c (.int .i64 x17), .c (.int .i64 x18)]] = row) (h : vc9 (stdE Try.prog tbl9) x1 x2 x3 x4 x5 x6 x7 x8 x9 x10 x11 x12 x13 x14 x15 x16 x17 x18 fun c => c = row) : PCg Try.prog 9 S9 [(false, [.bool])] [.agg [.c (.str x1), .c (.int .i64 x2), .c (.int .i64 x3), .c (.int .i64 x4), .c (.int .i64 x5), .c (.int .i64 x6), .c (.sl [.int .i64] x7), .c (.int .i64 x8)], .agg [.c (.str x9), .c (.int .i64 x10), .c (.int .i64 x11), .c (.int .i64 x12), .c (.int .i64 x13), .c (.int .i64 x14), .c (.sl [.int .i64] x15), .c (.int .i64 x16)], .agg [.c (.int .i64 x17), .c (.int .i64 x18)]] := PureC_vc mo h9 (by kernel_rfl) hS (w9  h)
theorem p9 (n : ByteArray) (b bt m mt c : Int) (r : List (List C)) (p : Int) (n' : ByteArray) (b' bt' m' mt' c' : Int) (r' : List (List C)) (p' rb rm : Int)
    (h1 : I64 b) (h2 : I64 bt) (h3 : I64 m) (h4 : I64 mt) (k1 : I64 b') (k2 : I64 bt') (k3 : I64 m') (k4 : I64 mt') (r1 : I64 rb) (r2 : I64 rm) :
    PureC Try.prog 9 [kB] [gA n b bt m mt c r p, gA n' b' bt' m' mt' c' r' p', .agg [iC rb, iC rm]] fun _ => .bool true := by
  refine PureC.one (get := fun i => (S9 [gA n b bt m mt c r p, gA n' b' bt' m' mt' c' r' p', .agg [iC rb, iC rm]]).getD i .nil) (pc9 (row := [.bool true]) rfl ?_) rfl
  unfold vc9
  simp only [stdE, baseE, Br_iff, Imp_iff, tbl9, forall_eq]
  simp only [p11, p16, p18, implies_true, true_and]
  simp only [e11, e16, e18, List.getD_cons_zero, gb_bool]
  have hs := meets_same h1 h2 h3 h4 k1 k2 k3 k4 r1 r2
  rw [meets_own h1 h2 h3 h4, same_own h1 h2 h3 h4, same_comm b' bt' m' mt' b bt m mt]
  generalize meets b bt m mt rb rm = x at hs ⊢
  generalize meets b' bt' m' mt' rb rm = y at hs ⊢
  generalize same b bt m mt b' bt' m' mt' = z at hs ⊢
  by_cases q1 : 0 ≤ bt <;> by_cases q2 : 0 ≤ mt <;> cases x <;> cases y <;> cases z <;> simp [q1, q2] at hs ⊢
end Go.Proofs.Ytljnpioekbdcaaa.V
