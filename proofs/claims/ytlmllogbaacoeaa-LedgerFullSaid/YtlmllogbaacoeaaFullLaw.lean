/- Ledgers: a ledger takes 512 postings. No conditions. -/
import Derived.Test.YtlmllogbaacoeaaGE
import Derived.Test.YtlmllogbaacoeaaChkLaw
set_option linter.unusedVariables false
set_option linter.unusedSimpArgs false
namespace Go.Proofs.Ytlmllogbaacoeaa.V
open Go Go.Eng
set_option maxRecDepth 1000000
set_option maxHeartbeats 1000000
def S31 : List A → List C := fun ds => match ds with
  | [.c (.int _ i), .c (.int _ t), .c (.int _ f), .c (.int _ o), .c (.int _ a)] => [.int .i64 i, .int .i64 t, .sl L2 (row2 [(o, a), (f, IntKind.i64.wrap (0 - a))])]
  | _ => []
theorem e31 (i t f o a : Int) : S31 [iC i, iC t, iC f, iC o, iC a] = [.int .i64 i, .int .i64 t, .sl L2 (row2 [(o, a), (f, IntKind.i64.wrap (0 - a))])] := rfl
def tbl31 : FuncId → List A → List C := fun f ds => match f with
  | _ => []
theorem pc31  {x1 : Int} {x2 : Int} {x3 : Int} {x4 : Int} {x5 : Int} {row : List C} (hS : S31 [.c (.int .i64 x1), .c (.int .i64 x2), .c (.int .i64 x3), .c (.int .i64 x4), .c (.int .i64 x5)] = row) (h : vc31 (stdE Try.prog tbl31) x1 x2 x3 x4 x5 fun c => c = row) : PCg Try.prog 31 S31 [(true, [.int .i64, .int .i64, .sl [.int .i64, .int .i64]])] [.c (.int .i64 x1), .c (.int .i64 x2), .c (.int .i64 x3), .c (.int .i64 x4), .c (.int .i64 x5)] := PureC_vc mo h31 (by kernel_rfl) hS (w31  h)
theorem p31 (i t f o a : Int) : PCg Try.prog 31 S31 [(true, PL)] [iC i, iC t, iC f, iC o, iC a] := by
  refine pc31 (e31 ..) ?_
  unfold vc31
  rfl
/-- The n-th posting, and the first n of them. -/
def fp (a : Int) (n : Nat) : PT := ((n : Int) + 1, (n : Int), [(2, a), (1, -a)])
def fps (a : Int) (n : Nat) : List PT := (List.range n).map (fp a)
theorem fps_len (a : Int) (n : Nat) : (fps a n).length = n := by simp [fps]
theorem fps_succ (a : Int) (n : Nat) : fps a (n + 1) = fps a n ++ [fp a n] := by simp [fps, List.range_succ]
theorem fps_get (a : Int) {n i : Nat} (h : i < n) : (fps a n).getD i zP = fp a i := by
  have h1 : i < (fps a n).length := by rw [fps_len]; exact h
  rw [getD_get h1]; simp [fps]
theorem fp_chk {a : Int} (h1 : 1 ≤ a) (h2 : a ≤ 65536) {n : Nat} (hn : n < 600) : chkP (fp a n) = 0 := by
  have hb : ([(2, a), (1, -a)] : List I2).any badI = false := by
    rw [List.any_eq_false]
    intro x hx
    rcases List.mem_cons.1 hx with rfl | hx
    · unfold badI; simp; omega
    · rcases List.mem_cons.1 hx with rfl | hx
      · unfold badI; simp; omega
      · cases hx
  have hs : sumTo (amt [(2, a), (1, -a)]) 2 = 0 := by
    show 0 + amt [(2, a), (1, -a)] 0 + amt [(2, a), (1, -a)] 1 = 0
    show 0 + a + -a = 0
    omega
  unfold chkP
  rw [if_neg (by show ¬((n : Int) + 1 < 1 ∨ 1000000 < (n : Int) + 1 ∨ (n : Int) < 0 ∨ 2147483647 < (n : Int)); omega), if_neg (by show ¬(2 < 2); omega), if_neg (by show ¬(16 < 2); omega)]
  rw [if_neg (show ¬((fp a n).2.2.any badI = true) by rw [show (fp a n).2.2 = [(2, a), (1, -a)] from rfl, hb]; simp)]
  exact if_neg (not_not_intro hs)
theorem fp_amtK (a : Int) (n : Nat) (k : Int) : amtK (fp a n).2.2 k = if k = 2 then a else if k = 1 then -a else 0 := by
  show 0 + itemK [(2, a), (1, -a)] k 0 + itemK [(2, a), (1, -a)] k 1 = _
  show 0 + (if (2 : Int) = k then a else 0) + (if (1 : Int) = k then -a else 0) = _
  by_cases h2 : k = 2
  · subst h2; simp
  · by_cases h1 : k = 1
    · subst h1; simp
    · rw [if_neg h2, if_neg h1, if_neg (fun h => h2 h.symm), if_neg (fun h => h1 h.symm)]; rfl
theorem fps_bal {a : Int} (h1 : 1 ≤ a) (h2 : a ≤ 65536) (k : Int) : ∀ n, n < 600 → bal (fps a n) k = if k = 2 then n * a else if k = 1 then -(n * a) else 0
  | 0, _ => by show (0 : Int) = _; simp
  | n + 1, hn => by
    rw [fps_succ, bal_app _ (fp_chk h1 h2 (by omega)), fps_bal h1 h2 k n (by omega), fp_amtK]
    have e : ((n + 1 : Nat) : Int) * a = n * a + a := by rw [Int.natCast_add, Int.add_mul]; simp
    rw [e]
    split
    · rfl
    · split
      · omega
      · rfl
theorem fps_chk {a : Int} (h1 : 1 ≤ a) (h2 : a ≤ 65536) {n : Nat} (hn : n ≤ 512) : ∀ p ∈ fps a n, chkP p = 0 := fun p hp => by
  simp only [fps, List.mem_map, List.mem_range] at hp
  obtain ⟨i, hi, rfl⟩ := hp
  exact fp_chk h1 h2 (by omega)
theorem fps_na {a : Int} (h1 : 1 ≤ a) (h2 : a ≤ 65536) {n : Nat} (hn : n ≤ 513) : 0 ≤ (n : Int) * a ∧ (n : Int) * a ≤ 33619968 := by
  constructor
  · exact Int.mul_nonneg (by omega) (by omega)
  · have h3 : (n : Int) * a ≤ 513 * a := Int.mul_le_mul_of_nonneg_right (by omega) (by omega)
    omega
/-- What posting the next one answers. -/
theorem fps_post {a : Int} (h1 : 1 ≤ a) (h2 : a ≤ 65536) {n i : Nat} (hi : i < 600) (hn : n = min i 512) : postE (fps a n) (fp a i) = if i < 512 then 0 else 8 := by
  have hl : n ≤ 512 := by omega
  have hd : dupB (fps a n) (fp a i).1 = false := by
    unfold dupB
    rw [List.any_eq_false]
    intro q hq
    simp only [fps, List.mem_map, List.mem_range] at hq
    obtain ⟨j, hj, rfl⟩ := hq
    show ¬(((j : Int) + 1 == (i : Int) + 1) = true)
    simp; omega
  have hlt : lateB (fps a n) (fp a i).2.1 = false := by
    unfold lateB
    rw [fps_len]
    refine decide_eq_false fun ⟨h3, h4⟩ => ?_
    rw [fps_get a (by omega)] at h4
    change (i : Int) < ((n - 1 : Nat) : Int) at h4
    omega
  have ho : ovfB (fps a n) (fp a i) = false := by
    unfold ovfB
    rw [List.any_eq_false]
    intro x hx
    have hb : ∀ k, bal (fps a n ++ [fp a i]) k = (if k = 2 then n * a else if k = 1 then -(n * a) else 0) + (if k = 2 then a else if k = 1 then -a else 0) := fun k => by
      rw [bal_app _ (fp_chk h1 h2 hi), fps_bal h1 h2 k n (by omega), fp_amtK]
    rw [hb]
    have := fps_na h1 h2 (n := n) (by omega)
    simp only [decide_eq_true_eq]
    split
    · omega
    · split
      · omega
      · omega
  unfold postE
  rw [if_neg (not_not_intro (fp_chk h1 h2 hi)), if_neg (by rw [hd]; simp), if_neg (by rw [hlt]; simp), if_neg (by rw [ho]; simp), fps_len]
  by_cases h : i < 512
  · rw [if_neg (by omega), if_pos h]
  · rw [if_pos (by omega), if_neg h]
def S9 : List A → List C := fun _ => [.bool true]
def tbl9 : FuncId → List A → List C := fun f ds => match f with
  | 12 => S12 ds
  | 31 => S31 ds
  | _ => []
theorem pc9 (ce15 : NewC Try.prog 15) (ce18 : PostC Try.prog 18) (ce21 : PgsC Try.prog 21) (ce26 : BalC Try.prog 26) {x1 : Int} {x2 : Int} {row : List C} (hS : S9 [.c (.int .u16 x1), .c (.int .u8 x2)] = row) (h : vc9 (stdE Try.prog tbl9) x1 x2 fun c => c = row) : PCg Try.prog 9 S9 [(false, [.bool])] [.c (.int .u16 x1), .c (.int .u8 x2)] := PureC_vc mo h9 (by kernel_rfl) hS (w9 ce15 ce18 ce21 ce26 h)
theorem p9 {x y : Int} (hx0 : 0 ≤ x) (hx1 : x ≤ 65535) (hy0 : 0 ≤ y) (hy1 : y ≤ 255) : PureC Try.prog 9 [kB] [.c (.int .u16 x), .c (.int .u8 y)] fun _ => .bool true := by
  refine PureC.one (get := fun i => (S9 [.c (.int .u16 x), .c (.int .u8 y)]).getD i .nil) (pc9 c15 c18 c21 c26 (row := [.bool true]) rfl ?_) rfl
  obtain ⟨d, hd, hd9⟩ : ∃ d : Nat, y.tmod 9 = d ∧ d < 9 := by
    have g1 := Int.tmod_nonneg 9 hy0
    have g2 := Int.tmod_lt_of_pos y (show (0 : Int) < 9 by omega)
    exact ⟨(y.tmod 9).toNat, by omega, by omega⟩
  unfold vc9 spNew
  simp only [stdE, baseE, Br_iff, Imp_iff, tbl9, forall_eq, hd, bite_or, bite_and]
  rw [wrap_in (n := (d : Int)) (by omega) (by omega), wrap_in (n := 508 + (d : Int)) (by omega) (by omega), wrap_in (n := x) (by omega) (by omega), wrap_in (n := 1 + x) (by omega) (by omega)]
  obtain ⟨a, ha⟩ : ∃ a : Int, 1 + x = a := ⟨_, rfl⟩
  rw [ha]
  have h1 : 1 ≤ a := by omega
  have h2 : a ≤ 65536 := by omega
  simp only [p12, p31, implies_true, true_and]
  simp only [e12, e31, List.getD_cons_zero, List.getD_cons_succ, gi_int, gl_sl, gb_bool, Bool.and_true, Bool.or_eq_true, Bool.or_eq_false_iff, Bool.not_eq_true', Bool.not_eq_false', Bool.and_eq_true, Bool.and_eq_false_iff, decide_eq_true_eq, decide_eq_false_iff_not, implies_true, true_and, and_true, reduceCtorEq, false_implies, beq_iff_eq, beq_eq_false_iff_ne]
  have ew : IntKind.i64.wrap (0 - a) = -a := by rw [wrap_in (by omega) (by omega)]; omega
  rw [ew]
  refine fun _ => ⟨by decide, ?_⟩
  refine LoopP3.run (fun p : Nat × List (Int × C) => rowsP (fps a (min p.1 512))) (fun p => p.2) (fun p => (p.1 : Int)) (fun p => p.1 ≤ 508 + d ∧ LInv (fps a (min p.1 512)) p.2) (fun p => 508 + d - p.1) (0, []) ⟨Nat.zero_le _, (fun q hq => by cases hq), Nat.zero_le _, fun k => rfl⟩ rfl rfl rfl ?_
  rintro ⟨n, m⟩ ⟨hn, hm⟩ K hK
  dsimp only at hn hm ⊢
  refine ⟨fun hlt => ?_, fun hge => ?_⟩
  · rw [wrap_up rfl (by omega)]
    have hp := fps_post h1 h2 (n := min n 512) (i := n) (by omega) rfl
    have ef : (((n + 1 : Nat) : Int), (n : Int), [(2, a), (1, -a)]) = fp a n := by unfold fp; rw [Int.natCast_add]; rfl
    refine ⟨fps a (min n 512), [(2, a), (1, -a)], rfl, rfl, hm, ?_, ?_⟩
    · rw [ef, hp]
      intro he m' hm'
      have hn5 : ¬ n < 512 := fun h => he (if_pos h)
      rw [if_neg hn5]
      refine ⟨fun _ _ => ⟨Or.inl (by omega), by omega⟩, fun h => ?_, fun h => ?_⟩
      · rcases h with h | h
        · omega
        · exact absurd rfl h.2
      · refine hK _ _ _ (n + 1, m') ⟨by dsimp only; omega, ?_⟩ (by dsimp only; omega) ?_ rfl rfl
        · dsimp only; rw [show min (n + 1) 512 = min n 512 by omega]; exact hm'
        · dsimp only; rw [show min (n + 1) 512 = min n 512 by omega]
    · rw [ef, hp]
      intro he m' hm'
      have hn5 : n < 512 := by
        by_cases h : n < 512
        · exact h
        · rw [if_neg h] at he; exact absurd he (by decide)
      have e1 : fps a (min n 512) ++ [fp a n] = fps a (min (n + 1) 512) := by
        rw [show min n 512 = n by omega, show min (n + 1) 512 = n + 1 by omega, fps_succ]
      rw [e1] at hm' ⊢
      refine ⟨fun _ h => by omega, fun h => ?_, fun h => hK _ _ _ (n + 1, m') ⟨by dsimp only; omega, hm'⟩ (by dsimp only; omega) rfl rfl rfl⟩
      rcases h with h | h
      · exact absurd rfl h.2
      · omega
  · have hn : n = 508 + d := by omega
    subst hn
    refine ⟨fps a (min (508 + d) 512), rfl, hm.1, by rw [fps_len]; omega, ?_⟩
    dsimp only
    rw [rowsP_len, fps_len]
    have hb := hm.2.2 2
    rw [fps_bal h1 h2 2 _ (by omega), if_pos rfl] at hb
    have em : (if (512 : Int) < 508 + (d : Int) then 512 else 508 + (d : Int)) = ((min (508 + d) 512 : Nat) : Int) := by
      split <;> omega
    rw [em]
    have hna := fps_na h1 h2 (n := min (508 + d) 512) (by omega)
    refine ⟨rfl, ?_⟩
    unfold spBal
    dsimp only
    rw [hb, wrap_in (by omega) (by omega)]
    simp
end Go.Proofs.Ytlmllogbaacoeaa.V
