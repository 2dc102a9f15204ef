/- Defects: the ends of joined ones. No conditions. -/
import Derived.Test.YtkdapoipnkpbeaaMerged
set_option linter.unusedVariables false
set_option linter.unusedSimpArgs false
namespace Go.Proofs.Ytkdapoipnkpbeaa.V
open Go Go.Eng
set_option maxRecDepth 1000000
set_option maxHeartbeats 1000000
/-- One of the first k is of the kind of x, lies within it, and q holds of it. -/
def fnd (rs : List I6) (x : I6) (q : I6 → Bool) : Bool := rs.any fun y => decide (y.2.2.2.2.1 = x.2.2.2.2.1) && witD y x && q y
theorem fnd_take {rs : List I6} {x : I6} {q : I6 → Bool} {k : Nat} (h : k < rs.length) : fnd (rs.take (k + 1)) x q = (fnd (rs.take k) x q || (decide ((rs.getD k z6).2.2.2.2.1 = x.2.2.2.2.1) && witD (rs.getD k z6) x && q (rs.getD k z6))) := any_take _ _ z6 h
theorem fnd_all {rs : List I6} {x : I6} {q : I6 → Bool} (hok : ∀ r ∈ rs, okD r) {y : I6} (hy : y ∈ rs) (h : inD y x) (hq : q y = true) : fnd rs x q = true := by
  refine List.any_eq_true.2 ⟨y, hy, ?_⟩
  have hk := h.2.2.2.2
  rw [decide_eq_true hk, (wit_inD (hok y hy) hk).2 h, hq]; rfl
def S7 : List A → List C := fun _ => [.bool true]
def tbl7 : FuncId → List A → List C := fun f ds => match f with
  | 10 => S10 ds
  | 11 => S11 ds
  | 26 => S26 ds
  | _ => []
theorem pc7  {x1 : List (List C)} {x2 : Int} {row : List C} (hS : S7 [.c (.sl [.int .i64, .int .i64, .int .i64, .int .i64, .int .i64, .int .i64] x1), .c (.int .i64 x2)] = row) (h : vc7 (stdE Try.prog tbl7) x1 x2 fun c => c = row) : PCg Try.prog 7 S7 [(false, [.bool])] [.c (.sl [.int .i64, .int .i64, .int .i64, .int .i64, .int .i64, .int .i64] x1), .c (.int .i64 x2)] := PureC_vc mo h7 (by kernel_rfl) hS (w7  h)
theorem p7 {rs : List I6} {g : Int} : PureC Try.prog 7 [kB] [s6 (row6 rs), iC g] fun _ => .bool true := by
  refine PureC.one (get := fun i => (S7 [s6 (row6 rs), iC g]).getD i .nil) (pc7 (row := [.bool true]) rfl ?_) rfl
  unfold vc7
  simp only [stdE, baseE, Br_iff, Imp_iff, tbl7, p10, true_and, implies_true, forall_eq, decide_eq_true_eq, decide_eq_false_iff_not, row6_len]
  refine ⟨fun _ => rfl, fun h => ?_⟩
  have hl : rs.length ≤ 1000000 := by omega
  simp only [p11 hl, true_and]
  simp only [e11, List.getD_cons_zero, List.getD_cons_succ, gi_int, gl_sl, row6_len, Bool.not_eq_true', Bool.not_eq_false', beq_iff_eq, beq_eq_false_iff_ne, ne_eq]
  refine ⟨fun h1 => rfl, fun h1 => ?_⟩
  obtain ⟨hI, hN, hE, hS⟩ := mrgL_ok h1
  have hg := mrgE_ok h1
  have hok := (allD_ok hg.1).2
  generalize mrgL rs g = m at *
  have hml : m.length ≤ rs.length := hI.len
  simp only [row6_c0, row6_c1, row6_c2, row6_c3, row6_c4, row6_c5]
  refine LoopP1.run (fun n : Nat => (n : Int)) (fun n => n ≤ m.length) (fun n => m.length - n) 0 (Nat.zero_le _) rfl ?_
  intro n hn K hK
  simp only [toNat_cast]
  refine ⟨fun h2 => ⟨by omega, ?_⟩, fun h2 => ?_⟩
  · have hlt : n < m.length := by omega
    obtain ⟨k0, k1, k2, k3, k4⟩ := hI.src _ (getD_mem (d := z6) hlt)
    generalize m.getD n z6 = x at *
    refine LoopP6.run (fun k : Nat => fnd (rs.take k) x fun y => decide (y.1 = x.1)) (fun k => fnd (rs.take k) x fun y => decide (y.2.1 = x.2.1)) (fun k => fnd (rs.take k) x fun y => decide (y.2.2.1 = x.2.2.1)) (fun k => fnd (rs.take k) x fun y => decide (y.2.2.2.1 = x.2.2.2.1)) (fun k => fnd (rs.take k) x fun y => decide (y.2.2.2.2.2 = x.2.2.2.2.2)) (fun k : Nat => (k : Int)) (fun k => k ≤ rs.length) (fun k => rs.length - k) 0 (Nat.zero_le _) rfl rfl rfl rfl rfl rfl ?_
    intro k hk K2 hK2
    simp only [toNat_cast, p26, implies_true, true_and]
    simp only [e26, List.getD_cons_zero, gb_bool, ite_or, ite_and, Bool.decide_eq_true]
    refine ⟨fun h3 => ⟨by omega, ?_⟩, fun h3 => ?_⟩
    · have hkl : k < rs.length := by omega
      have f0 := fnd_take (x := x) (q := fun y => decide (y.1 = x.1)) hkl
      have f1 := fnd_take (x := x) (q := fun y => decide (y.2.1 = x.2.1)) hkl
      have f2 := fnd_take (x := x) (q := fun y => decide (y.2.2.1 = x.2.2.1)) hkl
      have f3 := fnd_take (x := x) (q := fun y => decide (y.2.2.2.1 = x.2.2.2.1)) hkl
      have f4 := fnd_take (x := x) (q := fun y => decide (y.2.2.2.2.2 = x.2.2.2.2.2)) hkl
      generalize rs.getD k z6 = y at *
      refine ⟨fun h4 => ⟨by decide, by decide, by decide, by decide, by decide, by decide, by decide, by decide, by decide, by decide, ?_⟩, fun h4 => ?_⟩
      · have h4' : (decide (y.2.2.2.2.1 = x.2.2.2.2.1) && witD y x) = true := h4
        rw [h4', Bool.true_and] at f0 f1 f2 f3 f4
        exact hK2 _ _ _ _ _ _ (k + 1) hkl (by omega) f0.symm f1.symm f2.symm f3.symm f4.symm (wrap_up rfl (by omega))
      · have h4' : (decide (y.2.2.2.2.1 = x.2.2.2.2.1) && witD y x) = false := h4
        rw [h4', Bool.false_and, Bool.or_false] at f0 f1 f2 f3 f4
        exact hK2 _ _ _ _ _ _ (k + 1) hkl (by omega) f0.symm f1.symm f2.symm f3.symm f4.symm (wrap_up rfl (by omega))
    · rw [show k = rs.length by omega, List.take_length]
      have g0 : fnd rs x (fun y => decide (y.1 = x.1)) = true := by obtain ⟨y, a, b, c⟩ := k0; exact fnd_all hok a b (decide_eq_true c)
      have g1 : fnd rs x (fun y => decide (y.2.1 = x.2.1)) = true := by obtain ⟨y, a, b, c⟩ := k1; exact fnd_all hok a b (decide_eq_true c)
      have g2 : fnd rs x (fun y => decide (y.2.2.1 = x.2.2.1)) = true := by obtain ⟨y, a, b, c⟩ := k2; exact fnd_all hok a b (decide_eq_true c)
      have g3 : fnd rs x (fun y => decide (y.2.2.2.1 = x.2.2.2.1)) = true := by obtain ⟨y, a, b, c⟩ := k3; exact fnd_all hok a b (decide_eq_true c)
      have g4 : fnd rs x (fun y => decide (y.2.2.2.2.2 = x.2.2.2.2.2)) = true := by obtain ⟨y, a, b, c⟩ := k4; exact fnd_all hok a b (decide_eq_true c)
      rw [g0, g1, g2, g3, g4]
      exact ⟨by decide, by decide, fun _ => by decide, fun _ => by decide, fun _ => by decide, fun _ => by decide, fun _ => by decide, fun _ => by decide, fun _ => by decide, fun _ => by decide, fun w => (by cases w), fun _ => hK _ (n + 1) hlt (by omega) (wrap_up rfl (by omega))⟩
  · have : (((rs.length : Int) == 0) == ((m.length : Int) == 0)) = true := by
      cases rs with
      | nil =>
        have : m.length = 0 := by simpa using hml
        rw [this]; rfl
      | cons a l =>
        have hm : m ≠ [] := hI.ne (by simp)
        cases m with
        | nil => exact absurd rfl hm
        | cons b l2 =>
          have e1 : (((a :: l).length : Int) == 0) = false := by simp; omega
          have e2 : (((b :: l2).length : Int) == 0) = false := by simp; omega
          rw [e1, e2]; rfl
    rw [if_pos (eq_of_beq this)]
    rfl
end Go.Proofs.Ytkdapoipnkpbeaa.V
