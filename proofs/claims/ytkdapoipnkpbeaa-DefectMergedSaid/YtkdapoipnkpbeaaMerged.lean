/- Defects: the worst of them; what joined ones are. No conditions. -/
import Derived.Test.YtkdapoipnkpbeaaMLaw
import Derived.Test.YtkdapoipnkpbeaaGE
set_option linter.unusedVariables false
set_option linter.unusedSimpArgs false
namespace Go.Proofs.Ytkdapoipnkpbeaa.V
open Go Go.Eng
set_option maxRecDepth 1000000
set_option maxHeartbeats 1000000
/-- The greatest level. -/
def wst (rs : List I6) : Int := rs.foldl (fun m r => mx m r.2.2.2.2.2) 0
theorem wst_fold (rs : List I6) : ∀ n : Int, n ≤ rs.foldl (fun m r => mx m r.2.2.2.2.2) n ∧ (∀ r ∈ rs, r.2.2.2.2.2 ≤ rs.foldl (fun m r => mx m r.2.2.2.2.2) n) ∧ ∀ k, n ≤ k → (∀ r ∈ rs, r.2.2.2.2.2 ≤ k) → rs.foldl (fun m r => mx m r.2.2.2.2.2) n ≤ k := by
  induction rs with
  | nil => intro n; exact ⟨Int.le_refl _, fun r hr => (by cases hr), fun k h _ => h⟩
  | cons q l ih =>
    intro n
    obtain ⟨h1, h2, h3⟩ := ih (mx n q.2.2.2.2.2)
    have hx := le_mx n q.2.2.2.2.2
    refine ⟨Int.le_trans hx.1 h1, fun r hr => ?_, fun k hk hr => ?_⟩
    · rcases List.mem_cons.1 hr with rfl | hr
      · exact Int.le_trans hx.2 h1
      · exact h2 r hr
    · refine h3 k ?_ fun r hr' => hr r (List.mem_cons_of_mem _ hr')
      have := hr q (List.mem_cons_self ..)
      rcases mx_or n q.2.2.2.2.2 with e | e <;> omega
theorem wst_inv {l m : List I6} (h : Inv l m) : wst l = wst m := by
  obtain ⟨a1, a2, a3⟩ := wst_fold l 0
  obtain ⟨b1, b2, b3⟩ := wst_fold m 0
  refine Int.le_antisymm (a3 _ b1 fun r hr => ?_) (b3 _ a1 fun r hr => ?_)
  · obtain ⟨x, hx, _, k⟩ := h.cov r hr
    exact Int.le_trans k (b2 x hx)
  · obtain ⟨_, _, _, _, y, hy, _, k⟩ := h.src r hr
    rw [← k]; exact a2 y hy
def sWst : List A → List C := fun ds => match ds with
  | [.c (.sl _ xs)] => [.int .i64 (if allD (un6 xs) = 0 then wst (un6 xs) else 0), .int .i64 (allD (un6 xs))]
  | _ => []
def S20 : List A → List C := sWst
def S21 : List A → List C := sWst
theorem e20 (rs : List I6) : S20 [s6 (row6 rs)] = [.int .i64 (if allD rs = 0 then wst rs else 0), .int .i64 (allD rs)] := by
  show [C.int .i64 (if allD (un6 (row6 rs)) = 0 then wst (un6 (row6 rs)) else 0), C.int .i64 (allD (un6 (row6 rs)))] = _
  rw [un6_row]
theorem e21 (rs : List I6) : S21 [s6 (row6 rs)] = [.int .i64 (if allD rs = 0 then wst rs else 0), .int .i64 (allD rs)] := e20 rs
def tbl20 : FuncId → List A → List C := fun f ds => match f with
  | 13 => S13 ds
  | _ => []
theorem pc20  {x1 : List (List C)} {row : List C} (hS : S20 [.c (.sl [.int .i64, .int .i64, .int .i64, .int .i64, .int .i64, .int .i64] x1)] = row) (h : vc20 (stdE Try.prog tbl20) x1 fun c => c = row) : PCg Try.prog 20 S20 [(false, [.int .i64]), (false, [.int .i64])] [.c (.sl [.int .i64, .int .i64, .int .i64, .int .i64, .int .i64, .int .i64] x1)] := PureC_vc mo h20 (by kernel_rfl) hS (w20  h)
def tbl21 : FuncId → List A → List C := fun f ds => match f with
  | 14 => S14 ds
  | _ => []
theorem pc21  {x1 : List (List C)} {row : List C} (hS : S21 [.c (.sl [.int .i64, .int .i64, .int .i64, .int .i64, .int .i64, .int .i64] x1)] = row) (h : vc21 (stdE Try.prog tbl21) x1 fun c => c = row) : PCg Try.prog 21 S21 [(false, [.int .i64]), (false, [.int .i64])] [.c (.sl [.int .i64, .int .i64, .int .i64, .int .i64, .int .i64, .int .i64] x1)] := PureC_vc mo h21 (by kernel_rfl) hS (w21  h)
theorem p20 {rs : List I6} (hl : rs.length ≤ 1000000) : PCg Try.prog 20 S20 [kI, kI] [s6 (row6 rs)] := by
  refine pc20 (e20 rs) ?_
  unfold vc20
  simp only [stdE, baseE, Br_iff, tbl20, p13 hl, true_and, forall_eq, decide_eq_true_eq, decide_eq_false_iff_not, row6_len, row6_c5]
  simp only [e13, List.getD_cons_zero, gi_int, Bool.not_eq_true', Bool.not_eq_false', beq_iff_eq, beq_eq_false_iff_ne, ne_eq]
  refine ⟨fun h => by rw [if_neg h], fun h => ?_⟩
  rw [if_pos h, h]
  refine LoopP2.run (fun n : Nat => wst (rs.take n)) (fun n : Nat => (n : Int)) (fun n => n ≤ rs.length) (fun n => rs.length - n) 0 (Nat.zero_le _) rfl rfl ?_
  intro n hn K hK
  simp only [toNat_cast]
  refine ⟨fun h2 => ⟨by omega, hK _ _ (n + 1) (by omega) (by omega) ?_ (wrap_up rfl (by omega))⟩, fun h2 => ?_⟩
  · unfold wst
    rw [foldl_take _ _ _ z6 (by omega)]
    rfl
  · rw [show n = rs.length by omega, List.take_length]
theorem p21 {rs : List I6} (hl : rs.length ≤ 1000000) : PCg Try.prog 21 S21 [kI, kI] [s6 (row6 rs)] := by
  refine pc21 (e21 rs) ?_
  unfold vc21
  simp only [stdE, baseE, Br_iff, tbl21, p14 hl, true_and, forall_eq, decide_eq_true_eq, decide_eq_false_iff_not, row6_len, row6_c5]
  simp only [e14, List.getD_cons_zero, gi_int, Bool.not_eq_true', Bool.not_eq_false', beq_iff_eq, beq_eq_false_iff_ne, ne_eq]
  refine ⟨fun h => by rw [if_neg h], fun h => ?_⟩
  rw [if_pos h, h]
  refine LoopP2.run (fun n : Nat => wst (rs.take n)) (fun n : Nat => (n : Int)) (fun n => n ≤ rs.length) (fun n => rs.length - n) 0 (Nat.zero_le _) rfl rfl ?_
  intro n hn K hK
  simp only [toNat_cast]
  refine ⟨fun h2 => ⟨by omega, hK _ _ (n + 1) (by omega) (by omega) ?_ (wrap_up rfl (by omega))⟩, fun h2 => ?_⟩
  · unfold wst
    rw [foldl_take _ _ _ z6 (by omega)]
    rfl
  · rw [show n = rs.length by omega, List.take_length]
/-! ### Apart, within -/
def S25 : List A → List C := S58
def tbl25 : FuncId → List A → List C := fun f ds => match f with
  | _ => []
theorem pc25  {x1 : Int} {x2 : Int} {x3 : Int} {x4 : Int} {row : List C} (hS : S25 [.c (.int .i64 x1), .c (.int .i64 x2), .c (.int .i64 x3), .c (.int .i64 x4)] = row) (h : vc25 (stdE Try.prog tbl25) x1 x2 x3 x4 fun c => c = row) : PCg Try.prog 25 S25 [(false, [.int .i64])] [.c (.int .i64 x1), .c (.int .i64 x2), .c (.int .i64 x3), .c (.int .i64 x4)] := PureC_vc mo h25 (by kernel_rfl) hS (w25  h)
theorem p25 (a b c d : Int) : PCg Try.prog 25 S25 [kI] [iC a, iC b, iC c, iC d] := by
  refine pc25 rfl ?_
  unfold vc25
  simp only [stdE, baseE]
  rfl
theorem e25 (a b c d : Int) : S25 [iC a, iC b, iC c, iC d] = [.int .i64 (dstW a b c d)] := rfl
def S26 : List A → List C := tbl 26
theorem p26 (l r a b l' r' a' b' : Int) : PCg Try.prog 26 S26 [kB] [rc l r a b, rc l' r' a' b'] := c32 l r a b l' r' a' b'
theorem e26 (l r a b l' r' a' b' : Int) : S26 [rc l r a b, rc l' r' a' b'] = [.bool (wit l r a b l' r' a' b')] := rfl
def witD (y x : I6) : Bool := wit y.1 y.2.1 y.2.2.1 y.2.2.2.1 x.1 x.2.1 x.2.2.1 x.2.2.2.1
theorem wit_inD {y x : I6} (hy : okD y) (hk : y.2.2.2.2.1 = x.2.2.2.2.1) : witD y x = true ↔ inD y x := by
  unfold okD at hy
  unfold witD wit emp inD
  simp only [Bool.or_eq_true, Bool.and_eq_true, decide_eq_true_eq]
  omega
/-- What a merged list is. -/
theorem mrgL_ok {rs : List I6} {g : Int} (h : mrgE rs g = 0) : Inv rs (mrgL rs g) ∧ prs2 (mrgL rs g) g 0 = none ∧ mrgE (mrgL rs g) g = 0 ∧ mrgL (mrgL rs g) g = mrgL rs g := by
  obtain ⟨h1, h2, h3⟩ := mrgE_ok h
  obtain ⟨h4, h5⟩ := allD_ok h1
  obtain ⟨k1, k2⟩ := mrg_inv (g := g) _ rs rfl (Inv.refl h5)
  have e : mrgL rs g = mrg rs g := by rw [mrgL, if_pos h]
  rw [e]
  have hE : mrgE (mrg rs g) g = 0 := by
    unfold mrgE
    rw [if_pos (ok_allD (Nat.le_trans k1.len h4) k1.ok), if_neg (by omega)]
  exact ⟨k1, k2, hE, by rw [mrgL, if_pos hE, mrg_none k2]⟩
def S6 : List A → List C := fun _ => [.bool true]
def tbl6 : FuncId → List A → List C := fun f ds => match f with
  | 10 => S10 ds
  | 11 => S11 ds
  | 15 => S15 ds
  | 20 => S20 ds
  | 25 => S25 ds
  | 26 => S26 ds
  | _ => []
theorem pc6  {x1 : List (List C)} {x2 : Int} {row : List C} (hS : S6 [.c (.sl [.int .i64, .int .i64, .int .i64, .int .i64, .int .i64, .int .i64] x1), .c (.int .i64 x2)] = row) (h : vc6 (stdE Try.prog tbl6) x1 x2 fun c => c = row) : PCg Try.prog 6 S6 [(false, [.bool])] [.c (.sl [.int .i64, .int .i64, .int .i64, .int .i64, .int .i64, .int .i64] x1), .c (.int .i64 x2)] := PureC_vc mo h6 (by kernel_rfl) hS (w6  h)
theorem p6 {rs : List I6} {g : Int} : PureC Try.prog 6 [kB] [s6 (row6 rs), iC g] fun _ => .bool true := by
  refine PureC.one (get := fun i => (S6 [s6 (row6 rs), iC g]).getD i .nil) (pc6 (row := [.bool true]) rfl ?_) rfl
  unfold vc6
  simp only [stdE, baseE, Br_iff, Imp_iff, tbl6, p10, true_and, implies_true, forall_eq, decide_eq_true_eq, decide_eq_false_iff_not, row6_len]
  refine ⟨fun _ => rfl, fun h => ?_⟩
  have hl : rs.length ≤ 1000000 := by omega
  simp only [p11 hl, true_and]
  simp only [e11, List.getD_cons_zero, List.getD_cons_succ, gi_int, gl_sl, row6_len, Bool.not_eq_true', Bool.not_eq_false', beq_iff_eq, beq_eq_false_iff_ne, ne_eq]
  refine ⟨fun h1 => ?_, fun h1 => ?_⟩
  · rw [mrgL, if_neg h1]; rfl
  obtain ⟨hI, hN, hE, hS⟩ := mrgL_ok h1
  have hg := mrgE_ok h1
  have hok := (allD_ok hg.1).2
  generalize mrgL rs g = m at *
  have hml : m.length ≤ rs.length := hI.len
  simp only [row6_c0, row6_c1, row6_c2, row6_c3, row6_c4, row6_c5]
  refine LoopP1.run (fun n : Nat => (n : Int)) (fun n => n ≤ m.length) (fun n => m.length - n) 0 (Nat.zero_le _) rfl ?_
  intro n hn K hK
  simp only [toNat_cast]
  refine ⟨fun h2 => ?_, fun h2 => ?_⟩
  · have hlt : n < m.length := by omega
    refine LoopP1.run (fun k : Nat => (k : Int)) (fun k => k ≤ n) (fun k => n - k) 0 (Nat.zero_le _) rfl ?_
    intro k hk K2 hK2
    simp only [toNat_cast, p25, implies_true, true_and]
    refine ⟨fun h3 => ?_, fun h3 => hK _ (n + 1) hlt (by omega) (wrap_up rfl (by omega))⟩
    have hkl : k < m.length := by omega
    have hnr : nearR (m.getD n z6) (m.getD k z6) g = false := by
      rw [nearR_ok hg.2.1 (hI.ok _ (getD_mem hlt)) (hI.ok _ (getD_mem hkl)), nrB_comm]
      exact prs2_none hN (by omega) hlt
    simp only [e25, List.getD_cons_zero, gi_int, ite_and, Bool.decide_eq_true]
    have hb : (decide ((m.getD n z6).2.2.2.2.1 = (m.getD k z6).2.2.2.2.1) && decide (dstW (m.getD n z6).1 (m.getD n z6).2.1 (m.getD k z6).1 (m.getD k z6).2.1 ≤ g) && decide (dstW (m.getD n z6).2.2.1 (m.getD n z6).2.2.2.1 (m.getD k z6).2.2.1 (m.getD k z6).2.2.2.1 ≤ g)) = false := by
      rw [← hnr, Bool.and_assoc]; rfl
    rw [hb]
    exact ⟨by omega, by omega, by omega, fun h4 => (by cases h4), fun _ => hK2 _ (k + 1) (by omega) (by omega) (wrap_up rfl (by omega))⟩
  refine LoopP1.run (fun n : Nat => (n : Int)) (fun n => n ≤ rs.length) (fun n => rs.length - n) 0 (Nat.zero_le _) rfl ?_
  intro n hn K hK
  simp only [toNat_cast, p26, implies_true, true_and]
  simp only [e26, List.getD_cons_zero, gb_bool]
  refine ⟨fun h3 => ?_, fun h3 => ?_⟩
  · have hlt : n < rs.length := by omega
    have ho := hok _ (getD_mem (d := z6) hlt)
    obtain ⟨x, hx, q1, q2⟩ := hI.cov _ (getD_mem (d := z6) hlt)
    generalize rs.getD n z6 = y at *
    refine LoopP2.run (fun k : Nat => (m.take k).any fun x => decide (x.2.2.2.2.1 = y.2.2.2.2.1) && decide (y.2.2.2.2.2 ≤ x.2.2.2.2.2) && witD y x) (fun k : Nat => (k : Int)) (fun k => k ≤ m.length) (fun k => m.length - k) 0 (Nat.zero_le _) rfl rfl ?_
    intro k hk K2 hK2
    simp only [toNat_cast]
    refine ⟨fun h4 => ?_, fun h4 => ⟨fun h5 => ?_, fun _ => hK _ (n + 1) hlt (by omega) (wrap_up rfl (by omega))⟩⟩
    · have hkl : k < m.length := by omega
      refine ⟨fun _ => by omega, fun _ => by omega, fun _ => by omega, fun _ => by omega, fun a b => by rw [a, b]; simp, fun _ => by omega, fun _ => by omega, fun a b => by rw [a, b]; simp, hK2 _ _ (k + 1) hkl (by omega) ?_ (wrap_up rfl (by omega))⟩
      rw [any_take _ _ z6 hkl, ite_or, ite_and, ite_and, Bool.decide_eq_true, Bool.decide_eq_true]
      rfl
    · have hk2 : k = m.length := by omega
      subst hk2
      rw [List.take_length] at h5
      have : m.any (fun x => decide (x.2.2.2.2.1 = y.2.2.2.2.1) && decide (y.2.2.2.2.2 ≤ x.2.2.2.2.2) && witD y x) = true := by
        refine List.any_eq_true.2 ⟨x, hx, ?_⟩
        have hk3 : x.2.2.2.2.1 = y.2.2.2.2.1 := q1.2.2.2.2.symm
        rw [(wit_inD ho hk3.symm).2 q1, decide_eq_true hk3, decide_eq_true q2]; rfl
      rw [this] at h5; cases h5
  · have hml2 : m.length ≤ 1000000 := by omega
    have q1 := p11 (g := g) hml2
    simp only [PCg, e11] at q1
    simp only [q1, p20 hml2, p20 hl, true_and]
    simp only [e11, e20, List.getD_cons_zero, List.getD_cons_succ, gi_int, gl_sl, hS]
    simp only [p15 hml2, implies_true, true_and]
    have hm0 : allD m = 0 := (mrgE_ok hE).1
    simp only [e15, List.getD_cons_zero, gb_bool, e10, hE, hm0, hg.1, if_true, wst_inv hI, decide_true]
    have : (m.length : Int) ≤ rs.length := by omega
    simp [this]
end Go.Proofs.Ytkdapoipnkpbeaa.V
