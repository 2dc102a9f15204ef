/- Defects: what a clipped list is, without the reference. No conditions. -/
import Derived.Test.YtkdapoipnkpbeaaDClips
import Derived.Test.YtkdapoipnkpbeaaMeas
import Derived.Test.YtkdapoipnkpbeaaLens
import Derived.Test.YtkdapoipnkpbeaaGGc
set_option linter.unusedVariables false
set_option linter.unusedSimpArgs false
namespace Go.Proofs.Ytkdapoipnkpbeaa.V
open Go Go.Eng Go.Span Go.Proofs.Ytkdapoipnkpbeaa.R
set_option maxRecDepth 1000000
set_option maxHeartbeats 1000000
theorem whole_one {q : I6} (h : okD q) : comQ q 0 12000 0 17179869184 = true ∧ cutQ q 0 12000 0 17179869184 = q := by
  unfold okD at h
  have m1 : mx q.1 0 = q.1 := by unfold mx; split <;> omega
  have m2 : mn q.2.1 12000 = q.2.1 := by unfold mn; split <;> omega
  have m3 : mx q.2.2.1 0 = q.2.2.1 := by unfold mx; split <;> omega
  have m4 : mn q.2.2.2.1 17179869184 = q.2.2.2.1 := by unfold mn; split <;> omega
  constructor
  · unfold comQ
    rw [com_is]
    unfold comE emp
    rw [m1, m2, m3, m4, decide_eq_false (by omega), decide_eq_false (by omega)]; rfl
  · unfold cutQ
    rw [m1, m2, m3, m4]
theorem whole {rs : List I6} (h : ∀ r ∈ rs, okD r) : clpD rs 0 12000 0 17179869184 = rs := by
  unfold clpD
  rw [List.filter_eq_self.2 fun q hq => (whole_one (h q hq)).1]
  exact (List.map_congr_left fun q hq => (whole_one (h q hq)).2).trans (List.map_id rs)
theorem sel_one {rs : List I6} (h : ∀ r ∈ rs, okD r) : sel rs 0 1 = rs := by
  unfold sel
  refine List.filter_eq_self.2 fun q hq => ?_
  have := h q hq
  unfold okD at this
  unfold delD
  rw [decide_eq_false (by omega)]; rfl
theorem com_pos {q : I6} {l r a b : Int} (h : comQ q l r a b = true) : mx q.1 l < mn q.2.1 r ∧ mx q.2.2.1 a < mn q.2.2.2.1 b := by
  unfold comQ at h
  rw [com_is] at h
  unfold comE emp at h
  simp only [Bool.not_eq_true', Bool.or_eq_false_iff, decide_eq_false_iff_not] at h
  omega
theorem le_mx1 (a b : Int) : a ≤ mx a b ∧ b ≤ mx a b := le_mx a b
theorem mn_le1 (a b : Int) : mn a b ≤ a ∧ mn a b ≤ b := by unfold mn; split <;> omega
theorem cut_ok {q : I6} {l r a b : Int} (hq : okD q) (hr : 0 ≤ l ∧ l ≤ r ∧ r ≤ 12000 ∧ 0 ≤ a ∧ a ≤ b ∧ b ≤ 17179869184) (h : comQ q l r a b = true) : okD (cutQ q l r a b) := by
  have h1 := com_pos h
  have a1 := le_mx1 q.1 l; have a2 := mn_le1 q.2.1 r; have a3 := le_mx1 q.2.2.1 a; have a4 := mn_le1 q.2.2.2.1 b
  unfold okD at *
  unfold cutQ
  dsimp only
  omega
theorem clp_ok {rs : List I6} {l r a b : Int} (h : ∀ r ∈ rs, okD r) (hr : 0 ≤ l ∧ l ≤ r ∧ r ≤ 12000 ∧ 0 ≤ a ∧ a ≤ b ∧ b ≤ 17179869184) : ∀ q ∈ clpD rs l r a b, okD q := fun q hq => by
  obtain ⟨p, hp, rfl⟩ := List.mem_map.1 hq
  obtain ⟨h1, h2⟩ := List.mem_filter.1 hp
  exact cut_ok (h p h1) hr h2
theorem clp_wst (rs : List I6) (l r a b : Int) : wst (clpD rs l r a b) ≤ wst rs := by
  obtain ⟨a1, a2, a3⟩ := wst_fold rs 0
  obtain ⟨b1, b2, b3⟩ := wst_fold (clpD rs l r a b) 0
  refine b3 _ a1 fun q hq => ?_
  obtain ⟨p, hp, rfl⟩ := List.mem_map.1 hq
  exact a2 p (List.mem_filter.1 hp).1
theorem clp_pts (rs : List I6) (l r a b : Int) : pts (rctD (clpD rs l r a b) 0) ≤ pts (rctD rs 0) := pts_mono fun x y h => by
  rw [inR_rct] at h ⊢
  obtain ⟨q, hq, _, h1⟩ := h
  obtain ⟨p, hp, rfl⟩ := List.mem_map.1 hq
  have a1 := le_mx1 p.1 l; have a2 := mn_le1 p.2.1 r; have a3 := le_mx1 p.2.2.1 a; have a4 := mn_le1 p.2.2.2.1 b
  unfold cutQ at h1
  dsimp only at h1
  exact ⟨p, (List.mem_filter.1 hp).1, .inl rfl, by omega⟩
theorem clp_at {rs : List I6} {l r a b : Int} {n : Nat} (hn : n < rs.length) (h : comQ (rs.getD n z6) l r a b = true) : (clpD (rs.take n) l r a b).length < (clpD rs l r a b).length ∧ (clpD rs l r a b).getD (clpD (rs.take n) l r a b).length z6 = cutQ (rs.getD n z6) l r a b := by
  have e : clpD rs l r a b = clpD (rs.take n) l r a b ++ (cutQ (rs.getD n z6) l r a b :: clpD (rs.drop (n + 1)) l r a b) := by
    have e1 : rs = rs.take n ++ (rs.getD n z6 :: rs.drop (n + 1)) := by
      rw [getD_get hn, List.getElem_cons_drop, List.take_append_drop]
    have e2 : clpD (rs.take n ++ (rs.getD n z6 :: rs.drop (n + 1))) l r a b = clpD (rs.take n) l r a b ++ (cutQ (rs.getD n z6) l r a b :: clpD (rs.drop (n + 1)) l r a b) := by
      unfold clpD
      rw [List.filter_append, List.map_append, List.filter_cons, if_pos h]; rfl
    rw [← e2, ← e1]
  rw [e]
  constructor
  · simp
  · simp [List.getD]
noncomputable def S9 : List A → List C := fun _ => [.bool true]
noncomputable def tbl9 : FuncId → List A → List C := fun f ds => match f with
  | 10 => S10 ds
  | 15 => S15 ds
  | 17 => S17 ds
  | 18 => S18 ds
  | 20 => S20 ds
  | 27 => S27 ds
  | 29 => S29 ds
  | _ => []
theorem pc9  {x1 : List (List C)} {x2 : Int} {x3 : Int} {x4 : Int} {x5 : Int} {row : List C} (hS : S9 [.c (.sl [.int .i64, .int .i64, .int .i64, .int .i64, .int .i64, .int .i64] x1), .agg [.c (.int .i64 x2), .c (.int .i64 x3), .c (.int .i64 x4), .c (.int .i64 x5)]] = row) (h : vc9 (stdE Try.prog tbl9) x1 x2 x3 x4 x5 fun c => c = row) : PCg Try.prog 9 S9 [(false, [.bool])] [.c (.sl [.int .i64, .int .i64, .int .i64, .int .i64, .int .i64, .int .i64] x1), .agg [.c (.int .i64 x2), .c (.int .i64 x3), .c (.int .i64 x4), .c (.int .i64 x5)]] := PureC_vc mo h9 (by kernel_rfl) hS (w9  h)
theorem p9 {rs : List I6} {l r a b : Int} : PureC Try.prog 9 [kB] [s6 (row6 rs), rc l r a b] fun _ => .bool true := by
  refine PureC.one (get := fun i => (S9 [s6 (row6 rs), rc l r a b]).getD i .nil) (pc9 (row := [.bool true]) rfl ?_) rfl
  unfold vc9
  simp only [stdE, baseE, Br_iff, Imp_iff, tbl9, p10, true_and, implies_true, forall_eq, decide_eq_true_eq, decide_eq_false_iff_not, row6_len, row6_c0, row6_c1, row6_c2, row6_c3, row6_c4, row6_c5]
  refine ⟨fun _ => rfl, fun h => ?_⟩
  have hl : rs.length ≤ 1000000 := by omega
  have hw : clpE rs 0 12000 0 17179869184 = allD rs := by unfold clpE; rw [if_pos (by decide)]
  simp only [p27 hl, p18 hl, p20 hl, p17 hl, p29, true_and]
  simp only [e27, e18, e20, e17, e29, List.getD_cons_zero, List.getD_cons_succ, gi_int, gl_sl, gb_bool, hw]
  have hm1 : (if allD rs = 0 then clpD rs 0 12000 0 17179869184 else []).length ≤ 1000000 := by
    split
    · exact Nat.le_trans (clpD_len _ _ _ _ _) hl
    · simp
  have hm2 : (if allD rs = 0 then sel rs 0 1 else []).length ≤ 1000000 := by
    split
    · exact Nat.le_trans (sel_len _ _ _) hl
    · simp
  have hm3 : (if clpE rs l r a b = 0 then clpD rs l r a b else []).length ≤ 60 := by
    split
    · exact Nat.le_trans (clpD_len _ _ _ _ _) (by omega)
    · simp
  have hm4 : (if clpE rs l r a b = 0 then clpD rs l r a b else []).length ≤ 1000000 := by omega
  have q1 := p20 hm4
  have q2 := p17 hm4 0
  simp only [PCg, e20] at q1
  simp only [PCg, e17] at q2
  simp only [p15 hm1, p15 hm2, q1, q2, implies_true, true_and]
  simp only [e15, e20, e17, List.getD_cons_zero, List.getD_cons_succ, gi_int, gl_sl, gb_bool]
  clear q1 q2
  by_cases hA : allD rs = 0
  rotate_left
  · have hE : ¬ clpE rs l r a b = 0 := by
      unfold clpE
      by_cases hc : chk l r a b = 0
      · rw [if_pos hc]; exact hA
      · rw [if_neg hc]; exact hc
    have h1 : (allD rs == 0) = false := by simpa using hA
    have h2 : (clpE rs l r a b == 0) = false := by simpa using hE
    simp only [h1, h2, beq_self_eq_true, Bool.not_true, Bool.not_false, Bool.and_false, Bool.false_eq_true, if_false, false_implies, implies_true, true_and, forall_const, and_true, if_neg hE]
    first | rfl | exact ⟨rfl, fun w => (by cases w)⟩
  obtain ⟨hl2, hok⟩ := allD_ok hA
  have e1 := whole hok
  have e2 := sel_one hok
  simp only [hA, if_true, e1, e2, decide_true, beq_self_eq_true, Bool.not_true, Bool.not_false, Bool.and_true, Bool.false_eq_true, if_false, false_implies, implies_true, true_and, forall_const]
  have hAr := ar_ok hA (show rs.length ≤ 60 by omega) 0
  by_cases hE : clpE rs l r a b = 0
  rotate_left
  · have h2 : (clpE rs l r a b == 0) = false := by simpa using hE
    simp only [h2, Bool.not_false, if_neg hE, forall_const, Bool.true_eq_false, false_implies, and_true]
    rfl
  have hr : chk l r a b = 0 := by
    unfold clpE at hE
    by_cases hc : chk l r a b = 0
    · exact hc
    · rw [if_neg hc] at hE; exact hE
  have hr := chk0.1 hr
  have hco := clp_ok hok hr
  have hcl := clpD_len rs l r a b
  have hAc : allD (clpD rs l r a b) = 0 := ok_allD (by omega) hco
  have hArc := ar_ok hAc (by omega) 0
  have hw1 := clp_wst rs l r a b
  have hp1 := clp_pts rs l r a b
  have hat := fun n hn => clp_at (rs := rs) (l := l) (r := r) (a := a) (b := b) (n := n) hn
  have htk := fun n (hn : n < rs.length) => (show clpD (rs.take (n + 1)) l r a b = _ from Go.Eng.filtmap_take (fun q => comQ q l r a b) (fun q => cutQ q l r a b) rs z6 hn)
  simp only [hE, if_true, beq_self_eq_true, Bool.not_true, Bool.false_eq_true, false_implies, true_and, forall_const, hAc, hArc.1, hArc.2, hAr.1, hAr.2, row6_len, row6_c0, row6_c1, row6_c2, row6_c3, row6_c4, row6_c5]
  generalize pts (rctD rs 0) = A at *
  generalize pts (rctD (clpD rs l r a b) 0) = B at *
  refine LoopP2.run (fun n : Nat => ((clpD (rs.take n) l r a b).length : Int)) (fun n : Nat => (n : Int)) (fun n => n ≤ rs.length) (fun n => rs.length - n) 0 (Nat.zero_le _) rfl rfl ?_
  intro n hn K hK
  simp only [toNat_cast]
  refine ⟨fun h3 => ?_, fun h3 => ?_⟩
  · have hlt : n < rs.length := by omega
    have h4 := hat n hlt
    have h5 := htk n hlt
    generalize rs.getD n z6 = q at *
    refine ⟨by omega, fun h6 => hK _ _ (n + 1) hlt (by omega) ?_ (wrap_up rfl (by omega)), fun h6 => ?_⟩
    · have h6' : comQ q l r a b = false := by unfold comQ; simpa using h6
      rw [h5, h6', if_neg (by simp), List.append_nil]; rfl
    · have h6' : comQ q l r a b = true := by unfold comQ; simpa using h6
      obtain ⟨h7, h8⟩ := h4 h6'
      have h9 : comE q.1 q.2.1 q.2.2.1 q.2.2.2.1 l r a b = false := by
        have : (!comE q.1 q.2.1 q.2.2.1 q.2.2.2.1 l r a b) = true := by rw [← com_is]; exact h6'
        simpa using this
      rw [h8, h9, if_neg (show ¬ ((clpD rs l r a b).length : Int) ≤ ((clpD (rs.take n) l r a b).length : Int) by omega)]
      refine ⟨fun _ => by omega, fun _ => by omega, fun w => ?_, fun _ => hK _ _ (n + 1) hlt (by omega) ?_ (wrap_up rfl (by omega))⟩
      · exfalso
        simp [zs, cutQ, C.gi] at w
      · rw [h5, h6', if_pos rfl, List.length_append]
        have : (List.map (fun q => cutQ q l r a b) (List.filter (fun q => comQ q l r a b) (rs.take n))).length = (clpD (rs.take n) l r a b).length := rfl
        rw [this, wrap_up rfl (by have := clpD_len (rs.take n) l r a b; simp at this; omega)]; simp
  · rw [show n = rs.length by omega, List.take_length]
    simp [hw1, hp1]
    rfl
end Go.Proofs.Ytkdapoipnkpbeaa.V
