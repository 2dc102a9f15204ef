/- Defects: their positions and areas, without the reference. No conditions. -/
import Derived.Test.YtkdapoipnkpbeaaMeas
import Derived.Test.YtkdapoipnkpbeaaGGb
set_option linter.unusedVariables false
set_option linter.unusedSimpArgs false
namespace Go.Proofs.Ytkdapoipnkpbeaa.V
open Go Go.Eng Go.Span Go.Proofs.Ytkdapoipnkpbeaa.R
set_option maxRecDepth 1000000
set_option maxHeartbeats 1000000
/-- No more points than both have. -/
theorem pts_sub {a b c : List R4} (h : ∀ x y, inR c x y → inR a x y ∨ inR b x y) : pts c ≤ pts a + pts b := by
  unfold pts
  rw [← sm_add]
  refine sm_le fun x _ => ?_
  unfold colN
  rw [← sm_add]
  refine sm_le fun y _ => ?_
  have := h x y
  unfold Go.Span.one
  by_cases p : inR c x y
  · rw [if_pos p]
    rcases this p with q | q
    · rw [if_pos q]; split <;> decide
    · rw [if_pos q]; split <;> decide
  · rw [if_neg p]; split <;> split <;> decide
/-- The kinds up to k. -/
def upK (rs : List I6) (k : Int) : List R4 := (rs.filter fun q => decide (q.2.2.2.2.1 ≤ k)).map rcD
theorem inR_rct {rs : List I6} {k x y : Int} : inR (rctD rs k) x y ↔ ∃ q ∈ rs, (k = 0 ∨ q.2.2.2.2.1 = k) ∧ q.1 ≤ x ∧ x < q.2.1 ∧ q.2.2.1 ≤ y ∧ y < q.2.2.2.1 := by
  constructor
  · rintro ⟨r, hr, h⟩
    obtain ⟨q, hq, rfl⟩ := List.mem_map.1 hr
    obtain ⟨h1, h2⟩ := List.mem_filter.1 hq
    simp only [Bool.or_eq_true, decide_eq_true_eq, beq_iff_eq] at h2
    exact ⟨q, h1, h2, h⟩
  · rintro ⟨q, h1, h2, h⟩
    exact ⟨rcD q, List.mem_map.2 ⟨q, List.mem_filter.2 ⟨h1, by simpa using h2⟩, rfl⟩, h⟩
theorem inR_up {rs : List I6} {k x y : Int} : inR (upK rs k) x y ↔ ∃ q ∈ rs, q.2.2.2.2.1 ≤ k ∧ q.1 ≤ x ∧ x < q.2.1 ∧ q.2.2.1 ≤ y ∧ y < q.2.2.2.1 := by
  constructor
  · rintro ⟨r, hr, h⟩
    obtain ⟨q, hq, rfl⟩ := List.mem_map.1 hr
    obtain ⟨h1, h2⟩ := List.mem_filter.1 hq
    exact ⟨q, h1, by simpa using h2, h⟩
  · rintro ⟨q, h1, h2, h⟩
    exact ⟨rcD q, List.mem_map.2 ⟨q, List.mem_filter.2 ⟨h1, by simpa using h2⟩, rfl⟩, h⟩
theorem up_step (rs : List I6) (k : Int) (hk : 0 < k) : pts (upK rs k) ≤ pts (upK rs (k - 1)) + pts (rctD rs k) := pts_sub fun x y h => by
  rw [inR_up] at h
  obtain ⟨q, h1, h2, h3⟩ := h
  by_cases e : q.2.2.2.2.1 = k
  · exact .inr (inR_rct.2 ⟨q, h1, .inr e, h3⟩)
  · exact .inl (inR_up.2 ⟨q, h1, by omega, h3⟩)
theorem up_zero {rs : List I6} (h : ∀ r ∈ rs, okD r) : pts (upK rs 0) = 0 := by
  have : upK rs 0 = [] := by
    unfold upK
    rw [List.filter_eq_nil_iff.2 fun q hq => ?_]; rfl
    have := h q hq
    unfold okD at this
    simp only [decide_eq_true_eq]; omega
  rw [this]; exact pts_nil
theorem up_all {rs : List I6} (h : ∀ r ∈ rs, okD r) : pts (rctD rs 0) ≤ pts (upK rs 16) := pts_mono fun x y hxy => by
  rw [inR_rct] at hxy
  obtain ⟨q, h1, _, h3⟩ := hxy
  have := h q h1
  unfold okD at this
  exact inR_up.2 ⟨q, h1, by omega, h3⟩
theorem kind_le (rs : List I6) (k : Int) : pts (rctD rs k) ≤ pts (rctD rs 0) := pts_mono fun x y hxy => by
  rw [inR_rct] at hxy ⊢
  obtain ⟨q, h1, _, h3⟩ := hxy
  exact ⟨q, h1, .inl rfl, h3⟩
theorem ar_ok {rs : List I6} (h : allD rs = 0) (hl : rs.length ≤ 60) (k : Int) : arD rs k = pts (rctD rs k) ∧ arE rs k = 0 := by
  have ho := (allD_ok h).2
  have e : allE (rowsR (rctD rs k)) = 0 := allE_good (Nat.le_trans (rctD_len _ _) (by omega)) (rctD_ok ho)
  unfold arD arE covR
  rw [if_pos h, if_pos h, if_pos e, ptc_eq]
  exact ⟨rfl, e⟩
theorem nf_pair {zs : List (Int × Int)} (h : NF zs) {n : Nat} (h1 : n + 1 < zs.length) : (zs.getD n (0, 0)).2 < (zs.getD (n + 1) (0, 0)).1 := by
  have := List.pairwise_iff_getElem.1 h.2 n (n + 1) (by omega) h1 (by omega)
  rw [getD_get (show n < zs.length by omega), getD_get h1]; exact this
def inP (x : Int) (z : Int × Int) : Bool := decide (z.1 ≤ x) && decide (x < z.2)
theorem any_mem {zs : List (Int × Int)} {x : Int} : zs.any (inP x) = true ↔ mem zs x := by
  rw [List.any_eq_true]
  constructor
  · rintro ⟨z, h1, h2⟩; simp only [inP, Bool.and_eq_true, decide_eq_true_eq] at h2; exact ⟨z, h1, h2⟩
  · rintro ⟨z, h1, h2⟩; exact ⟨z, h1, by simp only [inP, Bool.and_eq_true, decide_eq_true_eq]; exact h2⟩
noncomputable def S4 : List A → List C := fun _ => [.bool true]
noncomputable def tbl4 : FuncId → List A → List C := fun f ds => match f with
  | 10 => S10 ds
  | 16 => S16 ds
  | 17 => S17 ds
  | _ => []
theorem pc4  {x1 : List (List C)} {x2 : Int} {row : List C} (hS : S4 [.c (.sl [.int .i64, .int .i64, .int .i64, .int .i64, .int .i64, .int .i64] x1), .c (.int .i64 x2)] = row) (h : vc4 (stdE Try.prog tbl4) x1 x2 fun c => c = row) : PCg Try.prog 4 S4 [(false, [.bool])] [.c (.sl [.int .i64, .int .i64, .int .i64, .int .i64, .int .i64, .int .i64] x1), .c (.int .i64 x2)] := PureC_vc mo h4 (by kernel_rfl) hS (w4  h)
theorem p4 {rs : List I6} {g : Int} : PureC Try.prog 4 [kB] [s6 (row6 rs), iC g] fun _ => .bool true := by
  refine PureC.one (get := fun i => (S4 [s6 (row6 rs), iC g]).getD i .nil) (pc4 (row := [.bool true]) rfl ?_) rfl
  unfold vc4
  simp only [stdE, baseE, Br_iff, Imp_iff, tbl4, p10, true_and, implies_true, forall_eq, decide_eq_true_eq, decide_eq_false_iff_not, row6_len, row6_c2, row6_c3]
  refine ⟨fun _ => rfl, fun h => ?_⟩
  have hl : rs.length ≤ 1000000 := by omega
  simp only [p16 hl, p17 hl, true_and]
  simp only [e16, e17, List.getD_cons_zero, List.getD_cons_succ, gi_int, gl_sl, rowsP_len, rowsP_c0, rowsP_c1, Bool.not_eq_true', Bool.not_eq_false', beq_iff_eq, beq_eq_false_iff_ne, ne_eq]
  refine ⟨fun h1 => ?_, fun h1 => ?_⟩
  · rw [if_neg h1]; rfl
  have ha := fun k => ar_ok h1 (show rs.length ≤ 60 by omega) k
  have hok := (allD_ok h1).2
  simp only [(ha _).1, (ha _).2]
  rw [if_pos h1]
  obtain ⟨hN, hM⟩ := nf_ok (spansD rs)
  have hzl : (nf (spansD rs)).length ≤ 60 := Nat.le_trans (nf_len _) (by simp [spansD]; omega)
  generalize nf (spansD rs) = zs at *
  refine LoopP2.run (fun n : Nat => (zs.take n).any (inP g)) (fun n : Nat => (n : Int)) (fun n => n ≤ zs.length) (fun n => zs.length - n) 0 (Nat.zero_le _) rfl rfl ?_
  intro n hn K hK
  simp only [toNat_cast]
  refine ⟨fun h2 => ?_, fun h2 => ?_⟩
  · have hlt : n < zs.length := by omega
    have h3 := hN.1 _ (getD_mem (d := (0, 0)) hlt)
    have h4 : 0 < n → (zs.getD (n - 1) (0, 0)).2 < (zs.getD n (0, 0)).1 := fun h0 => by
      have := nf_pair hN (n := n - 1) (by omega)
      rwa [show n - 1 + 1 = n by omega] at this
    have h5 : 0 < n → IntKind.i64.wrap ((n : Int) - 1) = ((n - 1 : Nat) : Int) := fun h0 => wrap_dn rfl h0 (by omega)
    have hc : (if (zs.getD n (0, 0)).2 ≤ (zs.getD n (0, 0)).1 then true else if 0 < (n : Int) then decide ((zs.getD n (0, 0)).1 ≤ (zs.getD (IntKind.i64.wrap ((n : Int) - 1)).toNat (0, 0)).2) else false) = false := by
      rw [if_neg (by omega)]
      by_cases h0 : 0 < n
      · rw [if_pos (by omega), h5 h0, toNat_cast]; exact decide_eq_false (by have := h4 h0; omega)
      · rw [if_neg (by omega)]
    have hpos : (!decide ((zs.getD n (0, 0)).2 ≤ (zs.getD n (0, 0)).1) && decide (0 < (n : Int))) = true → 0 < n := fun w => by
      simp only [Bool.and_eq_true, decide_eq_true_eq] at w; omega
    rw [hc]
    refine ⟨fun _ => by omega, fun _ => by omega, fun a b => by rw [a, decide_eq_true b]; rfl, by omega, fun w => by rw [h5 (hpos w)]; omega, fun w => by rw [h5 (hpos w)]; omega, fun a b => by rw [a, decide_eq_true b]; rfl, fun w => (by cases w), fun _ => hK _ _ (n + 1) hlt (by omega) ?_ (wrap_up rfl (by omega))⟩
    rw [Go.Eng.any_take _ _ (0, 0) hlt, ite_or, ite_and, Bool.decide_eq_true]
    rfl
  rw [show n = zs.length by omega, List.take_length]
  refine LoopP2.run (fun n : Nat => (rs.take n).any fun q => inP g (q.2.2.1, q.2.2.2.1)) (fun n : Nat => (n : Int)) (fun n => n ≤ rs.length) (fun n => rs.length - n) 0 (Nat.zero_le _) rfl rfl ?_
  intro n hn K hK
  simp only [toNat_cast]
  refine ⟨fun h2 => ⟨fun _ => by omega, fun _ => by omega, fun a b => by rw [a, decide_eq_true b]; rfl, hK _ _ (n + 1) (by omega) (by omega) ?_ (wrap_up rfl (by omega))⟩, fun h2 => ?_⟩
  · rw [Go.Eng.any_take _ _ z6 (by omega), ite_or, ite_and, Bool.decide_eq_true]
    rfl
  rw [show n = rs.length by omega, List.take_length]
  have hb : (zs.any (inP g)) = rs.any fun q => inP g (q.2.2.1, q.2.2.2.1) := by
    rw [Bool.eq_iff_iff, any_mem, hM, ← any_mem]
    unfold spansD
    rw [List.any_map]; rfl
  have hkl := kind_le rs
  have hup := up_all hok
  generalize pts (rctD rs 0) = A at hkl hup ⊢
  have h16 : ∀ k, 0 ≤ pts (rctD rs k) ∧ pts (rctD rs k) ≤ 12000 * 17179869184 := fun k => ⟨pts_nonneg _, pts_le _⟩
  refine LoopP2.run (fun p : Nat × Int => p.2) (fun p => ((p.1 + 1 : Nat) : Int)) (fun p => p.1 ≤ 16 ∧ pts (upK rs p.1) ≤ p.2 ∧ p.2 ≤ 206158430208000 * (p.1 : Int)) (fun p => 16 - p.1) (0, 0) ⟨by decide, by rw [show ((0 : Nat) : Int) = 0 from rfl, up_zero hok]; exact Int.le_refl _, by decide⟩ rfl rfl ?_
  rintro ⟨n, m⟩ ⟨g1, g2, g3⟩ K hK
  dsimp only at g1 g2 g3 ⊢
  have g0 : 0 ≤ m := Int.le_trans (pts_nonneg _) g2
  refine ⟨fun h2 => ?_, fun h2 => ?_⟩
  · have u := up_step rs ((n + 1 : Nat) : Int) (by omega)
    rw [show ((n + 1 : Nat) : Int) - 1 = n by omega] at u
    obtain ⟨v1, v2⟩ := h16 ((n + 1 : Nat) : Int)
    have v3 := hkl ((n + 1 : Nat) : Int)
    generalize pts (rctD rs ((n + 1 : Nat) : Int)) = a at *
    have hc : (if (if ¬True then true else decide (a < 0)) = true then true else decide (A < a)) = false := by
      rw [if_neg (by decide : ¬ ¬ True), if_neg (by simp; omega)]
      exact decide_eq_false (by omega)
    rw [hc]
    have b2 : pts (upK rs ((n + 1 : Nat) : Int)) ≤ m + a := Int.le_trans u (Int.add_le_add_right g2 a)
    clear u g2 hup hc h16 hb
    have b1 : n + 1 ≤ 16 := by omega
    have b3 : m + a ≤ 206158430208000 * ((n + 1 : Nat) : Int) := by omega
    have b4 : 16 - (n + 1) < 16 - n := by omega
    have b5 : IntKind.i64.wrap (m + a) = m + a := wrap_in (by omega) (by omega)
    exact ⟨fun w => (by cases w), fun _ => hK _ _ (n + 1, m + a) ⟨b1, b2, b3⟩ b4 b5 (wrap_up rfl (by omega))⟩
  · have hn : n = 16 := by omega
    subst hn
    have hA : A ≤ m := Int.le_trans hup g2
    rw [hb]
    simp [hA, e10]
    rfl
end Go.Proofs.Ytkdapoipnkpbeaa.V
