/- Rectangles: two of them. No conditions. -/
import Derived.Test.YtjckgkhojjnkdaaCovLaws
set_option linter.unusedVariables false
set_option linter.unusedSimpArgs false
namespace Go.Proofs.Ytjckgkhojjnkdaa.V
open Go Go.Eng Go.Span
set_option maxRecDepth 1000000
set_option maxHeartbeats 400000
def S8 : List A → List C := fun _ => [.bool true]
noncomputable def tbl8 : FuncId → List A → List C := fun f ds => match f with
  | 11 => S11 ds
  | 12 => S12 ds
  | 24 => S24 ds
  | 26 => S26 ds
  | 28 => S28 ds
  | 32 => S32 ds
  | _ => []
theorem pc8  {x1 : Int} {x2 : Int} {x3 : Int} {x4 : Int} {x5 : Int} {x6 : Int} {x7 : Int} {x8 : Int} {row : List C} (hS : S8 [.agg [.c (.int .i64 x1), .c (.int .i64 x2), .c (.int .i64 x3), .c (.int .i64 x4)], .agg [.c (.int .i64 x5), .c (.int .i64 x6), .c (.int .i64 x7), .c (.int .i64 x8)]] = row) (h : vc8 (stdE Try.prog tbl8) x1 x2 x3 x4 x5 x6 x7 x8 fun c => c = row) : PCg Try.prog 8 S8 [(false, [.bool])] [.agg [.c (.int .i64 x1), .c (.int .i64 x2), .c (.int .i64 x3), .c (.int .i64 x4)], .agg [.c (.int .i64 x5), .c (.int .i64 x6), .c (.int .i64 x7), .c (.int .i64 x8)]] := PureC_vc mo h8 (by kernel_rfl) hS (w8  h)
theorem witV (a b : R4) : S32 [rR a, rR b] = [.bool (wit a.1 a.2.1 a.2.2.1 a.2.2.2 b.1 b.2.1 b.2.2.1 b.2.2.2)] := rfl
theorem two_area {p q : R4} (hp : chkR p = 0) (hq : chkR q = 0) : allE (rowsR [p, q]) = 0 ∧ sel (chkR p == 0) (arw p.1 p.2.1 p.2.2.1 p.2.2.2) 0 = areaR p ∧ sel (chkR q == 0) (arw q.1 q.2.1 q.2.2.1 q.2.2.2) 0 = areaR q ∧
    (comB p q = true → sel (chkR (comR p q) == 0) (arw (comR p q).1 (comR p q).2.1 (comR p q).2.2.1 (comR p q).2.2.2) 0 = areaR (comR p q) ∧ chkR (comR p q) = 0 ∧ 0 < areaR (comR p q) ∧ covR [p, q] = IntKind.i64.wrap (IntKind.i64.wrap (areaR p + areaR q) - areaR (comR p q))) ∧
    (comB p q = false → covR [p, q] = IntKind.i64.wrap (IntKind.i64.wrap (areaR p + areaR q) - 0)) := by
  have op := chk_okR hp
  have oq := chk_okR hq
  have g : allE (rowsR [p, q]) = 0 := allE_good (by simp) fun r hr => by
    simp at hr
    rcases hr with rfl | rfl <;> assumption
  have f : covR [p, q] = pts [p, q] := by rw [covR, if_pos g, ptc_eq]
  have m := pts_more [p] q
  rw [pts_area op, pts_area oq] at m
  have b1 := areaR_ok op
  have b2 := areaR_ok oq
  refine ⟨g, by rw [hp]; exact arw_ok op, by rw [hq]; exact arw_ok oq, fun hc => ?_, fun hc => ?_⟩
  · have oc := okR_com op oq hc
    have b3 := areaR_ok oc
    have e : clipR [p] q = [comR p q] := by simp [clipR, hc]
    rw [e, pts_area oc] at m
    have hb := (comB_iff p q).1 hc
    refine ⟨by rw [show chkR (comR p q) = 0 from ok_chk oc]; exact arw_ok oc, ok_chk oc, Int.mul_pos (by omega) (by omega), ?_⟩
    rw [f, wrap_in (n := areaR p + areaR q) (by omega) (by omega), wrap_in (by omega) (by omega)]
    change pts [p, q] + _ = _ at m
    omega
  · have e : clipR [p] q = [] := by simp [clipR, hc]
    rw [e, pts_nil] at m
    rw [f, wrap_in (n := areaR p + areaR q) (by omega) (by omega), wrap_in (by omega) (by omega)]
    change pts [p, q] + _ = _ at m
    omega
theorem p8 {l r a b l' r' a' b' : Int} : PureC Try.prog 8 [kB] [rc l r a b, rc l' r' a' b'] fun _ => .bool true := by
  refine PureC.one (get := fun i => (S8 [rc l r a b, rc l' r' a' b']).getD i .nil) (pc8 (row := [.bool true]) rfl ?_) rfl
  obtain ⟨p, hp⟩ : ∃ p : R4, p = (l, r, a, b) := ⟨_, rfl⟩
  obtain ⟨q, hq⟩ : ∃ q : R4, q = (l', r', a', b') := ⟨_, rfl⟩
  have v1 := comV (l, r, a, b) (l', r', a', b')
  have v2 := comV (l', r', a', b') (l, r, a, b)
  have e1 := q26 (l, r, a, b)
  have e2 := q26 (l', r', a', b')
  have hm : [[C.int .i64 l, .int .i64 r, .int .i64 a, .int .i64 b], [.int .i64 l', .int .i64 r', .int .i64 a', .int .i64 b']] = rowsR [p, q] := by subst hp hq; rfl
  have hdis : disL (rowsR [p, q]) = !comB p q := by
    rw [Bool.eq_iff_iff, disL_iff]
    unfold disR
    constructor
    · intro h
      have := h 1 0 (by simp) (by simp)
      simp at this
      rw [comB_symm, this]; rfl
    · intro h i j hi hj
      have : i = 1 ∧ j = 0 := by simp at hi; omega
      obtain ⟨rfl, rfl⟩ := this
      simp at h
      simp
      rw [comB_symm, h]
  rw [comB_symm (l', r', a', b'), comR_symm (l', r', a', b')] at v2
  rw [← hp, ← hq] at v1 v2
  rw [← hp] at e1
  rw [← hq] at e2
  simp only [rR] at v1 v2 e1 e2
  have hp1 : p.1 = l ∧ p.2.1 = r ∧ p.2.2.1 = a ∧ p.2.2.2 = b := by subst hp; exact ⟨rfl, rfl, rfl, rfl⟩
  have hq1 : q.1 = l' ∧ q.2.1 = r' ∧ q.2.2.1 = a' ∧ q.2.2.2 = b' := by subst hq; exact ⟨rfl, rfl, rfl, rfl⟩
  rw [hp1.1, hp1.2.1, hp1.2.2.1, hp1.2.2.2, hq1.1, hq1.2.1, hq1.2.2.1, hq1.2.2.2] at v1 v2
  rw [hp1.1, hp1.2.1, hp1.2.2.1, hp1.2.2.2] at e1
  rw [hq1.1, hq1.2.1, hq1.2.2.1, hq1.2.2.2] at e2
  have k12 := p12 (rs := [p, q]) (by simp)
  have k24 := p24 (rs := [p, q]) (by simp)
  unfold vc8
  simp only [stdE, baseE, Br_iff, Imp_iff, tbl8, p11, p26, p28, p32, true_and, forall_eq, implies_true, hm, k12, k24]
  simp only [v1, v2, e1, e2, q11, q12, q24, hdis, List.getD_cons_zero, List.getD_cons_succ, gi_int, gb_bool, beq_self_eq_true, Bool.and_self, Bool.not_true, Bool.false_eq_true, if_false]
  have hw : ∀ x y : R4, comB p q = true → x = comR p q → (y = p ∨ y = q) → S32 [rc x.1 x.2.1 x.2.2.1 x.2.2.2, rc y.1 y.2.1 y.2.2.1 y.2.2.2] = [.bool true] := by
    rintro x y hc rfl hy
    refine (witV (comR p q) y).trans ?_
    have h1 := mx_spec p.1 q.1; have h3 := mn_spec p.2.1 q.2.1
    have h5 := mx_spec p.2.2.1 q.2.2.1; have h7 := mn_spec p.2.2.2 q.2.2.2
    have : wit (comR p q).1 (comR p q).2.1 (comR p q).2.2.1 (comR p q).2.2.2 y.1 y.2.1 y.2.2.1 y.2.2.2 = true := by
      unfold wit comR
      simp only [Bool.or_eq_true, Bool.and_eq_true, decide_eq_true_eq]
      right
      rcases hy with rfl | rfl <;> omega
    rw [this]
  cases hc : comB p q with
  | true =>
    have w1 := hw (comR p q) p hc rfl (.inl rfl)
    have w2 := hw (comR p q) q hc rfl (.inr rfl)
    rw [hp1.1, hp1.2.1, hp1.2.2.1, hp1.2.2.2] at w1
    rw [hq1.1, hq1.2.1, hq1.2.2.1, hq1.2.2.2] at w2
    have e3 := q26 (comR p q)
    simp only [rR] at e3
    simp only [if_true, w1, w2, e3, List.getD_cons_zero, List.getD_cons_succ, gb_bool, gi_int]
    refine ⟨by simp, by simp, by simp, fun _ => ⟨fun _ => trivial, fun h => ?_⟩⟩
    have hpq : chkR p = 0 ∧ chkR q = 0 := by
      rcases chk01 p.1 p.2.1 p.2.2.1 p.2.2.2 with h1 | h1 <;> rcases chk01 q.1 q.2.1 q.2.2.1 q.2.2.2 with h2 | h2
      · exact ⟨h1, h2⟩
      · rw [show chkR p = 0 from h1, show chkR q = 1 from h2] at h; simp at h
      · rw [show chkR p = 1 from h1] at h; simp at h
      · rw [show chkR p = 1 from h1] at h; simp at h
    obtain ⟨g, a1, a2, a3, _⟩ := two_area hpq.1 hpq.2
    rw [hp1.1, hp1.2.1, hp1.2.2.1, hp1.2.2.2] at a1
    rw [hq1.1, hq1.2.1, hq1.2.2.1, hq1.2.2.2] at a2
    obtain ⟨a4, a5, a6, a7⟩ := a3 hc
    rw [g, a1, a2, a4, a5, a7]
    simp [a6]
  | false =>
    have e3 := q26 (0, 0, 0, 0)
    simp only [rR] at e3
    simp only [Bool.false_eq_true, if_false, e3, List.getD_cons_zero, List.getD_cons_succ, gb_bool, gi_int]
    refine ⟨by simp, by simp, by simp, fun _ => ⟨fun _ => trivial, fun h => ?_⟩⟩
    have hpq : chkR p = 0 ∧ chkR q = 0 := by
      rcases chk01 p.1 p.2.1 p.2.2.1 p.2.2.2 with h1 | h1 <;> rcases chk01 q.1 q.2.1 q.2.2.1 q.2.2.2 with h2 | h2
      · exact ⟨h1, h2⟩
      · rw [show chkR p = 0 from h1, show chkR q = 1 from h2] at h; simp at h
      · rw [show chkR p = 1 from h1] at h; simp at h
      · rw [show chkR p = 1 from h1] at h; simp at h
    obtain ⟨g, a1, a2, _, a3⟩ := two_area hpq.1 hpq.2
    rw [hp1.1, hp1.2.1, hp1.2.2.1, hp1.2.2.2] at a1
    rw [hq1.1, hq1.2.1, hq1.2.2.1, hq1.2.2.2] at a2
    have z : sel (chkR (0, 0, 0, 0) == 0) (arw 0 0 0 0) 0 = 0 := by decide
    have z2 : chkR (0, 0, 0, 0) = 0 := by decide
    rw [g, a1, a2, z, z2, a3 hc]
    simp
end Go.Proofs.Ytjckgkhojjnkdaa.V
