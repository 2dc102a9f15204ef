/- Defects: joined until no two are near, in the program and in the reference. No conditions. -/
import Derived.Test.YtkdapoipnkpbeaaMerge
set_option linter.unusedVariables false
set_option linter.unusedSimpArgs false
namespace Go.Proofs.Ytkdapoipnkpbeaa.V
open Go Go.Eng
set_option maxRecDepth 1000000
set_option maxHeartbeats 1000000
def tbl34 : FuncId → List A → List C := fun f ds => match f with
  | _ => []
theorem ac34  {x1 : List (List C)} {x2 : Int} {x3 : Int} {x4 : Int} {Q0 : (List (List C)) → (Int) → (Int) → Prop} (h : vc34 (stdE Try.prog tbl34) x1 x2 x3 x4 Q0) : ACalls Try.prog 34 [.own 0 0 x2, .c (.int .i64 x3), .c (.int .i64 x4)] [.arr 38 [.int .i64, .int .i64, .int .i64, .int .i64, .int .i64, .int .i64] x1] fun r H' => (∃ l1 : List (List C), ∃ i2 : Int, ∃ i3 : Int, Q0 l1 i2 i3 ∧ r = .own 0 i2 i3 ∧ H' = [.arr 38 [.int .i64, .int .i64, .int .i64, .int .i64, .int .i64, .int .i64] l1]) := ACalls_vc mo h34 (w34  h)
theorem del_len {α : Type} {xs : List α} {a b c : Nat} (h1 : a ≤ b) (h2 : b ≤ c) (h3 : c ≤ xs.length) : (xs.take a ++ ((xs.take c).drop b ++ xs.drop (a + (c - b)))).length = xs.length := by
  simp; omega
theorem del_take {α : Type} {xs zs : List α} {a b c : Nat} (h1 : a ≤ b) (h2 : b ≤ c) (h3 : c ≤ xs.length) : ((xs.take a ++ ((xs.take c).drop b ++ xs.drop (a + (c - b)))).take (a + (c - b)) ++ zs).take (a + (c - b)) = (xs.take c).take a ++ (xs.take c).drop b := by
  have e : (xs.take a ++ (xs.take c).drop b).length = a + (c - b) := by simp; omega
  have e2 : (xs.take a ++ ((xs.take c).drop b ++ xs.drop (a + (c - b)))).take (a + (c - b)) = xs.take a ++ (xs.take c).drop b := by
    rw [← List.append_assoc]; exact List.take_left' e
  rw [e2, List.take_left' e, List.take_take, Nat.min_eq_left (by omega)]
theorem del34 : DeleteC 38 l6 Try.prog 34 := ⟨fnR_body h34 (by kernel_rfl), fun xs n i j K ⟨h0, h1, h2, h3, h4, hk⟩ => (ac34 (x1 := xs) (x2 := n) (x3 := i) (x4 := j) (Q0 := fun ys o m => o = 0 ∧ K ys m) (by
  obtain ⟨a, rfl⟩ := Int.eq_ofNat_of_zero_le h0
  obtain ⟨b, rfl⟩ := Int.eq_ofNat_of_zero_le (show 0 ≤ j by omega)
  obtain ⟨c, rfl⟩ := Int.eq_ofNat_of_zero_le (show 0 ≤ n by omega)
  unfold vc34
  simp only [stdE, baseE, Br_iff, decide_eq_true_eq, decide_eq_false_iff_not, beq_iff_eq, beq_eq_false_iff_ne]
  refine ⟨h0, h1, h2, Int.le_refl _, fun h5 => ⟨trivial, ?_⟩, fun h5 => ?_⟩
  · have e : (c : Int) - (b - a) = c := by omega
    rw [e] at hk
    refine hk xs rfl ?_
    rw [show b = a by omega, Int.toNat_natCast, Int.toNat_natCast, List.take_append_drop]
  · have em : (((b : Int) + ((c : Int) - b)).toNat) = c := by omega
    have lm : ((xs.take c).drop b).length = c - b := by simp; omega
    have t1 : ((a : Int) + ((c - b : Nat) : Int)).toNat = a + (c - b) := by omega
    have l2 := del_len (xs := xs) (show a ≤ b by omega) (show b ≤ c by omega) (by omega)
    simp only [em, lm, Int.zero_add, Int.sub_zero, Int.add_zero, Int.toNat_natCast, Int.toNat_zero, List.drop_zero, List.take_length, t1, l2]
    refine ⟨Int.le_refl _, by omega, by omega, h3, by omega, by omega, by omega, h3, trivial, ?_⟩
    have e : (a : Int) + ((c - b : Nat) : Int) = (c : Int) - ((b : Int) - a) := by omega
    rw [e]
    refine hk _ ?_ ?_
    · rw [List.length_append, List.length_take, l2, List.length_append, List.length_replicate, List.length_drop, List.length_take, l2]
      omega
    · rw [show ((c : Int) - ((b : Int) - a)).toNat = a + (c - b) by omega]
      exact del_take (by omega) (by omega) (by omega))).mono fun r H' ⟨ys, o, m, ⟨ho, hK⟩, hr, hH⟩ => ⟨ys, m, hK, by rw [hr, ho], hH⟩⟩
/-! ### Merge -/
theorem clone31' : CloneC 38 l6 Try.prog 31 := clone31
/-- Merge's error. -/
def mrgE (rs : List I6) (g : Int) : Int := if allD rs = 0 then (if g < 0 ∨ 12000 < g then 1 else 0) else allD rs
def mrgL (rs : List I6) (g : Int) : List I6 := if mrgE rs g = 0 then mrg rs g else []
theorem mrgE_ok {rs : List I6} {g : Int} (h : mrgE rs g = 0) : allD rs = 0 ∧ 0 ≤ g ∧ g ≤ 12000 := by
  unfold mrgE at h
  by_cases h1 : allD rs = 0
  · rw [if_pos h1] at h
    by_cases h2 : g < 0 ∨ 12000 < g
    · rw [if_pos h2] at h; cases h
    · exact ⟨h1, by omega, by omega⟩
  · rw [if_neg h1] at h; exact absurd h h1
def sMrg : List A → List C := fun ds => match ds with
  | [.c (.sl _ xs), .c (.int _ g)] => [.sl l6 (row6 (mrgL (un6 xs) g)), .int .i64 (mrgE (un6 xs) g)]
  | _ => []
def S11 : List A → List C := sMrg
def S12 : List A → List C := sMrg
theorem e11 (rs : List I6) (g : Int) : S11 [s6 (row6 rs), iC g] = [.sl l6 (row6 (mrgL rs g)), .int .i64 (mrgE rs g)] := by
  show [C.sl l6 (row6 (mrgL (un6 (row6 rs)) g)), C.int .i64 (mrgE (un6 (row6 rs)) g)] = _
  rw [un6_row]
theorem e12 (rs : List I6) (g : Int) : S12 [s6 (row6 rs), iC g] = [.sl l6 (row6 (mrgL rs g)), .int .i64 (mrgE rs g)] := e11 rs g
def tbl11 : FuncId → List A → List C := fun f ds => match f with
  | 13 => S13 ds
  | 32 => S32 ds
  | 33 => S33 ds
  | _ => []
theorem pc11 (ce31 : CloneC 38 [.int .i64, .int .i64, .int .i64, .int .i64, .int .i64, .int .i64] Try.prog 31) (ce34 : DeleteC 38 [.int .i64, .int .i64, .int .i64, .int .i64, .int .i64, .int .i64] Try.prog 34) {x1 : List (List C)} {x2 : Int} {row : List C} (hS : S11 [.c (.sl [.int .i64, .int .i64, .int .i64, .int .i64, .int .i64, .int .i64] x1), .c (.int .i64 x2)] = row) (h : vc11 (stdE Try.prog tbl11) x1 x2 fun c => c = row) : PCg Try.prog 11 S11 [(false, [.sl [.int .i64, .int .i64, .int .i64, .int .i64, .int .i64, .int .i64]]), (false, [.int .i64])] [.c (.sl [.int .i64, .int .i64, .int .i64, .int .i64, .int .i64, .int .i64] x1), .c (.int .i64 x2)] := PureC_vc mo h11 (by kernel_rfl) hS (w11 ce31 ce34 h)
def tbl12 : FuncId → List A → List C := fun f ds => match f with
  | 14 => S14 ds
  | 35 => S35 ds
  | 36 => S36 ds
  | _ => []
theorem pc12  {x1 : List (List C)} {x2 : Int} {row : List C} (hS : S12 [.c (.sl [.int .i64, .int .i64, .int .i64, .int .i64, .int .i64, .int .i64] x1), .c (.int .i64 x2)] = row) (h : vc12 (stdE Try.prog tbl12) x1 x2 fun c => c = row) : PCg Try.prog 12 S12 [(false, [.sl [.int .i64, .int .i64, .int .i64, .int .i64, .int .i64, .int .i64]]), (false, [.int .i64])] [.c (.sl [.int .i64, .int .i64, .int .i64, .int .i64, .int .i64, .int .i64] x1), .c (.int .i64 x2)] := PureC_vc mo h12 (by kernel_rfl) hS (w12  h)
theorem updC_len (w : List (List C)) (i o : Nat) (c : C) : (updC w i o c).length = w.length := by unfold updC; simp
theorem updC_take (w : List (List C)) {i o n : Nat} (c : C) (h : i < n) : (updC w i o c).take n = updC (w.take n) i o c := by
  unfold updC
  rw [List.take_set]
  congr 2
  simp [List.getD, h]
theorem jat_cut (rs : List I6) (i k : Nat) : jat rs i k = (rs.set i (jn (rs.getD i z6) (rs.getD k z6))).take k ++ (rs.set i (jn (rs.getD i z6) (rs.getD k z6))).drop (k + 1) := erase_cut _ _
theorem p12 {rs : List I6} {g : Int} (hl : rs.length ≤ 1000000) : PCg Try.prog 12 S12 [kS6, kI] [s6 (row6 rs), iC g] := by
  refine pc12 (e12 rs g) ?_
  unfold vc12
  simp only [stdE, baseE, Br_iff, tbl12, p14 hl, true_and, forall_eq, decide_eq_true_eq, decide_eq_false_iff_not, row6_len]
  simp only [e14, List.getD_cons_zero, gi_int, ite_or, Bool.decide_eq_true, Bool.not_eq_true', Bool.not_eq_false', beq_iff_eq, beq_eq_false_iff_ne, Bool.or_eq_true, Bool.or_eq_false_iff, decide_eq_true_eq, decide_eq_false_iff_not, ne_eq]
  refine ⟨fun h1 => ?_, fun h1 => ⟨fun h2 => ?_, fun h2 => ⟨by omega, ?_⟩⟩⟩
  · have : mrgE rs g = allD rs := by rw [mrgE, if_neg h1]
    rw [mrgL, this, if_neg h1]; rfl
  · have : mrgE rs g = 1 := by rw [mrgE, if_pos h1, if_pos h2]
    rw [mrgL, this, if_neg (by decide)]; rfl
  have hE : mrgE rs g = 0 := by rw [mrgE, if_pos h1, if_neg (by omega)]
  obtain ⟨hl2, hok⟩ := allD_ok h1
  rw [mrgL, if_pos hE, hE]
  refine LoopP1.run row6 (fun ys => mrg ys g = mrg rs g ∧ ys.length ≤ 128 ∧ ∀ r ∈ ys, okD r) (fun ys => ys.length) rs ⟨rfl, hl2, hok⟩ rfl ?_
  rintro ys ⟨hm, hy, hyk⟩ K hK
  have hp := p35 (rs := ys) (g := g) (by omega) (by omega) hyk
  have he := e35 ys g
  refine ⟨hp, ?_⟩
  simp only [he]
  cases hpr : prs2 ys g 0 with
  | none =>
    simp only [List.getD_cons_zero, List.getD_cons_succ, gb_bool]
    refine ⟨fun _ => ?_, fun h => by cases h⟩
    rw [← hm, mrg_none hpr]
  | some p =>
    obtain ⟨i, k⟩ := p
    obtain ⟨h3, h4, h5⟩ := prs2_some hpr
    simp only [List.getD_cons_zero, List.getD_cons_succ, gb_bool, gi_int, row6_c0, row6_c1, row6_c2, row6_c3, row6_c4, row6_c5, toNat_cast, row6_len, p36, true_and]
    have hj : S36 [q6 (ys.getD i z6), q6 (ys.getD k z6)] = cs6 (jn (ys.getD i z6) (ys.getD k z6)) := rfl
    obtain ⟨j, hjn⟩ : ∃ j, jn (ys.getD i z6) (ys.getD k z6) = j := ⟨_, rfl⟩
    rw [hjn] at hj
    simp only [hj, cs6, List.getD_cons_zero, List.getD_cons_succ, gi_int, row6_set, row6_len, List.length_set]
    have hs : (j.1, j.2.1, j.2.2.1, j.2.2.2.1, j.2.2.2.2.1, j.2.2.2.2.2) = j := rfl
    rw [hs]
    have t1 : (0 + ((k : Int) - 0)).toNat = k := by omega
    have w1 : IntKind.i64.wrap ((k : Int) + 1) = ((k + 1 : Nat) : Int) := wrap_up rfl (by omega)
    have t2 : (((k + 1 : Nat) : Int) + ((ys.length : Int) - ((k + 1 : Nat) : Int))).toNat = ys.length := by omega
    simp only [w1, t1, t2, toNat_cast, row6_cut, row6_len, Int.toNat_zero, List.drop_zero, List.length_take, List.length_drop, List.length_set, ← row6_append]
    have hc : jat ys i k = (ys.set i j).take k ++ (ys.set i j).drop (k + 1) := by rw [jat_cut, hjn]
    have htk : (ys.set i j).take ys.length = ys.set i j := List.take_of_length_le (by simp)
    have rt : (row6 (ys.set i j)).take k = row6 ((ys.set i j).take k) := by simp [row6, List.map_take]
    rw [htk, rt, ← row6_append, ← hc]
    refine ⟨fun h => (by cases h), fun _ => ⟨by omega, by omega, by omega, by omega, Int.le_refl _, by omega, by omega, by omega, by omega, Int.le_refl _, by omega, hK _ (jat ys i k) ⟨?_, ?_, ?_⟩ ?_ rfl⟩⟩
    · rw [← hm, mrg_some hpr]
    · rw [jat_len h4]; omega
    · exact jat_ok hyk h3 h4
    · rw [jat_len h4]; omega
theorem p11 {rs : List I6} {g : Int} (hl : rs.length ≤ 1000000) : PCg Try.prog 11 S11 [kS6, kI] [s6 (row6 rs), iC g] := by
  refine pc11 clone31 del34 (e11 rs g) ?_
  unfold vc11 spClone
  simp only [stdE, baseE, Br_iff, tbl11, p13 hl, p33, true_and, forall_eq, decide_eq_true_eq, decide_eq_false_iff_not, row6_len]
  simp only [e13, List.getD_cons_zero, gi_int, ite_or, Bool.decide_eq_true, Bool.not_eq_true', Bool.not_eq_false', beq_iff_eq, beq_eq_false_iff_ne, Bool.or_eq_true, Bool.or_eq_false_iff, decide_eq_true_eq, decide_eq_false_iff_not, ne_eq]
  refine ⟨fun h1 => ?_, fun h1 => ⟨fun h2 => ?_, fun h2 => ⟨hl, ?_⟩⟩⟩
  · have : mrgE rs g = allD rs := by rw [mrgE, if_neg h1]
    rw [mrgL, this, if_neg h1]; rfl
  · have : mrgE rs g = 1 := by rw [mrgE, if_pos h1, if_pos h2]
    rw [mrgL, this, if_neg (by decide)]; rfl
  have hE : mrgE rs g = 0 := by rw [mrgE, if_pos h1, if_neg (by omega)]
  obtain ⟨hl2, hok⟩ := allD_ok h1
  rw [mrgL, if_pos hE, hE]
  refine ⟨p32 hl hok, ?_⟩
  have first : ∀ ys : List I6, ((S32 [s6 (row6 ys), iC g]).getD 0 .nil).gi = (match prs2 ys g 0 with | some (i, k) => (i : Int) | none => ((ys.length - 1 : Nat) : Int)) ∧ ((S32 [s6 (row6 ys), iC g]).getD 1 .nil).gi = (match prs2 ys g 0 with | some (i, k) => (k : Int) | none => (ys.length : Int)) ∧ ((S32 [s6 (row6 ys), iC g]).getD 2 .nil).gb = (prs2 ys g 0).isSome := fun ys => by
    rw [e32]
    cases prs2 ys g 0 <;> exact ⟨rfl, rfl, rfl⟩
  obtain ⟨f0, f1, f2⟩ := first rs
  rw [f0, f1, f2]
  refine LoopP5.run (fun p : List (List C) × List I6 => p.1) (fun p => (p.2.length : Int)) (fun p => match prs2 p.2 g 0 with | some (i, k) => (i : Int) | none => ((p.2.length - 1 : Nat) : Int)) (fun p => match prs2 p.2 g 0 with | some (i, k) => (k : Int) | none => (p.2.length : Int)) (fun p => (prs2 p.2 g 0).isSome)
    (fun p => mrg p.2 g = mrg rs g ∧ p.2.length ≤ 128 ∧ (∀ r ∈ p.2, okD r) ∧ p.1.take p.2.length = row6 p.2 ∧ p.2.length ≤ p.1.length ∧ p.1.length ≤ 128) (fun p => p.2.length) (row6 rs, rs) ⟨rfl, hl2, hok, by rw [← row6_len rs, List.take_length], by simp [row6], by simpa [row6] using hl2⟩ rfl rfl rfl rfl rfl ?_
  rintro ⟨w, ys⟩ ⟨hm, hy, hyk, hw, hwl, hw2⟩ K hK
  dsimp only at hm hy hyk hw hwl hw2 ⊢
  have hcell : ∀ n j, n < ys.length → cellAt w n j = cellAt (row6 ys) n j := fun n j hn => by
    rw [← hw]; unfold cellAt
    congr 1
    simp [List.getD, hn]
  cases hpr : prs2 ys g 0 with
  | none =>
    refine ⟨fun h => (by cases h), fun _ => ?_⟩
    rw [show (0 + (ys.length : Int)).toNat = ys.length by omega, Int.toNat_zero, List.drop_zero, hw, ← hm, mrg_none hpr]
  | some p =>
    obtain ⟨i, k⟩ := p
    obtain ⟨h3, h4, h5⟩ := prs2_some hpr
    dsimp only
    simp only [show (0 + (i : Int)).toNat = i by omega, show (0 + (k : Int)).toNat = k by omega, hcell i _ (by omega), hcell k _ h4, row6_c0, row6_c1, row6_c2, row6_c3, row6_c4, row6_c5, p33, true_and]
    have hj : S33 [q6 (ys.getD i z6), q6 (ys.getD k z6)] = cs6 (jn (ys.getD i z6) (ys.getD k z6)) := rfl
    obtain ⟨j, hjn⟩ : ∃ j, jn (ys.getD i z6) (ys.getD k z6) = j := ⟨_, rfl⟩
    rw [hjn] at hj
    simp only [hj, cs6, List.getD_cons_zero, List.getD_cons_succ, gi_int]
    have w1 : IntKind.i64.wrap ((k : Int) + 1) = ((k + 1 : Nat) : Int) := wrap_up rfl (by omega)
    rw [w1]
    obtain ⟨w', hw'⟩ : ∃ w', updC (updC (updC (updC (updC (updC w i 5 (.int .i64 j.2.2.2.2.2)) i 4 (.int .i64 j.2.2.2.2.1)) i 3 (.int .i64 j.2.2.2.1)) i 2 (.int .i64 j.2.2.1)) i 1 (.int .i64 j.2.1)) i 0 (.int .i64 j.1) = w' := ⟨_, rfl⟩
    rw [hw']
    have hl' : w'.length = w.length := by rw [← hw']; simp only [updC_len]
    have ht' : w'.take ys.length = row6 (ys.set i j) := by
      rw [← hw']
      have hi : i < ys.length := by omega
      rw [updC_take _ _ hi, updC_take _ _ hi, updC_take _ _ hi, updC_take _ _ hi, updC_take _ _ hi, updC_take _ _ hi, hw, row6_set]
    refine ⟨fun _ => ⟨by omega, by omega, by omega, by omega, ?_⟩, fun h => (by cases h)⟩
    unfold spDelete
    refine ⟨by omega, by omega, by omega, by omega, by omega, fun zs hz1 hz2 => ?_⟩
    have hm1 : (ys.length : Int) - (((k + 1 : Nat) : Int) - k) = ((ys.length - 1 : Nat) : Int) := by omega
    rw [hm1] at hz2 ⊢
    dsimp only
    have hjl := jat_len (i := i) h4
    have hcut : zs.take (ys.length - 1) = row6 (jat ys i k) := by
      rw [toNat_cast, toNat_cast, toNat_cast, toNat_cast, ht'] at hz2
      rw [hz2, jat_cut, hjn, row6_append]
      simp [row6, List.map_take, List.map_drop]
    rw [show (0 + ((ys.length - 1 : Nat) : Int)).toNat = ys.length - 1 by omega, Int.toNat_zero, List.drop_zero, hcut]
    obtain ⟨g0, g1, g2⟩ := first (jat ys i k)
    rw [g0, g1, g2]
    refine ⟨p32 (by omega) (jat_ok hyk h3 h4), hK _ _ _ _ _ (zs, jat ys i k) ⟨?_, ?_, ?_, ?_, ?_, ?_⟩ ?_ rfl ?_ rfl rfl rfl⟩
    · rw [← hm, mrg_some hpr]
    · dsimp only; omega
    · exact jat_ok hyk h3 h4
    · dsimp only; rw [hjl, hcut]
    · dsimp only; omega
    · dsimp only; omega
    · dsimp only; omega
    · dsimp only; rw [hjl]
end Go.Proofs.Ytkdapoipnkpbeaa.V
