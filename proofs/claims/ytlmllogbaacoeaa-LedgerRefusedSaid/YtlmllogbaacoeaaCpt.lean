/- Lists of integers: what slices.Compact does. No conditions. -/
import Derived.Test.YtlmllogbaacoeaaGL
set_option linter.unusedVariables false
set_option linter.unusedSimpArgs false
namespace Go.Proofs.Ytlmllogbaacoeaa.V
open Go Go.Eng
set_option maxRecDepth 1000000
set_option maxHeartbeats 1000000
theorem dedA_cons (a b : Int) (r : List Int) : dedA (a :: b :: r) = if a = b then dedA (b :: r) else a :: dedA (b :: r) := rfl
theorem dedA_snoc : ∀ (l : List Int) (a b : Int), dedA (l ++ [a, b]) = if a = b then dedA (l ++ [a]) else dedA (l ++ [a]) ++ [b]
  | [], a, b => by
    simp only [List.nil_append, dedA_cons, dedA]
    by_cases h : a = b
    · rw [if_pos h, if_pos h, h]
    · rw [if_neg h, if_neg h]; rfl
  | [x], a, b => by
    simp only [List.cons_append, List.nil_append, dedA_cons, dedA]
    by_cases h : a = b <;> by_cases h2 : x = a <;> simp [h, h2] <;> simp_all
  | x :: y :: l, a, b => by
    have ih := dedA_snoc (y :: l) a b
    simp only [List.cons_append] at ih ⊢
    rw [dedA_cons, dedA_cons, ih]
    by_cases h : a = b <;> by_cases h2 : x = y <;> simp [h, h2]
theorem take2 {zs : List Int} {n : Nat} (h : n + 1 < zs.length) : zs.take (n + 2) = zs.take n ++ [zs.getD n 0, zs.getD (n + 1) 0] := by
  have e1 : zs.take (n + 1) = zs.take n ++ [zs.getD n 0] := by rw [List.take_add_one]; simp [List.getD, show n < zs.length by omega]
  have e2 : zs.take (n + 2) = zs.take (n + 1) ++ [zs.getD (n + 1) 0] := by rw [List.take_add_one]; simp [List.getD, h]
  rw [e2, e1]; simp
theorem take1 {zs : List Int} {n : Nat} (h : n < zs.length) : zs.take (n + 1) = zs.take n ++ [zs.getD n 0] := by rw [List.take_add_one]; simp [List.getD, h]
theorem dedA_take {zs : List Int} {n : Nat} (h : n + 1 < zs.length) : dedA (zs.take (n + 2)) = if zs.getD n 0 = zs.getD (n + 1) 0 then dedA (zs.take (n + 1)) else dedA (zs.take (n + 1)) ++ [zs.getD (n + 1) 0] := by
  rw [take2 h, dedA_snoc, ← take1 (show n < zs.length by omega)]
theorem dedA_len : ∀ (l : List Int), (dedA l).length ≤ l.length
  | [] => Nat.le_refl _
  | [a] => Nat.le_refl _
  | a :: b :: r => by
    have ih := dedA_len (b :: r)
    rw [dedA_cons]
    split
    · simp at ih ⊢; omega
    · simp at ih ⊢; omega
def tbl40 : FuncId → List A → List C := fun f ds => match f with
  | _ => []
theorem ac40 {x1 : List (List C)}  {Q0 : (List (List C)) → (Int) → Prop} (h : vc40 (stdE Try.prog tbl40) x1 Q0) : ACalls Try.prog 40 [.gr 0] [.arr 3 [.int .i64] x1] fun r H' => (∃ l1 : List (List C), ∃ i2 : Int, Q0 l1 i2 ∧ r = .own 0 0 i2 ∧ H' = [.arr 3 [.int .i64] l1]) := ACalls_vc mo h40 (w40  h)
theorem cpt40 : CompactC 3 [.int .i64] Try.prog 40 := ⟨fnR_body h40 (by kernel_rfl), fun xs K ⟨zs, hx, hl, hk⟩ => (ac40 (x1 := xs) (Q0 := K) (by
  subst hx
  rw [rowsI_len] at hk
  unfold vc40
  simp only [stdE, baseE, Br_iff, decide_eq_true_eq, decide_eq_false_iff_not, beq_iff_eq, beq_eq_false_iff_ne, ne_eq, rowsI_len, rowsI_getD, rowsI_upd, Bool.not_eq_true', Bool.not_eq_false']
  refine ⟨fun h => ?_, fun h => ?_⟩
  · have e : dedA zs = zs := by
      match zs, h with
      | [], _ => rfl
      | [a], _ => rfl
      | a :: b :: r, h => simp at h; omega
    rw [e] at hk
    have := hk (rowsI zs) (rowsI_len zs) (by rw [← rowsI_len zs, List.take_length])
    exact this
  refine LoopP1.run (fun n : Nat => ((n + 1 : Nat) : Int)) (fun n => n + 1 ≤ zs.length ∧ dedA (zs.take (n + 1)) = zs.take (n + 1)) (fun n => zs.length - n) 0 ⟨by omega, ?_⟩ rfl ?_
  · match zs, h with
    | [], h => simp at h
    | a :: r, _ => rfl
  rintro n ⟨g1, g2⟩ K4 hK4
  have ew : IntKind.i64.wrap (((n + 1 : Nat) : Int) - 1) = n := by rw [wrap_in (by omega) (by omega)]; omega
  simp only [ew, toNat_cast]
  refine ⟨fun h1 => ⟨by omega, by omega, by omega, fun h2 => ⟨by omega, Int.le_refl _, ?_⟩, fun h2 => ?_⟩, fun h1 => ?_⟩
  · have hd := dedA_take (zs := zs) (n := n) (by omega)
    rw [if_pos h2.symm, g2] at hd
    refine LoopP3.run (fun p : List Int × Nat => rowsI p.1) (fun p => ((dedA (zs.take (n + 1 + p.2))).length : Int)) (fun p => (p.2 : Int))
      (fun p => 1 ≤ p.2 ∧ n + 1 + p.2 ≤ zs.length ∧ p.1.length = zs.length ∧ p.1.take (dedA (zs.take (n + 1 + p.2))).length = dedA (zs.take (n + 1 + p.2)) ∧ (∀ i, n + p.2 ≤ i → p.1.getD i 0 = zs.getD i 0) ∧ (dedA (zs.take (n + 1 + p.2))).length < n + 1 + p.2) (fun p => zs.length - p.2) (zs, 1) ?_ rfl ?_ rfl ?_
    · dsimp only
      rw [show n + 1 + 1 = n + 2 by omega, hd]
      refine ⟨Nat.le_refl _, by omega, rfl, by simp, fun i hi => rfl, by simp; omega⟩
    · dsimp only
      rw [show n + 1 + 1 = n + 2 by omega, hd]
      simp; omega
    rintro ⟨ws, k⟩ ⟨k1, k2, k3, k4, k5, k6⟩ K8 hK8
    dsimp only at k1 k2 k3 k4 k5 k6 ⊢
    obtain ⟨c, hc⟩ : ∃ c, (dedA (zs.take (n + 1 + k))).length = c := ⟨_, rfl⟩
    rw [hc] at k4 k6 ⊢
    have ek : IntKind.i64.wrap ((k : Int) - 1) = ((k - 1 : Nat) : Int) := by rw [wrap_in (by omega) (by omega)]; omega
    simp only [ek, rowsI_len, rowsI_getD, rowsI_upd, toNat_cast]
    have i1 : ((((n + 1 : Nat) : Int) + (k : Int)).toNat) = n + 1 + k := by omega
    have i2 : ((((n + 1 : Nat) : Int) + ((k - 1 : Nat) : Int)).toNat) = n + k := by omega
    rw [i1, i2]
    refine ⟨fun h3 => ?_, fun h3 => ?_⟩
    · have hlt : n + k + 1 < zs.length := by omega
      have e := dedA_take hlt
      rw [show n + k + 2 = n + 1 + (k + 1) by omega, show n + k + 1 = n + 1 + k by omega] at e
      rw [k5 (n + 1 + k) (by omega), k5 (n + k) (Nat.le_refl _)]
      refine ⟨by omega, by omega, by omega, fun h4 => ⟨by omega, by omega, ?_⟩, fun h4 => ?_⟩
      · rw [if_neg (fun q => h4 q.symm)] at e
        refine hK8 _ _ _ (ws.set c (zs.getD (n + 1 + k) 0), k + 1) ⟨by dsimp only; omega, by dsimp only; omega, by simp [k3], ?_, fun i hi => ?_, ?_⟩ (by dsimp only; omega) rfl ?_ (wrap_up rfl (by omega))
        · dsimp only
          rw [e, List.length_append, hc, ← k4]
          simp only [List.length_singleton]
          rw [List.take_add_one, List.take_set_of_le (Nat.le_refl _)]
          simp [show c < ws.length by omega]
        · dsimp only at hi ⊢
          rw [← k5 i (by omega)]
          simp [List.getD, show c ≠ i by omega]
        · dsimp only
          rw [e, List.length_append, hc]; simp; omega
        · dsimp only
          rw [e, List.length_append, hc, wrap_up rfl (by omega)]; simp
      · rw [if_pos h4.symm] at e
        refine hK8 _ _ _ (ws, k + 1) ⟨by dsimp only; omega, by dsimp only; omega, k3, ?_, fun i hi => k5 i (by dsimp only at hi; omega), ?_⟩ (by dsimp only; omega) rfl ?_ (wrap_up rfl (by omega))
        · dsimp only; rw [e, hc]; exact k4
        · dsimp only; rw [e, hc]; omega
        · dsimp only; rw [e, hc]
    · have hn : n + 1 + k = zs.length := by omega
      rw [hn, List.take_length] at hc k4
      rw [hc] at hk
      have t1 : ((ws.length : Int) - (c : Int)).toNat = ws.length - c := by omega
      have t2 : ((c : Int) + ((ws.length : Int) - (c : Int))).toNat = ws.length := by omega
      simp only [t1, t2, toNat_cast, Int.toNat_zero, List.drop_zero, Int.sub_zero]
      have hlen : (List.take c (rowsI ws) ++ (List.replicate (ws.length - c) [C.int IntKind.i64 0] ++ List.drop ws.length (List.take ws.length (rowsI ws)))).length = ws.length := by
        simp [rowsI_len]; omega
      refine ⟨by omega, by omega, Int.le_refl _, Int.le_refl _, by rw [hlen]; omega, hk _ (by rw [hlen, k3]) ?_⟩
      rw [List.take_left' (by simp [rowsI_len]; omega)]
      have := congrArg rowsI k4
      rwa [show rowsI (ws.take c) = (rowsI ws).take c by simp [rowsI, List.map_take]] at this
  · have hd := dedA_take (zs := zs) (n := n) (by omega)
    rw [if_neg (fun q => h2 q.symm), g2, ← take1 (by omega)] at hd
    exact hK4 _ (n + 1) ⟨by omega, hd⟩ (by omega) (wrap_up rfl (by omega))
  · have hn : n + 1 = zs.length := by omega
    rw [hn, List.take_length] at g2
    rw [g2] at hk
    have := hk (rowsI zs) (rowsI_len zs) (by rw [← rowsI_len zs, List.take_length])
    exact this)).mono fun r H' ⟨ys, m, hK, hr, hH⟩ => ⟨ys, m, hK, hr, hH⟩⟩
end Go.Proofs.Ytlmllogbaacoeaa.V
