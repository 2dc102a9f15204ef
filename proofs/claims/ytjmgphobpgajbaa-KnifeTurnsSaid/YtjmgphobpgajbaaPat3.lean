/- Knives: the list of a deckle's patterns. No conditions. -/
import Derived.Test.YtjmgphobpgajbaaPat2
set_option linter.unusedVariables false
set_option linter.unusedSimpArgs false
namespace Go.Proofs.Ytjmgphobpgajbaa.V
open Go Go.Eng
set_option maxRecDepth 1000000
set_option maxHeartbeats 1000000
theorem dnk_inv {α : Type} {f : Int → α → α} {m : Int} {x : α} (p : α → Prop) (h0 : p x) (h : ∀ i o, p o → p (f i o)) : ∀ n, p (dnk f m x n)
  | 0 => h0
  | n + 1 => by rw [dnk_succ]; exact h _ _ (dnk_inv p h0 h n)
theorem enu_len {t k : Int} {most N : Nat} (hm : most ≤ N) : ∀ (r pre : List Int) (kn left : Int) (out : List (List Int)), out.length ≤ N → (enu t k most r pre kn left out).length ≤ N
  | [], pre, kn, left, out, h => by
    unfold enu
    split
    · exact h
    · split
      · simp; omega
      · exact h
  | w :: r, pre, kn, left, out, h => by
    unfold enu
    split
    · exact h
    · split
      · exact h
      · exact dnk_inv (fun o : List (List Int) => o.length ≤ N) h (fun i o ho => enu_len hm r _ _ _ _ ho) _
theorem enu_full {t k : Int} {most : Nat} (r pre : List Int) (kn left : Int) {out : List (List Int)} (h : most ≤ out.length) : enu t k most r pre kn left out = out := by
  cases r <;> (unfold enu; rw [if_pos h])
theorem set_mid (pre : List Int) (v n : Int) (z : List Int) : (pre ++ v :: z).set pre.length n = pre ++ n :: z := by
  rw [List.set_append_right _ _ (Nat.le_refl _)]; simp
def tbl69 : FuncId → List A → List C := fun f ds => match f with
  | _ => []
theorem ac69 {nR : Nat} {x1 : Int} {x2 : Int} {x3 : Int} {x4 : List (List C)} {x5 : Int} {x6 : List (List C)} {x7 : Int} {x8 : Int} {x9 : Int} {x10 : Int} {x11 : List (List C)} (ce32 : CloneCO 3 [.int .i64] Try.prog 32) (ce69 : ListC nR Try.prog 69) {Q0 : (List (List C)) → (List (List C)) → Prop} (h : vc69 (stdE Try.prog tbl69) nR x1 x2 x3 x4 x5 x6 x7 x8 x9 x10 x11 Q0) : ACalls Try.prog 69 [.c (.int .i64 x1), .c (.int .i64 x2), .c (.int .i64 x3), .ptr 0 0, .ptr 2 0, .ptr 3 0, .ptr 5 0, .ptr 6 0] [.box 26 [.gr 1], .arr 22 [.sl [.int .i64]] x4, .box 3 [.c (.int .i64 x5)], .box 22 [.gr 4], .arr 3 [.int .i64] x6, .box 24 [.c (.int .i64 x7), .c (.int .i64 x8), .c (.int .i64 x9), .c (.int .i64 x10), .c (.sl [.int .i64] x11)], .box 94 [.fn 69 [.ptr 0 0, .ptr 2 0, .ptr 3 0, .ptr 5 0, .ptr 6 0]]] fun r H' => (∃ l1 : List (List C), ∃ l2 : List (List C), Q0 l1 l2 ∧ r = .tup [] ∧ H' = [.box 26 [.gr 7], .dead, .box 3 [.c (.int .i64 x5)], .box 22 [.gr 4], .arr 3 [.int .i64] l2, .box 24 [.c (.int .i64 x7), .c (.int .i64 x8), .c (.int .i64 x9), .c (.int .i64 x10), .c (.sl [.int .i64] x11)], .box 94 [.fn 69 [.ptr 0 0, .ptr 2 0, .ptr 3 0, .ptr 5 0, .ptr 6 0]], .arr 22 [.sl [.int .i64]] l1]) := ACalls_vc mo h69 (w69 ce32 ce69 h)
theorem listG {m : Nat} {size kn left : Int} {xs : List (List C)} {most : Int} {cs : List (List C)} {w e t k : Int} {sz : List (List C)} {K : List (List C) → List (List C) → Prop} (h : spLs (m + 1) size kn left xs most cs w e t k sz K) :
    vc69 (stdE Try.prog tbl69) m size kn left xs most cs w e t k sz K := by
  obtain ⟨ss, pre, out, rfl, rfl, ⟨hs, hl, hm, hc, h8, kn0, kn2, l0, l2, hsz, ol, m0, m2⟩, hk⟩ := h
  subst hs
  have hcl : cs.length = ss.length := by rw [hc, rowsI_len]; simp; omega
  unfold vc69
  simp only [stdE, baseE, Br_iff, rowsI_len, rowsI_getD, rowL_len, hcl, decide_eq_true_eq, decide_eq_false_iff_not, beq_iff_eq, beq_eq_false_iff_ne]
  refine ⟨fun h1 => ?_, fun h1 => ⟨fun h2 => ⟨fun h3 => ?_, fun h3 => ?_⟩, fun h2 => ⟨by omega, by omega, fun h3 => ?_, fun h3 => ?_⟩⟩⟩
  · rw [enu_full _ _ _ _ (by omega)] at hk; exact hk
  · have hpl : pre.length = ss.length := by omega
    have hcs : cs = rowsI pre := by rw [hc, hpl]; simp
    have hq : left ≤ t ∧ kn < k := by
      by_cases q : left ≤ t
      · rw [if_pos q] at h3; exact ⟨q, of_decide_eq_true h3⟩
      · rw [if_neg q] at h3; cases h3
    rw [List.drop_of_length_le (by omega), enu, if_neg (by omega), if_pos hq] at hk
    refine ⟨by omega, by omega, by omega, by omega, by simp; omega, ?_⟩
    have e1 : List.drop (0 : Int).toNat (List.take (0 + (ss.length : Int)).toNat cs) = rowsI pre := by
      rw [show (0 + (ss.length : Int)).toNat = cs.length by omega, List.take_length, hcs]; rfl
    rw [e1]
    rw [rowL_append] at hk
    exact hk
  · have hq : ¬ (left ≤ t ∧ kn < k) := fun q => by rw [if_pos q.1] at h3; have := of_decide_eq_false h3; omega
    rw [List.drop_of_length_le (by omega), enu, if_neg (by omega), if_neg hq] at hk
    exact hk
  all_goals
    obtain ⟨s, hs⟩ : ∃ s, ss.getD pre.length 0 = s := ⟨_, rfl⟩
    have hplt : pre.length < ss.length := by omega
    have hdr : ss.drop pre.length = s :: ss.drop (pre.length + 1) := by rw [List.drop_eq_getElem_cons hplt, ← hs, getD_get hplt]
    have hs1 := hsz s (by rw [← hs]; exact getD_mem hplt)
    simp only [toNat_cast, hs] at h3 ⊢
    have hp0 : 0 ≤ kn * s := Int.mul_nonneg kn0 (by omega)
    have hp1 : kn * s ≤ 12 * 12000 := Int.le_trans (Int.mul_le_mul_of_nonneg_left hs1.2 kn0) (by omega)
    rw [wrap_in (n := kn * s) (by omega) (by omega), wrap_in (n := left - kn * s) (by omega) (by omega)] at h3
    rw [hdr, enu, if_neg (by omega)] at hk
  · rw [if_pos h3] at hk; exact hk
  rw [if_neg h3] at hk
  refine ⟨by omega, ?_⟩
  obtain ⟨m3, m4, m5⟩ := mst_ok kn0 l0 hs1.1
  have hM : (if IntKind.i64.wrap (left.tdiv s) < kn then IntKind.i64.wrap (left.tdiv s) else kn) = mst kn left s := by
    have hd0 : 0 ≤ left / s := Int.ediv_nonneg l0 (by omega)
    have hd1 : left / s ≤ left := Int.ediv_le_self _ l0
    rw [Int.tdiv_eq_ediv_of_nonneg l0, wrap_in (n := left / s) (by omega) (by omega)]; rfl
  rw [hM]
  obtain ⟨M, hMM⟩ : ∃ M, mst kn left s = M := ⟨_, rfl⟩
  rw [hMM] at m3 m4 m5 hk ⊢
  obtain ⟨F, hF⟩ : ∃ F : Int → List (List Int) → List (List Int), F = fun n o => enu t k most.toNat (ss.drop (pre.length + 1)) (pre ++ [n]) (kn - n) (left - n * s) o := ⟨_, rfl⟩
  rw [← hF] at hk
  have hlen : ∀ i, (dnk F M out i).length ≤ 1100 := fun i => dnk_inv (fun o : List (List Int) => o.length ≤ 1100) ol (fun n o ho => by rw [hF]; exact enu_len (by omega) _ _ _ _ _ ho) i
  obtain ⟨z, hz⟩ : ∃ z, z = List.replicate (ss.length - pre.length - 1) (0 : Int) := ⟨_, rfl⟩
  have hcs : cs = rowsI (pre ++ 0 :: z) := by
    rw [hc, hz, ← List.replicate_succ, show ss.length - pre.length - 1 + 1 = ss.length - pre.length by omega]
  refine LoopP3.run (x1 := rowL out) (x2 := cs) (x3 := M) (fun p : Int × Nat => rowL (dnk F M out p.2)) (fun p => rowsI (pre ++ p.1 :: z)) (fun p => M - (p.2 : Int)) (fun p => (p.2 : Int) ≤ M + 1) (fun p => (M + 1).toNat - p.2) (0, 0) (by dsimp only; omega) rfl hcs (by dsimp only; omega) ?_
  rintro ⟨v, i⟩ hi K7 hK7
  dsimp only at hi ⊢
  rw [rowsI_len]
  have hpz : (pre ++ v :: z).length = ss.length := by rw [hz]; simp; omega
  refine ⟨fun h4 => ⟨by omega, ?_⟩, fun h4 => ⟨by omega, ?_⟩⟩
  · obtain ⟨n, hn⟩ : ∃ n, M - (i : Int) = n := ⟨_, rfl⟩
    rw [hn] at h4 ⊢
    have hn2 : n ≤ M := by omega
    have hns := mul_up (w := s) (by omega) hn2
    have hns0 : 0 ≤ n * s := Int.mul_nonneg h4 (by omega)
    rw [rowsI_upd, set_mid, wrap_in (n := (pre.length : Int) + 1) (by omega) (by omega), wrap_in (n := kn - n) (by omega) (by omega), wrap_in (n := n * s) (by omega) (by omega), wrap_in (n := left - n * s) (by omega) (by omega), wrap_in (n := n - 1) (by omega) (by omega)]
    refine ⟨ss, pre ++ [n], dnk F M out i, rfl, rfl, ⟨by simp, by simp; omega, by simp; omega, ?_, h8, by omega, by omega, by omega, by omega, hsz, hlen i, m0, m2⟩, ?_⟩
    · simp only [List.length_append, List.length_singleton, List.append_assoc, List.singleton_append]
      rw [hz, show ss.length - (pre.length + 1) = ss.length - pre.length - 1 by omega]
    · have e1 : (pre ++ [n]).length = pre.length + 1 := by simp
      rw [e1]
      refine hK7 _ _ _ (n, i + 1) (by dsimp only; omega) (by dsimp only; omega) ?_ rfl (by dsimp only; omega)
      dsimp only
      rw [dnk_succ, hn, hF]
  · have hi2 : i = (M + 1).toNat := by omega
    rw [rowsI_upd, set_mid, ← hcs, hi2]
    exact hk
theorem list0 : ∀ m, ListC m Try.prog 69
  | 0 => ⟨fnR_body h69 (by kernel_rfl), fun size kn left xs most cs w e t k sz K ⟨ss, pre, out, _, _, o, _⟩ => absurd o.hm (Nat.not_lt_zero _), fun size kn left most cs w e t k sz K ⟨ss, pre, _, o, _⟩ => absurd o.hm (Nat.not_lt_zero _)⟩
  | m + 1 => by
    have ih := list0 m
    have hG : ∀ (size kn left : Int) (xs : List (List C)) (most : Int) (cs : List (List C)) (w e t k : Int) (sz : List (List C)) (K : List (List C) → List (List C) → Prop), spLs (m + 1) size kn left xs most cs w e t k sz K →
        ACalls Try.prog 69 [iC size, iC kn, iC left, .ptr 0 0, .ptr 2 0, .ptr 3 0, .ptr 5 0, .ptr 6 0]
          [.box 26 [.gr 1], .arr 22 [.sl [.int .i64]] xs, .box 3 [iC most], .box 22 [.gr 4], .arr 3 [.int .i64] cs, .box 24 [iC w, iC e, iC t, iC k, .c (.sl [.int .i64] sz)], .box 94 [.fn 69 [.ptr 0 0, .ptr 2 0, .ptr 3 0, .ptr 5 0, .ptr 6 0]]]
          fun r H' => ∃ a b, K a b ∧ r = .tup [] ∧ H' = [.box 26 [.gr 7], .dead, .box 3 [iC most], .box 22 [.gr 4], .arr 3 [.int .i64] b, .box 24 [iC w, iC e, iC t, iC k, .c (.sl [.int .i64] sz)], .box 94 [.fn 69 [.ptr 0 0, .ptr 2 0, .ptr 3 0, .ptr 5 0, .ptr 6 0]], .arr 22 [.sl [.int .i64]] a] :=
      fun size kn left xs most cs w e t k sz K h => (ac69 cloneco32 ih (Q0 := fun a b => K a b) (listG h)).mono fun r H' ⟨b, a, hq, h1, h2⟩ => by first | exact ⟨_, _, hq, h1, h2⟩ | exact ⟨b, a, hq, h1, h2⟩
    refine ⟨fnR_body h69 (by kernel_rfl), hG, fun size kn left most cs w e t k sz K ⟨ss, pre, hz, o, hk⟩ => ?_⟩
    have h1 := hG size kn left [] most cs w e t k sz K ⟨ss, pre, [], hz, rfl, o, hk⟩
    refine ACalls.retell (Q := fun r H' => ∃ a b, K a b ∧ r = .tup [] ∧ H' = [.box 26 [.gr 7], .box 3 [iC most], .box 22 [.gr 3], .arr 3 [.int .i64] b, .box 24 [iC w, iC e, iC t, iC k, .c (.sl [.int .i64] sz)], .box 94 [.fn 69 [.ptr 0 0, .ptr 1 0, .ptr 2 0, .ptr 4 0, .ptr 5 0]], .dead, .arr 22 [.sl [.int .i64]] a]) (fun r H' ⟨a, b, hq, hr, hH⟩ => by
      subst hr hH
      refine ⟨_, _, GFin.of (GSt.ren [0, 1, 2, 3, 4, 5, 7] rfl rfl rfl (show ∀ i, i < 6 → [0, 1, 2, 3, 4, 5, 7].getD i 0 = i by decide) ?_ ?_ ?_), a, b, hq, rfl, rfl⟩
      · exact show 6 ≤ 7 by decide
      all_goals (repeat' (first | exact trivial | exact Or.inl rfl | exact Or.inr rfl | refine And.intro ?_ ?_))) ?_
    refine ACalls.pre (xs' := [iC size, iC kn, iC left, .ptr 0 0, .ptr 1 0, .ptr 2 0, .ptr 4 0, .ptr 5 0]) (GSt.nilBox 0 0 22 [.sl [.int .i64]] rfl rfl) ?_
    refine (ACalls.frame h1 (H := _) (tgt := [0, 6, 1, 2, 3, 4, 5]) rfl (by decide) ?_).mono fun r H' hq => ?_
    · intro i o ho
      match i, ho with
      | 0, ho => cases ho; rfl
      | 1, ho => cases ho; rfl
      | 2, ho => cases ho; rfl
      | 3, ho => cases ho; rfl
      | 4, ho => cases ho; rfl
      | 5, ho => cases ho; rfl
      | 6, ho => cases ho; rfl
    · obtain ⟨r1, H1', ⟨a, b, hq, rfl, rfl⟩, _, rfl, rfl⟩ := hq
      exact ⟨a, b, hq, rfl, rfl⟩
end Go.Proofs.Ytjmgphobpgajbaa.V
