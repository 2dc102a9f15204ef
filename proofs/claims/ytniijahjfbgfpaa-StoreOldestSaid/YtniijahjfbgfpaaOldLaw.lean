/- Warehouses: first in, first out. No conditions. -/
import Derived.Test.YtniijahjfbgfpaaGE
import Derived.Test.YtniijahjfbgfpaaEmpLaw
set_option linter.unusedVariables false
set_option linter.unusedSimpArgs false
namespace Go.Proofs.Ytniijahjfbgfpaa.V
open Go Go.Eng
set_option maxRecDepth 1000000
set_option maxHeartbeats 4000000
def S5 : List A → List C := fun _ => [.bool true]
def tbl5 : FuncId → List A → List C := fun f ds => match f with
  | 11 => S11 ds
  | 20 => S20 ds
  | 22 => S22 ds
  | _ => []
theorem pc5 (ce12 : DoC Try.prog 12) (ce15 : FreeC Try.prog 15) (ce17 : BayC Try.prog 17) (ce24 : NewC Try.prog 24) {x1 : List (List C)} {x2 : List (List C)} {row : List C} (hS : S5 [.c (.sl [.int .i64, .int .i64] x1), .c (.sl [.int .i64, .int .i64, .int .i64, .int .i64, .int .i64] x2)] = row) (h : vc5 (stdE Try.prog tbl5) x1 x2 fun c => c = row) : PCg Try.prog 5 S5 [(false, [.bool])] [.c (.sl [.int .i64, .int .i64] x1), .c (.sl [.int .i64, .int .i64, .int .i64, .int .i64, .int .i64] x2)] := PureC_vc mo h5 (by kernel_rfl) hS (w5 ce12 ce15 ce17 ce24 h)
theorem p5 (bs : List I2) (l : List I5) : PureC Try.prog 5 [kB] [s2 (row2 bs), s5 (row5 l)] fun _ => .bool true := by
  refine PureC.one (get := fun i => (S5 [s2 (row2 bs), s5 (row5 l)]).getD i .nil) (pc5 c12 c15 c17 c24 (row := [.bool true]) rfl ?_) rfl
  unfold vc5
  simp only [stdE, baseE, Br_iff, Imp_iff, tbl5, forall_eq, row5_len, row2_len]
  simp only [p11, implies_true, true_and]
  simp only [e11, List.getD_cons_zero, gb_bool, bite_orP, Bool.decide_eq_true, Bool.or_eq_true, Bool.or_eq_false_iff, decide_eq_true_eq, decide_eq_false_iff_not]
  refine ⟨fun _ => trivial, fun hlen => spNew_of rfl (fun he => ⟨fun _ => ?_, fun h => ?_⟩) fun he => ⟨fun h => ?_, fun _ => ?_⟩⟩
  · simp [he]
  · simp at h
  · simp at h
  refine do_loop (l := l) (by omega) he fun es tn la hs hw _ htn => ?_
  have htn0 : tn ≤ 120 := by omega
  have hbl := hw.inv.bl
  refine ⟨bs, hs, rfl, hw, by omega, ?_⟩
  have hfl : ((rowsI (freeL bs hs)).length : Int) = bs.length := by rw [rowsI_len, free_len]
  simp only [hfl]
  refine ⟨fun c => by simp at c, fun _ => ?_⟩
  refine LoopP2.run (fun g : List Int × Nat => rowsI g.1) (fun g => (g.2 : Int)) (fun g => g.2 ≤ bs.length ∧ g.1.length ≤ 120 * g.2 ∧ ∀ a ∈ g.1, ∃ h ∈ hs, h.1 = a ∧ bayOf h < g.2) (fun g => bs.length - g.2) ([], 0) ⟨Nat.zero_le _, Nat.le_refl _, fun a ha => by cases ha⟩ rfl rfl ?_
  rintro ⟨seen, n⟩ ⟨hn, hsl, hseen⟩ K hK
  dsimp only at hn hsl hseen ⊢
  refine ⟨fun h => ?_, fun _ => trivial⟩
  have h1 : n < bs.length := by omega
  have hb := isB_nat h1
  refine ⟨bs, hs, rfl, hw, by omega, ?_⟩
  rw [bayE_in hb, bayL_in hb]
  generalize hz : inB hs n = zs
  have hzs : zs.Sublist hs := by rw [← hz]; exact List.filter_sublist
  have hzl : zs.length ≤ 120 := by
    have h2 := hzs.length_le
    have h3 := hw.inv.ln
    omega
  have hzm : ∀ z ∈ zs, z ∈ hs ∧ bayOf z = n := fun z hzz => by rw [← hz] at hzz; exact mem_inB.1 hzz
  have hzn : (keys zs).Nodup := hw.inv.nd.sublist (hzs.map _)
  have hza := hw.inv.aa.sublist hzs
  have hrl : ((row3 (zs.map slot3)).length : Int) = zs.length := by rw [row3_len, List.length_map]
  have hcnt : cnt hs n = zs.length := by rw [← hz]; rfl
  have hcp := hw.inv.cp n h1
  have hbd := bay_bd hw.inv n h1
  rw [hcnt] at hcp
  have hfk : (cellAt (rowsI (freeL bs hs)) ((n : Int)).toNat 0).gi = (bs.getD n z2).1 - zs.length := by
    rw [toNat_cast, rowsI_getD, getD_el (by rw [free_len]; exact h1)]
    simp only [freeL, List.getElem_map, List.getElem_range, hcnt]
  rw [hfk]
  simp only [hrl, toNat_cast, row2_c0]
  rw [wrap_in (n := (zs.length : Int) + ((bs.getD n z2).1 - zs.length)) (by omega) (by omega)]
  refine ⟨fun _ => by omega, fun _ => by omega, fun _ => by omega, fun c => ?_, fun _ => ?_⟩
  · exfalso
    rcases c with ((c | c) | c) | c
    · simp at c
    · omega
    · simp at c; omega
    · omega
  refine LoopP3.run (fun j : Nat => rowsI (seen ++ (zs.take j).map (·.1))) (fun j => rowsI ((zs.take j).map (·.1)).reverse) (fun j => (j : Int)) (fun j => j ≤ zs.length) (fun j => zs.length - j) 0 (Nat.zero_le _) (by simp) rfl rfl ?_
  intro j hj J hJ
  refine ⟨fun c => ?_, fun c => ?_⟩
  · have hj1 : j < zs.length := by omega
    have hgz : (zs.map slot3).getD j z3 = slot3 zs[j] := by rw [getD_el (by rw [List.length_map]; exact hj1), List.getElem_map]
    have hm := hzm zs[j] (List.getElem_mem hj1)
    have hfnd : fnd hs zs[j].1 = some zs[j] := fnd_mem hw.inv.nd hm.1
    have hrf : rfV (hs.map itm) zs[j].1 = [.int .i64 zs[j].1, .int .i64 (n : Int), .int .i64 (atOf zs[j]), .bool true] := by
      unfold rfV
      rw [fnd4_map, hfnd]
      show [C.int .i64 zs[j].1, .int .i64 (bayOf zs[j]), .int .i64 (atOf zs[j]), .bool true] = _
      rw [hm.2]
    simp only [toNat_cast, row3_c0, row3_c1, row3_c2, hgz, show (slot3 zs[j]).1 = zs[j].1 from rfl, show (slot3 zs[j]).2.1 = bayOf zs[j] from rfl, show (slot3 zs[j]).2.2 = atOf zs[j] from rfl, hm.2]
    refine ⟨by omega, p20 .., ?_⟩
    rw [e20, find_same hw, hrf]
    simp only [List.getD_cons_zero, List.getD_cons_succ, gi_int, gb_bool, beq_self_eq_true, Bool.and_true, Bool.not_true, Bool.not_false, Bool.or_false, Bool.false_or, decide_false, Bool.false_eq_true, or_self, false_or, Bool.true_and, decide_eq_true_eq]
    have hw1 : IntKind.i64.wrap ((j : Int) - 1) = (j : Int) - 1 := wrap_in (by omega) (by omega)
    rw [hw1]
    have hbad : (if 0 < (j : Int) then decide (atOf zs[j] < ((zs.map slot3).getD ((j : Int) - 1).toNat z3).2.2) else false) = false := by
      by_cases hj0 : 0 < j
      · rw [if_pos (by omega), decide_eq_false_iff_not]
        have ht : ((j : Int) - 1).toNat = j - 1 := by omega
        rw [ht, getD_el (by rw [List.length_map]; omega), List.getElem_map]
        have := List.pairwise_iff_getElem.1 hza (j - 1) j (by omega) hj1 (by omega)
        show ¬ atOf zs[j] < atOf zs[j - 1]
        omega
      · rw [if_neg (by omega)]
    rw [hbad]
    refine ⟨fun _ => by omega, fun _ => by omega, fun _ h => h, fun c => by simp at c, fun _ => ?_⟩
    have htk : zs.take (j + 1) = zs.take j ++ [zs[j]] := by rw [List.take_add_one, List.getElem?_eq_getElem hj1]; rfl
    have hne : ∀ a ∈ seen ++ (zs.take j).map (·.1), a ≠ zs[j].1 := by
      intro a ha e
      rcases List.mem_append.1 ha with ha | ha
      · obtain ⟨h, hh, g1, g2⟩ := hseen a ha
        have := key_unique hw.inv.nd hh hm.1 (g1.trans e)
        rw [this, hm.2] at g2
        omega
      · obtain ⟨z, hzt, rfl⟩ := List.mem_map.1 ha
        obtain ⟨i, hi, rfl⟩ := List.getElem_of_mem hzt
        rw [List.getElem_take] at e
        have hi' : i < j := by rw [List.length_take] at hi; omega
        have := List.pairwise_iff_getElem.1 hzn i j (by unfold keys; rw [List.length_map]; omega) (by unfold keys; rw [List.length_map]; exact hj1) hi'
        simp only [keys, List.getElem_map] at this
        exact this e
    generalize hsn : seen ++ (zs.take j).map (·.1) = sn at hne
    have hsnl : sn.length ≤ 100000 := by rw [← hsn]; simp; omega
    simp only [rowsI_len]
    refine LoopP1.run (fun i : Nat => (i : Int)) (fun i => i ≤ sn.length) (fun i => sn.length - i) 0 (Nat.zero_le _) rfl ?_
    intro i hi J2 hJ2
    simp only [toNat_cast, rowsI_getD]
    refine ⟨fun h => ?_, fun h => ?_⟩
    · have hi1 : i < sn.length := by omega
      refine ⟨by omega, fun c => ?_, fun _ => hJ2 _ (i + 1) (by omega) (by omega) (wrap_up rfl (by omega))⟩
      have c := beq_iff_eq.1 c
      rw [getD_el hi1] at c
      exact absurd c (hne _ (List.getElem_mem hi1))
    · refine ⟨by simp; omega, by simp; omega, ?_⟩
      refine hJ _ _ _ (j + 1) (by omega) (by omega) ?_ ?_ (wrap_up rfl (by omega))
      · rw [htk, List.map_append, ← List.append_assoc, hsn, rowsI_app]; rfl
      · rw [htk, List.map_append, List.reverse_append, rowsI_app]; rfl
  · have hjl : j = zs.length := by omega
    subst hjl
    rw [List.take_length]
    have hks : ((zs.map (·.1)).reverse).length ≤ 1000000 := by simp; omega
    have hold : oldR (hs.map itm) (zs.map (·.1)).reverse = match zs with
        | [] => [.int .i64 0, .int .i64 7]
        | x :: _ => [.int .i64 x.1, .int .i64 0] := by
      rw [old_bay (k := n) fun h hh => ?_, hz]
      · rcases zs with _ | ⟨x, xs⟩ <;> rfl
      rw [List.mem_reverse, List.mem_map]
      constructor
      · rintro ⟨z, hz1, hz2⟩
        obtain ⟨g1, g2⟩ := hzm z hz1
        rw [key_unique hw.inv.nd hh g1 hz2.symm]
        exact g2
      · intro hbk
        exact ⟨h, by rw [← hz]; exact mem_inB.2 ⟨hh, hbk⟩, rfl⟩
    have hKK : K (rowsI (seen ++ zs.map (·.1))) (IntKind.i64.wrap ((n : Int) + 1)) := by
      refine hK _ _ (seen ++ zs.map (·.1), n + 1) ⟨by dsimp only; omega, by simp; omega, fun a ha => ?_⟩ (by dsimp only; omega) rfl (wrap_up rfl (by omega))
      rcases List.mem_append.1 ha with ha | ha
      · obtain ⟨h, hh, g1, g2⟩ := hseen a ha
        exact ⟨h, hh, g1, by dsimp only; omega⟩
      · obtain ⟨z, hz1, rfl⟩ := List.mem_map.1 ha
        obtain ⟨g1, g2⟩ := hzm z hz1
        exact ⟨z, g1, rfl, by dsimp only; omega⟩
    refine ⟨p22 _ _ _ _ hks, ?_⟩
    rw [e22, old_same hw, hold]
    have hc0 : 0 < zs.length → (cellAt (row3 (zs.map slot3)) (Int.toNat 0) 0).gi = match zs with
        | [] => 0
        | x :: _ => x.1 := by
      intro hp
      match zs, hp with
      | x :: xs, _ => rfl
    clear hold hks hzs hzl hzm hzn hza hrl hcnt hcp hfk hJ hz
    cases zs with
    | nil =>
      dsimp only
      simp only [List.getD_cons_zero, List.getD_cons_succ, gi_int, List.length_nil]
      simpa using hKK
    | cons x xs =>
      have hc0 := hc0 (by simp)
      dsimp only at hc0 ⊢
      rw [hc0]
      simp only [List.getD_cons_zero, List.getD_cons_succ, gi_int]
      have hlz : (((x :: xs).length : Int) == 0) = false := by rw [beq_eq_false_iff_ne]; simp; omega
      rw [hlz]
      simpa using hKK
end Go.Proofs.Ytniijahjfbgfpaa.V
