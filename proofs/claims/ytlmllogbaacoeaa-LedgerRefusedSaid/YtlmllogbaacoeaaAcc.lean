/- Ledgers: the accounts that occur. No conditions. -/
import Derived.Test.YtlmllogbaacoeaaCpt
import Derived.Test.YtlmllogbaacoeaaLays
import Derived.Test.YtlmllogbaacoeaaEX
set_option linter.unusedVariables false
set_option linter.unusedSimpArgs false
namespace Go.Proofs.Ytlmllogbaacoeaa.V
open Go Go.Eng
set_option maxRecDepth 1000000
set_option maxHeartbeats 1000000
theorem sort39C : OnArr spSort [.int .i64] Try.prog 39 := sortC Try.sort39 (by kernel_rfl)
theorem ms_perm (w : List Int) : (w.mergeSort fun x y => decide (x ≤ y)).Perm w := List.mergeSort_perm _ _
theorem ms_sorted (w : List Int) : (w.mergeSort fun x y => decide (x ≤ y)).Pairwise (· ≤ ·) := by
  have := List.pairwise_mergeSort (le := fun x y : Int => decide (x ≤ y)) (fun a b c h1 h2 => by simp at *; omega) (fun a b => by simp; omega) w
  simpa using this
theorem dedA_mem : ∀ (l : List Int) (k : Int), k ∈ dedA l ↔ k ∈ l
  | [], k => Iff.rfl
  | [a], k => Iff.rfl
  | a :: b :: r, k => by
    have ih := dedA_mem (b :: r) k
    rw [dedA_cons]
    by_cases e : a = b
    · rw [if_pos e, ih, e]; simp
    · rw [if_neg e, List.mem_cons, ih]; simp
theorem dedA_lt : ∀ (l : List Int), l.Pairwise (· ≤ ·) → (dedA l).Pairwise (· < ·)
  | [], _ => List.Pairwise.nil
  | [a], _ => List.pairwise_singleton _ _
  | a :: b :: r, h => by
    have hb := List.pairwise_cons.1 h
    have ih := dedA_lt (b :: r) hb.2
    rw [dedA_cons]
    by_cases e : a = b
    · rw [if_pos e]; exact ih
    · rw [if_neg e]
      refine List.pairwise_cons.2 ⟨fun k hk => ?_, ih⟩
      have hk := (dedA_mem _ _).1 hk
      have h1 := hb.1 b (by simp)
      rcases List.mem_cons.1 hk with rfl | hk
      · omega
      · have := (List.pairwise_cons.1 hb.2).1 k hk
        omega
theorem lt_uniq : ∀ {xs ys : List Int}, xs.Pairwise (· < ·) → ys.Pairwise (· < ·) → (∀ k, k ∈ xs ↔ k ∈ ys) → xs = ys
  | [], [], _, _, _ => rfl
  | [], y :: ys, _, _, h => by have := (h y).2 (by simp); cases this
  | x :: xs, [], _, _, h => by have := (h x).1 (by simp); cases this
  | x :: xs, y :: ys, hx, hy, h => by
    have h1 := List.pairwise_cons.1 hx
    have h2 := List.pairwise_cons.1 hy
    have e : x = y := by
      rcases List.mem_cons.1 ((h x).1 (by simp)) with e | e
      · exact e
      · rcases List.mem_cons.1 ((h y).2 (by simp)) with e2 | e2
        · exact e2.symm
        · have := h2.1 x e; have := h1.1 y e2; omega
    subst e
    refine congrArg (x :: ·) (lt_uniq h1.2 h2.2 fun k => ⟨fun hk => ?_, fun hk => ?_⟩)
    · rcases List.mem_cons.1 ((h k).1 (List.mem_cons_of_mem _ hk)) with e | e
      · have := h1.1 k hk; omega
      · exact e
    · rcases List.mem_cons.1 ((h k).2 (List.mem_cons_of_mem _ hk)) with e | e
      · have := h2.1 k hk; omega
      · exact e
/-- The accounts of postings, in ascending order. -/
def accS (ps : List PT) : List Int := dedA ((accL ps).mergeSort fun x y => decide (x ≤ y))
theorem accS_lt (ps : List PT) : (accS ps).Pairwise (· < ·) := dedA_lt _ (ms_sorted _)
theorem accS_mem (ps : List PT) (k : Int) : k ∈ accS ps ↔ k ∈ accL ps := by
  unfold accS
  rw [dedA_mem]
  exact (ms_perm _).mem_iff
theorem accL_take (ps : List PT) {n : Nat} (h : n < ps.length) : accL (ps.take (n + 1)) = accL (ps.take n) ++ (ps.getD n zP).2.2.map (·.1) := by
  unfold accL
  rw [List.take_succ_eq_append_getElem h, getD_get h, List.flatMap_append]
  simp
theorem accL_len : ∀ {ps : List PT}, (∀ p ∈ ps, chkP p = 0) → (accL ps).length ≤ 16 * ps.length := by
  intro ps
  induction ps with
  | nil => exact fun _ => Nat.le_refl _
  | cons p ps ih =>
    intro h
    have h1 := ih fun q hq => h q (List.mem_cons_of_mem _ hq)
    have h2 := (chk_ok (h p (by simp))).2.2.2.2.2.1
    show ((p.2.2.map (·.1)) ++ accL ps).length ≤ _
    rw [List.length_append, List.length_map, List.length_cons]
    omega
theorem its_take (its : List I2) {i : Nat} (h : i < its.length) : (its.take (i + 1)).map (·.1) = (its.take i).map (·.1) ++ [(its.getD i z2).1] := by
  rw [List.take_succ_eq_append_getElem h, getD_get h, List.map_append]; rfl
theorem rowsI_one (k : Int) : rowsI [k] = [[.int .i64 k]] := rfl
theorem rowsI_app (a b : List Int) : rowsI (a ++ b) = rowsI a ++ rowsI b := by simp [rowsI]
def tbl24 : FuncId → List A → List C := fun f ds => match f with
  | _ => []
theorem ac24 {x1 : List (List C)} {x2 : List (Int × C)} (ce39 : OnArr spSort [.int .i64] Try.prog 39) (ce40 : CompactC 3 [.int .i64] Try.prog 40) {Q0 : (List (List C)) → (Int) → Prop} (h : vc24 (stdE Try.prog tbl24) x1 x2 Q0) : ACalls Try.prog 24 [.ptr 0 0] [.box 54 [.gr 1, .map 2], .arr 24 [.int .i64, .int .i64, .sl [.int .i64, .int .i64]] x1, .mp .i64 (.int .i64) x2] fun r H' => (∃ l1 : List (List C), ∃ i2 : Int, Q0 l1 i2 ∧ r = .own 3 0 i2 ∧ H' = [.box 54 [.gr 1, .map 2], .arr 24 [.int .i64, .int .i64, .sl [.int .i64, .int .i64]] x1, .mp .i64 (.int .i64) x2, .arr 3 [.int .i64] l1]) := ACalls_vc mo h24 (w24 ce39 ce40 h)
def tbl24N : FuncId → List A → List C := fun f ds => match f with
  | _ => []
theorem ac24N   {Q0 : Prop} (h : vc24N (stdE Try.prog tbl24N)  Q0) : ACalls Try.prog 24 [.np] [] fun r H' => (Q0  ∧ r = .c (.nil) ∧ H' = []) := ACalls_vc mo h24 (w24N  h)
theorem c24 : AccC Try.prog 24 := ⟨fnR_body h24 (by kernel_rfl), fun x1 x2 K0 ⟨ps, hx, hv, hl, h0⟩ => ac24 sort39C cpt40 (by
  subst hx
  unfold vc24
  simp only [stdE, baseE, Br_iff, rowsP_len, decide_eq_true_eq, decide_eq_false_iff_not, true_and]
  refine LoopP2.run (fun n : Nat => rowsI (accL (ps.take n))) (fun n => (n : Int)) (fun n => n ≤ ps.length) (fun n => ps.length - n) 0 (Nat.zero_le _) rfl rfl ?_
  intro n hn K hK
  simp only [toNat_cast, rowsP_c2, row2_len]
  have hal := accL_len (ps := ps.take n) fun q hq => hv q (List.mem_of_mem_take hq)
  rw [List.length_take] at hal
  refine ⟨fun h => ⟨by omega, ?_⟩, fun h => ?_⟩
  · obtain ⟨p, hp⟩ : ∃ p, ps.getD n zP = p := ⟨_, rfl⟩
    have ho := chk_ok (hv _ (show ps.getD n zP ∈ ps by rw [getD_get (show n < ps.length by omega)]; exact List.getElem_mem _))
    have ht := accL_take ps (n := n) (by omega)
    rw [hp] at ho ht ⊢
    refine LoopP2.run (fun i : Nat => rowsI (accL (ps.take n) ++ (p.2.2.take i).map (·.1))) (fun i => (i : Int)) (fun i => i ≤ p.2.2.length) (fun i => p.2.2.length - i) 0 (Nat.zero_le _) (by simp) rfl ?_
    intro i hi K2 hK2
    simp only [toNat_cast, row2_c0, rowsI_len]
    refine ⟨fun h2 => ⟨by omega, ?_, hK2 _ _ (i + 1) (by omega) (by omega) ?_ (wrap_up rfl (by omega))⟩, fun h2 => hK _ _ (n + 1) (by omega) (by omega) ?_ (wrap_up rfl (by omega))⟩
    · simp only [List.length_append, List.length_map, List.length_take, List.length_singleton]
      omega
    · rw [its_take _ (by omega), ← List.append_assoc, rowsI_app _ [_], rowsI_one]
    · have e : i = p.2.2.length := by omega
      subst e
      rw [ht, List.take_length]
  · have e : n = ps.length := by omega
    subst e
    rw [List.take_length] at hal ⊢
    have hml : ((accL ps).mergeSort fun x y => decide (x ≤ y)).length = (accL ps).length := List.length_mergeSort _
    refine ⟨accL ps, rfl, by omega, _, rfl, by rw [hml]; omega, fun ys hy ht => h0 ys (accS ps) (accS_lt ps) (accS_mem ps) ?_ ht⟩
    rw [hy, rowsI_len]
    exact dedA_len _), fun K h => ac24N (by unfold vc24N; exact ⟨rfl, h⟩)⟩
theorem cd24 : AccDC Try.prog 24 := ⟨fnR_body h24 (by kernel_rfl), fun x1 x2 K ⟨ps, hx, hv, hl, h0⟩ => by
  have h := c24.2.1 x1 x2 (fun ys n => K (ys.take n.toNat)) ⟨ps, hx, hv, hl, fun ys zs h1 h2 h3 h4 => by
    show K (ys.take ((zs.length : Int)).toNat)
    rw [toNat_cast, h4]
    exact h0 zs h1 h2⟩
  refine (ACalls.ownData 3 rfl h).retell fun r H' ⟨l, n, hK, hr, hH⟩ => ?_
  subst hr hH
  refine ⟨_, _, GFin.of (GSt.ren [0, 1, 2] rfl rfl rfl (fun i hi => by match i, hi with | 0, _ => rfl | 1, _ => rfl | 2, _ => rfl) (Nat.le_refl _) ?_ ?_), _, hK, rfl, rfl⟩
  all_goals (repeat' (first | exact trivial | exact Or.inl rfl | exact Or.inr rfl | refine And.intro ?_ ?_))⟩
/-! ### The reference's -/
def S41 : List A → List C := fun ds => match ds with
  | [.c (.sl _ xs)] => [.sl [.int .i64] (rowsI (accS (unP xs)))]
  | _ => []
theorem e41 (ps : List PT) : S41 [sP (rowsP ps)] = [.sl [.int .i64] (rowsI (accS ps))] := by
  show [C.sl _ (rowsI (accS (unP (rowsP ps))))] = _
  rw [unP_rows]
theorem ins_lt {zs : List Int} {k : Nat} {n : Int} (h : zs.Pairwise (· < ·)) (h1 : ∀ i, i < k → zs.getD i 0 < n) (h2 : k < zs.length → n < zs.getD k 0) : (zs.take k ++ ([n] ++ zs.drop k)).Pairwise (· < ·) := by
  have hs := h
  rw [← List.take_append_drop k zs] at hs
  obtain ⟨g1, g2, g3⟩ := List.pairwise_append.1 hs
  have ht : ∀ x ∈ zs.take k, x < n := fun x hx => by
    obtain ⟨i, hi, rfl⟩ := List.mem_iff_getElem.1 hx
    have hi2 := hi
    rw [List.length_take] at hi2
    have := h1 i (by omega)
    rw [getD_get (show i < zs.length by omega)] at this
    simpa using this
  have hd : ∀ x ∈ zs.drop k, n < x := fun x hx => by
    obtain ⟨i, hi, rfl⟩ := List.mem_iff_getElem.1 hx
    simp at hi
    have h3 := h2 (by omega)
    rw [getD_get (show k < zs.length by omega)] at h3
    rw [List.getElem_drop]
    cases i with
    | zero => simpa using h3
    | succ i =>
      have := List.pairwise_iff_getElem.1 h k (k + (i + 1)) (by omega) (by omega) (by omega)
      omega
  refine List.pairwise_append.2 ⟨g1, List.pairwise_append.2 ⟨List.pairwise_singleton _ _, g2, fun a ha b hb => ?_⟩, fun a ha b hb => ?_⟩
  · rw [List.mem_singleton.1 ha]; exact hd b hb
  · rcases List.mem_append.1 hb with hb | hb
    · rw [List.mem_singleton.1 hb]; exact ht a ha
    · have := ht a ha; have := hd b hb; omega
theorem ins_mem (zs : List Int) (k : Nat) (n x : Int) : x ∈ zs.take k ++ ([n] ++ zs.drop k) ↔ x ∈ zs ∨ x = n := by
  have e : x ∈ zs ↔ x ∈ zs.take k ∨ x ∈ zs.drop k := by
    rw [← List.mem_append, List.take_append_drop]
  simp only [List.mem_append, List.mem_singleton, e]
  constructor
  · rintro (h | h | h)
    · exact .inl (.inl h)
    · exact .inr h
    · exact .inl (.inr h)
  · rintro ((h | h) | h)
    · exact .inl h
    · exact .inr (.inr h)
    · exact .inr (.inl h)
/-- A list of at most as many as another one that holds all of it. -/
theorem lt_len : ∀ {xs : List Int} {ys : List Int}, xs.Pairwise (· < ·) → (∀ k, k ∈ xs → k ∈ ys) → xs.length ≤ ys.length
  | [], ys, _, _ => Nat.zero_le _
  | x :: xs, ys, hx, h => by
    have h1 := List.pairwise_cons.1 hx
    have hm := h x (by simp)
    have h2 := lt_len (xs := xs) (ys := ys.erase x) h1.2 fun k hk => by
      have hk2 := h k (List.mem_cons_of_mem _ hk)
      have := h1.1 k hk
      exact (List.mem_erase_of_ne (by omega)).2 hk2
    rw [List.length_erase_of_mem hm] at h2
    have : 0 < ys.length := List.length_pos_of_mem hm
    simp; omega
def tbl41 : FuncId → List A → List C := fun f ds => match f with
  | _ => []
theorem pc41  {x1 : List (List C)} {row : List C} (hS : S41 [.c (.sl [.int .i64, .int .i64, .sl [.int .i64, .int .i64]] x1)] = row) (h : vc41 (stdE Try.prog tbl41) x1 fun c => c = row) : PCg Try.prog 41 S41 [(false, [.sl [.int .i64]])] [.c (.sl [.int .i64, .int .i64, .sl [.int .i64, .int .i64]] x1)] := PureC_vc mo h41 (by kernel_rfl) hS (w41  h)
theorem p41 {ps : List PT} (hv : ∀ p ∈ ps, chkP p = 0) (hl : ps.length ≤ 512) : PCg Try.prog 41 S41 [(false, [.sl [.int .i64]])] [sP (rowsP ps)] := by
  refine pc41 (e41 ..) ?_
  unfold vc41
  simp only [stdE, baseE, Br_iff, Imp_iff, bite_and, rowsP_len]
  simp only [Bool.and_eq_true, Bool.and_eq_false_iff, decide_eq_true_eq, decide_eq_false_iff_not, beq_iff_eq, beq_eq_false_iff_ne]
  refine LoopP2.run (fun p : Nat × List Int => rowsI p.2) (fun p => (p.1 : Int)) (fun p => p.1 ≤ ps.length ∧ p.2.Pairwise (· < ·) ∧ ∀ k, k ∈ p.2 ↔ k ∈ accL (ps.take p.1)) (fun p => ps.length - p.1) (0, []) ⟨Nat.zero_le _, List.Pairwise.nil, fun k => Iff.rfl⟩ rfl rfl ?_
  rintro ⟨n, zs⟩ ⟨hn, hs, hm⟩ K hK
  dsimp only at hn hs hm ⊢
  simp only [toNat_cast, rowsP_c2, row2_len]
  refine ⟨fun h => ?_, fun h => ?_⟩
  · obtain ⟨p, hp⟩ : ∃ p, ps.getD n zP = p := ⟨_, rfl⟩
    have ho := chk_ok (hv _ (show ps.getD n zP ∈ ps by rw [getD_get (show n < ps.length by omega)]; exact List.getElem_mem _))
    have ht := accL_take ps (n := n) (by omega)
    have hal := accL_len (ps := ps.take n) fun q hq => hv q (List.mem_of_mem_take hq)
    rw [List.length_take] at hal
    rw [hp] at ho ht ⊢
    refine LoopP2.run (fun p : Nat × List Int => rowsI p.2) (fun p => (p.1 : Int)) (fun q => q.1 ≤ p.2.2.length ∧ q.2.Pairwise (· < ·) ∧ ∀ k, k ∈ q.2 ↔ k ∈ accL (ps.take n) ++ (p.2.2.take q.1).map (·.1)) (fun q => p.2.2.length - q.1) (0, zs) ⟨Nat.zero_le _, hs, fun k => by simp [hm]⟩ rfl rfl ?_
    rintro ⟨i, ws⟩ ⟨hi, hs2, hm2⟩ K2 hK2
    dsimp only at hi hs2 hm2 ⊢
    simp only [toNat_cast, row2_c0, rowsI_len]
    have hwl : ws.length ≤ 20000 := by
      have := lt_len hs2 fun k hk => (hm2 k).1 hk
      rw [List.length_append, List.length_map, List.length_take] at this
      omega
    refine ⟨by omega, fun h2 => ⟨by omega, ?_⟩, fun h2 => ?_⟩
    · obtain ⟨a, ha⟩ : ∃ a, (p.2.2.getD i z2).1 = a := ⟨_, rfl⟩
      have hit := its_take p.2.2 (i := i) (by omega)
      rw [ha] at hit ⊢
      have hm3 : ∀ k, k ∈ accL (ps.take n) ++ (p.2.2.take (i + 1)).map (·.1) ↔ (k ∈ ws ∨ k = a) := fun k => by
        rw [hit, ← List.append_assoc, List.mem_append, ← hm2, List.mem_singleton]
      refine LoopP1.run (fun j : Nat => (j : Int)) (fun j => j ≤ ws.length ∧ ∀ m, m < j → ws.getD m 0 < a) (fun j => ws.length - j) 0 ⟨Nat.zero_le _, fun m hm => by omega⟩ rfl ?_
      rintro j ⟨hj, hj2⟩ K3 hK3
      simp only [toNat_cast, rowsI_getD]
      have t1 : ((0 : Int) + ((j : Int) - 0)).toNat = j := by omega
      have t2 : ((j : Int) + ((ws.length : Int) - (j : Int))).toNat = ws.length := by omega
      simp only [t1, t2, Int.toNat_zero, List.drop_zero, List.nil_append]
      refine ⟨fun h3 => by omega, fun h3 => hK3 _ (j + 1) ⟨by omega, fun m hm => ?_⟩ (by omega) (wrap_up rfl (by omega)), fun h3 => ⟨fun h4 => ?_, fun h4 => ?_⟩⟩
      · by_cases e : m = j
        · subst e; exact h3.2
        · exact hj2 m (by omega)
      · refine hK2 _ _ (i + 1, ws) ⟨by dsimp only; omega, hs2, fun k => ?_⟩ (by dsimp only; omega) rfl (wrap_up rfl (by omega))
        dsimp only
        rw [hm3]
        refine ⟨.inl, fun hk => hk.elim id fun hk => ?_⟩
        rw [hk, ← h4.2, getD_get (show j < ws.length by omega)]
        exact List.getElem_mem _
      · have hlt : j < ws.length → a < ws.getD j 0 := fun hj => by
          have : ¬ ws.getD j 0 < a := h3.resolve_left (fun h => h (by omega))
          have : ¬ ws.getD j 0 = a := h4.resolve_left (fun h => h (by omega))
          omega
        have l0 : ((([] : List (List C)).length : Nat) : Int) = 0 := rfl
        refine ⟨Int.le_refl _, by omega, by omega, ?_, ?_, Int.le_refl _, ?_, hK2 _ _ (i + 1, ws.take j ++ ([a] ++ ws.drop j)) ⟨by dsimp only; omega, ins_lt hs2 hj2 hlt, fun k => ?_⟩ (by dsimp only; omega) ?_ (wrap_up rfl (by omega))⟩
        · rw [l0, List.length_take, rowsI_len]; omega
        · rw [List.length_take, rowsI_len, List.length_singleton]; omega
        · rw [List.length_append, List.length_take, rowsI_len, List.length_singleton, List.length_drop, List.length_take, rowsI_len]; omega
        · dsimp only
          rw [ins_mem, hm3]
        · dsimp only
          rw [rowsI_app, rowsI_app, rowsI_one, ← List.append_assoc]
          congr 1
          · congr 1
            simp [rowsI, List.map_take]
          · rw [show List.take ws.length (rowsI ws) = rowsI ws by rw [← rowsI_len ws, List.take_length]]
            simp [rowsI, List.map_drop]
    · have e : i = p.2.2.length := by omega
      subst e
      refine hK _ _ (n + 1, ws) ⟨by dsimp only; omega, hs2, fun k => ?_⟩ (by dsimp only; omega) rfl (wrap_up rfl (by omega))
      dsimp only
      rw [hm2, ht, List.take_length]
  · have e : n = ps.length := by omega
    subst e
    rw [List.take_length] at hm
    rw [lt_uniq hs (accS_lt ps) fun k => (hm k).trans (accS_mem ps k).symm]
def tbl25 : FuncId → List A → List C := fun f ds => match f with
  | 41 => S41 ds
  | _ => []
theorem ac25 {x1 : List (List C)}  {Q0 : (List (List C)) → Prop} (h : vc25 (stdE Try.prog tbl25) x1 Q0) : ACalls Try.prog 25 [.ptr 0 0] [.box 56 [.c (.sl [.int .i64, .int .i64, .sl [.int .i64, .int .i64]] x1)]] fun r H' => (∃ l1 : List (List C), Q0 l1 ∧ r = .c (.sl [.int .i64] l1) ∧ H' = [.box 56 [.c (.sl [.int .i64, .int .i64, .sl [.int .i64, .int .i64]] x1)]]) := ACalls_vc mo h25 (w25  h)
theorem c25 : RAccC Try.prog 25 := ⟨fnR_body h25 (by kernel_rfl), fun x1 K0 ⟨ps, hx, hv, hl, h0⟩ => ac25 (by
  subst hx
  unfold vc25
  simp only [stdE, baseE, tbl25, forall_eq]
  simp only [p41 hv hl, true_and]
  simp only [e41, List.getD_cons_zero, gl_sl]
  exact h0 _ (accS_lt ps) (accS_mem ps))⟩
end Go.Proofs.Ytlmllogbaacoeaa.V
