/- Defects: selected, in the program and in the reference. No conditions. -/
import Derived.Test.YtkdapoipnkpbeaaChk
import Derived.Test.YtkdapoipnkpbeaaGG
set_option linter.unusedVariables false
set_option linter.unusedSimpArgs false
namespace Go.Proofs.Ytkdapoipnkpbeaa.V
open Go Go.Eng
set_option maxRecDepth 1000000
set_option maxHeartbeats 1000000
/-- An integer variable, told as data. -/
abbrev eI (n : Int) : A := .el [.int .i64] [[.int .i64 n]] 0 0
def S42 : List A → List C := fun ds => match ds with
  | [.agg [.c (.int _ a0), .c (.int _ a1), .c (.int _ a2), .c (.int _ a3), .c (.int _ a4), .c (.int _ a5)], .el _ [[.int _ k]] _ _, .el _ [[.int _ lv]] _ _] => [.bool (delD k lv (a0, a1, a2, a3, a4, a5))]
  | _ => []
def tbl42 : FuncId → List A → List C := fun f ds => match f with
  | _ => []
theorem pc42  {x1 : Int} {x2 : Int} {x3 : Int} {x4 : Int} {x5 : Int} {x6 : Int} {x7 : Int} {x8 : Int} {row : List C} (hS : S42 [.agg [.c (.int .i64 x1), .c (.int .i64 x2), .c (.int .i64 x3), .c (.int .i64 x4), .c (.int .i64 x5), .c (.int .i64 x6)], .el [.int .i64] [[.int .i64 x7]] 0 0, .el [.int .i64] [[.int .i64 x8]] 0 0] = row) (h : vc42 (stdE Try.prog tbl42) x1 x2 x3 x4 x5 x6 x7 x8 fun c => c = row) : PCg Try.prog 42 S42 [(false, [.bool])] [.agg [.c (.int .i64 x1), .c (.int .i64 x2), .c (.int .i64 x3), .c (.int .i64 x4), .c (.int .i64 x5), .c (.int .i64 x6)], .el [.int .i64] [[.int .i64 x7]] 0 0, .el [.int .i64] [[.int .i64 x8]] 0 0] := PureC_vc mo h42 (by kernel_rfl) hS (w42  h)
theorem p42 (q : I6) (k lv : Int) : PCg Try.prog 42 S42 [kB] [q6 q, eI k, eI lv] := by
  refine pc42 rfl ?_
  unfold vc42
  simp only [stdE, baseE, ite_or, ite_and, Bool.decide_eq_true]
  rfl
theorem e42 (q : I6) (k lv : Int) : S42 [q6 q, eI k, eI lv] = [.bool (delD k lv q)] := rfl
def S53 : List A → List C := fun ds => match ds with
  | [.c (.sl _ xs), .fn _ [.el _ [[.int _ k]] _ _, .el _ [[.int _ lv]] _ _]] => [.int .i64 (ixF xs.length (fun j => delD k lv ((un6 xs).getD j z6)) 0)]
  | _ => []
theorem e53 (rs : List I6) (k lv : Int) : S53 [s6 (row6 rs), .fn 42 [eI k, eI lv]] = [.int .i64 (ixF rs.length (fun j => delD k lv (rs.getD j z6)) 0)] := by
  show [C.int .i64 (ixF (row6 rs).length (fun j => delD k lv ((un6 (row6 rs)).getD j z6)) 0)] = _
  rw [un6_row, row6_len]
def tbl53 : FuncId → List A → List C := fun f ds => match f with
  | 42 => S42 ds
  | _ => []
theorem pc53  {x1 : List (List C)} {x2 : Int} {x3 : Int} {row : List C} (hS : S53 [.c (.sl [.int .i64, .int .i64, .int .i64, .int .i64, .int .i64, .int .i64] x1), .fn 42 [.el [.int .i64] [[.int .i64 x2]] 0 0, .el [.int .i64] [[.int .i64 x3]] 0 0]] = row) (h : vc53 (stdE Try.prog tbl53) x1 x2 x3 fun c => c = row) : PCg Try.prog 53 S53 [(false, [.int .i64])] [.c (.sl [.int .i64, .int .i64, .int .i64, .int .i64, .int .i64, .int .i64] x1), .fn 42 [.el [.int .i64] [[.int .i64 x2]] 0 0, .el [.int .i64] [[.int .i64 x3]] 0 0]] := PureC_vc mo h53 (by kernel_rfl) hS (w53  h)
theorem p53 {rs : List I6} (hl : rs.length ≤ 1000000) (k lv : Int) : PCg Try.prog 53 S53 [kI] [s6 (row6 rs), .fn 42 [eI k, eI lv]] := by
  refine pc53 (e53 rs k lv) ?_
  unfold vc53
  simp only [stdE, baseE, Br_iff, tbl53, true_and, forall_eq, decide_eq_true_eq, decide_eq_false_iff_not, row6_len, row6_c0, row6_c1, row6_c2, row6_c3, row6_c4, row6_c5]
  simp only [p42, true_and]
  simp only [e42, List.getD_cons_zero, gb_bool]
  refine LoopP1.run (fun n : Nat => (n : Int)) (fun n => n ≤ rs.length ∧ ixF rs.length (fun j => delD k lv (rs.getD j z6)) n = ixF rs.length (fun j => delD k lv (rs.getD j z6)) 0) (fun n => rs.length - n) 0 ⟨Nat.zero_le _, rfl⟩ rfl ?_
  rintro n ⟨hn, hf⟩ K hK
  simp only [toNat_cast]
  refine ⟨fun h2 => ⟨by omega, fun h3 => ?_, fun h3 => hK _ (n + 1) ⟨by omega, ?_⟩ (by omega) (wrap_up rfl (by omega))⟩, fun h2 => ?_⟩
  · have h3' : delD k lv (rs.getD n z6) = true := h3
    rw [← hf, ixF_lt (by omega), h3', if_pos rfl]
  · have h3' : delD k lv (rs.getD n z6) = false := h3
    have e := ixF_lt (p := fun j => delD k lv (rs.getD j z6)) (show n < rs.length by omega)
    simp only [h3', Bool.false_eq_true, if_false] at e
    rw [← hf, e]
  · rw [← hf, ixF_ge (by omega)]
theorem ixF_spec (n : Nat) (p : Nat → Bool) : ∀ d j, n - j = d → (ixF n p j = -1 ∧ ∀ m, j ≤ m → m < n → p m = false) ∨ ∃ m, j ≤ m ∧ m < n ∧ ixF n p j = m ∧ p m = true ∧ ∀ q, j ≤ q → q < m → p q = false := by
  intro d
  induction d with
  | zero => intro j h; exact .inl ⟨ixF_ge (by omega), fun m h1 h2 => by omega⟩
  | succ d ih =>
    intro j h
    have hu := ixF_lt (p := p) (show j < n by omega)
    cases hp : p j with
    | true =>
      rw [hp, if_pos rfl] at hu
      exact .inr ⟨j, Nat.le_refl _, by omega, hu, hp, fun q h1 h2 => by omega⟩
    | false =>
      rw [hp, if_neg (by simp)] at hu
      have step : ∀ q, j ≤ q → (j + 1 ≤ q → p q = false) → p q = false := fun q h1 h2 => by
        by_cases e : q = j
        · subst e; exact hp
        · exact h2 (by omega)
      rcases ih (j + 1) (by omega) with ⟨h1, h2⟩ | ⟨m, h1, h2, h3, h4, h5⟩
      · exact .inl ⟨hu.trans h1, fun m g1 g2 => step m g1 fun g => h2 m g g2⟩
      · exact .inr ⟨m, by omega, h2, hu.trans h3, h4, fun q g1 g2 => step q g1 fun g => h5 q g g2⟩
theorem sel_take1 {rs : List I6} {k lv : Int} {n : Nat} (h : n < rs.length) : sel (rs.take (n + 1)) k lv = sel (rs.take n) k lv ++ if delD k lv (rs.getD n z6) then [] else [rs.getD n z6] := by
  unfold sel
  rw [filter_take _ _ z6 h]
  cases delD k lv (rs.getD n z6) <;> rfl
theorem sel_len (rs : List I6) (k lv : Int) : (sel rs k lv).length ≤ rs.length := List.length_filter_le _ _
theorem sel_all {rs : List I6} {k lv : Int} {n : Nat} (hn : n ≤ rs.length) (h : ∀ m, m < n → delD k lv (rs.getD m z6) = false) : sel (rs.take n) k lv = rs.take n := by
  unfold sel
  refine List.filter_eq_self.2 fun q hq => ?_
  obtain ⟨m, hm, rfl⟩ := List.mem_iff_getElem.1 hq
  have hm' : m < n := by simp at hm; omega
  have := h m hm'
  rw [getD_get (show m < rs.length by omega)] at this
  simp [this]
def tbl41 : FuncId → List A → List C := fun f ds => match f with
  | 42 => S42 ds
  | 53 => S53 ds
  | _ => []
theorem ac41  {x1 : List (List C)} {x2 : Int} {x3 : Int} {Q0 : (List (List C)) → (Int) → Prop} (h : vc41 (stdE Try.prog tbl41) x1 x2 x3 Q0) : ACalls Try.prog 41 [.gr 0, .fn 42 [.ptr 1 0, .ptr 2 0]] [.arr 38 [.int .i64, .int .i64, .int .i64, .int .i64, .int .i64, .int .i64] x1, .box 3 [.c (.int .i64 x2)], .box 3 [.c (.int .i64 x3)]] fun r H' => (∃ l1 : List (List C), ∃ i2 : Int, Q0 l1 i2 ∧ r = .own 0 0 i2 ∧ H' = [.arr 38 [.int .i64, .int .i64, .int .i64, .int .i64, .int .i64, .int .i64] l1, .box 3 [.c (.int .i64 x2)], .box 3 [.c (.int .i64 x3)]]) := ACalls_vc mo h41 (w41  h)
theorem row6_drop (rs : List I6) (n : Nat) : (row6 rs).drop n = row6 (rs.drop n) := by simp [row6, List.map_drop]
theorem row6_take (rs : List I6) (n : Nat) : (row6 rs).take n = row6 (rs.take n) := by simp [row6, List.map_take]
theorem del41 : DelFuncC 38 42 Try.prog 41 := ⟨fnR_body h41 (by kernel_rfl), fun xs k lv K ⟨rs, hx, hl, hk⟩ => (ac41 (x1 := xs) (x2 := k) (x3 := lv) (Q0 := K) (by
  subst hx
  unfold vc41
  simp only [stdE, baseE, Br_iff, tbl41, p53 hl, true_and, forall_eq, decide_eq_true_eq, decide_eq_false_iff_not, beq_iff_eq, beq_eq_false_iff_ne, ne_eq, row6_len]
  simp only [e53, List.getD_cons_zero, gi_int]
  rcases ixF_spec rs.length (fun j => delD k lv (rs.getD j z6)) _ 0 rfl with ⟨h1, h2⟩ | ⟨m, h1, h2, h3, h4, h5⟩
  · rw [h1]
    refine ⟨fun _ => ?_, fun h => absurd rfl h⟩
    have : sel rs k lv = rs := by have := sel_all (Nat.le_refl _) fun m hm => h2 m (Nat.zero_le _) hm; rwa [List.take_length] at this
    rw [this] at hk
    exact hk _ (row6_len rs) (by rw [← row6_len rs, List.take_length])
  rw [h3]
  refine ⟨fun h => by omega, fun _ => ?_⟩
  rw [wrap_up rfl (by omega)]
  refine LoopP3.run (fun p : List I6 × Nat => row6 p.1) (fun p => ((sel (rs.take p.2) k lv).length : Int)) (fun p => (p.2 : Int))
    (fun p => p.2 ≤ rs.length ∧ p.1.length = rs.length ∧ p.1.take (sel (rs.take p.2) k lv).length = sel (rs.take p.2) k lv ∧ (∀ i, p.2 ≤ i → p.1.getD i z6 = rs.getD i z6) ∧ (sel (rs.take p.2) k lv).length < p.2) (fun p => rs.length - p.2) (rs, m + 1) ?_ rfl ?_ rfl ?_
  · have e := sel_take1 (k := k) (lv := lv) h2
    rw [show delD k lv (rs.getD m z6) = true from h4, if_pos rfl, List.append_nil, sel_all (by omega) fun q hq => h5 q (Nat.zero_le _) hq] at e
    refine ⟨h2, rfl, ?_, fun i hi => rfl, ?_⟩
    · rw [e]; simp
    · dsimp only; rw [e]; simp; omega
  · have e := sel_take1 (k := k) (lv := lv) h2
    rw [show delD k lv (rs.getD m z6) = true from h4, if_pos rfl, List.append_nil, sel_all (by omega) fun q hq => h5 q (Nat.zero_le _) hq] at e
    dsimp only; rw [e]; simp; omega
  rintro ⟨ws, n⟩ ⟨g1, g2, g3, g4, g5⟩ K2 hK2
  dsimp only at g1 g2 g3 g4 g5 ⊢
  obtain ⟨c, hc⟩ : ∃ c, (sel (rs.take n) k lv).length = c := ⟨_, rfl⟩
  rw [hc] at g3 g5 ⊢
  simp only [row6_len, row6_c0, row6_c1, row6_c2, row6_c3, row6_c4, row6_c5, p42, true_and, toNat_cast]
  simp only [e42, List.getD_cons_zero, gb_bool, row6_set, Bool.not_eq_true', Bool.not_eq_false']
  refine ⟨fun h6 => ?_, fun h6 => ?_⟩
  · have hlt : n < rs.length := by omega
    have e := sel_take1 (k := k) (lv := lv) hlt
    have hg := g4 n (Nat.le_refl _)
    have hp : ((ws.getD n z6).1, (ws.getD n z6).2.1, (ws.getD n z6).2.2.1, (ws.getD n z6).2.2.2.1, (ws.getD n z6).2.2.2.2.1, (ws.getD n z6).2.2.2.2.2) = ws.getD n z6 := rfl
    rw [hp, hg]
    refine ⟨by omega, fun h7 => ⟨by omega, by omega, hK2 _ _ _ (ws.set c (rs.getD n z6), n + 1) ⟨hlt, by simp [g2], ?_, fun i hi => ?_, ?_⟩ (by dsimp only; omega) rfl ?_ (wrap_up rfl (by omega))⟩, fun h7 => hK2 _ _ _ (ws, n + 1) ⟨hlt, g2, ?_, fun i hi => g4 i (by dsimp only at hi; omega), ?_⟩ (by dsimp only; omega) rfl ?_ (wrap_up rfl (by omega))⟩
    · rw [h7] at e
      simp only [Bool.false_eq_true, if_false] at e
      dsimp only
      rw [e, List.length_append, hc, ← g3]
      simp only [List.length_singleton]
      rw [List.take_add_one, List.take_set_of_le (Nat.le_refl _)]
      simp [show c < ws.length by omega]
    · dsimp only at hi ⊢
      rw [← g4 i (by omega)]
      simp [List.getD, show c ≠ i by omega]
    · rw [h7] at e
      simp only [Bool.false_eq_true, if_false] at e
      dsimp only
      rw [e, List.length_append, hc]; simp; omega
    · rw [h7] at e
      simp only [Bool.false_eq_true, if_false] at e
      dsimp only
      rw [e, List.length_append, hc]
      rw [wrap_up rfl (by omega)]; simp
    · rw [h7] at e
      simp only [if_true, List.append_nil] at e
      dsimp only; rw [e, hc]; exact g3
    · rw [h7] at e
      simp only [if_true, List.append_nil] at e
      dsimp only; rw [e, hc]; omega
    · rw [h7] at e
      simp only [if_true, List.append_nil] at e
      dsimp only; rw [e, hc]
  · have hn : n = rs.length := by omega
    subst hn
    rw [List.take_length] at hc g3
    rw [hc] at hk
    have t1 : ((ws.length : Int) - (c : Int)).toNat = ws.length - c := by omega
    have t2 : ((c : Int) + ((ws.length : Int) - (c : Int))).toNat = ws.length := by omega
    simp only [t1, t2, toNat_cast, Int.toNat_zero, List.drop_zero, Int.sub_zero]
    have hlen : (List.take c (row6 ws) ++ (List.replicate (ws.length - c) [C.int IntKind.i64 0, C.int IntKind.i64 0, C.int IntKind.i64 0, C.int IntKind.i64 0, C.int IntKind.i64 0, C.int IntKind.i64 0] ++ List.drop ws.length (List.take ws.length (row6 ws)))).length = ws.length := by
      simp [row6_len]; omega
    refine ⟨by omega, by omega, Int.le_refl _, Int.le_refl _, by rw [hlen]; omega, hk _ (by rw [hlen, g2]) ?_⟩
    rw [List.take_left' (by simp [row6_len]; omega), row6_take, g3])).mono fun r H' ⟨ys, m, hK, hr, hH⟩ => ⟨ys, m, hK, hr, hH⟩⟩
/-! ### Select -/
def sSel : List A → List C := fun ds => match ds with
  | [.c (.sl _ xs), .c (.int _ k), .c (.int _ lv)] => [.sl l6 (row6 (if allD (un6 xs) = 0 then sel (un6 xs) k lv else [])), .int .i64 (allD (un6 xs))]
  | _ => []
def S18 : List A → List C := sSel
def S19 : List A → List C := sSel
theorem e18 (rs : List I6) (k lv : Int) : S18 [s6 (row6 rs), iC k, iC lv] = [.sl l6 (row6 (if allD rs = 0 then sel rs k lv else [])), .int .i64 (allD rs)] := by
  show [C.sl l6 (row6 (if allD (un6 (row6 rs)) = 0 then sel (un6 (row6 rs)) k lv else [])), C.int .i64 (allD (un6 (row6 rs)))] = _
  rw [un6_row]
theorem e19 (rs : List I6) (k lv : Int) : S19 [s6 (row6 rs), iC k, iC lv] = [.sl l6 (row6 (if allD rs = 0 then sel rs k lv else [])), .int .i64 (allD rs)] := e18 rs k lv
def tbl18 : FuncId → List A → List C := fun f ds => match f with
  | 13 => S13 ds
  | _ => []
theorem pc18 (ce31 : CloneC 38 [.int .i64, .int .i64, .int .i64, .int .i64, .int .i64, .int .i64] Try.prog 31) (ce41 : DelFuncC 38 42 Try.prog 41) {x1 : List (List C)} {x2 : Int} {x3 : Int} {row : List C} (hS : S18 [.c (.sl [.int .i64, .int .i64, .int .i64, .int .i64, .int .i64, .int .i64] x1), .c (.int .i64 x2), .c (.int .i64 x3)] = row) (h : vc18 (stdE Try.prog tbl18) x1 x2 x3 fun c => c = row) : PCg Try.prog 18 S18 [(false, [.sl [.int .i64, .int .i64, .int .i64, .int .i64, .int .i64, .int .i64]]), (false, [.int .i64])] [.c (.sl [.int .i64, .int .i64, .int .i64, .int .i64, .int .i64, .int .i64] x1), .c (.int .i64 x2), .c (.int .i64 x3)] := PureC_vc mo h18 (by kernel_rfl) hS (w18 ce31 ce41 h)
def tbl19 : FuncId → List A → List C := fun f ds => match f with
  | 14 => S14 ds
  | _ => []
theorem pc19  {x1 : List (List C)} {x2 : Int} {x3 : Int} {row : List C} (hS : S19 [.c (.sl [.int .i64, .int .i64, .int .i64, .int .i64, .int .i64, .int .i64] x1), .c (.int .i64 x2), .c (.int .i64 x3)] = row) (h : vc19 (stdE Try.prog tbl19) x1 x2 x3 fun c => c = row) : PCg Try.prog 19 S19 [(false, [.sl [.int .i64, .int .i64, .int .i64, .int .i64, .int .i64, .int .i64]]), (false, [.int .i64])] [.c (.sl [.int .i64, .int .i64, .int .i64, .int .i64, .int .i64, .int .i64] x1), .c (.int .i64 x2), .c (.int .i64 x3)] := PureC_vc mo h19 (by kernel_rfl) hS (w19  h)
theorem p18 {rs : List I6} (hl : rs.length ≤ 1000000) (k lv : Int) : PCg Try.prog 18 S18 [kS6, kI] [s6 (row6 rs), iC k, iC lv] := by
  refine pc18 clone31 del41 (e18 rs k lv) ?_
  unfold vc18 spClone spDelFunc
  simp only [stdE, baseE, Br_iff, tbl18, p13 hl, true_and, forall_eq, row6_len]
  simp only [e13, List.getD_cons_zero, gi_int, Bool.not_eq_true', Bool.not_eq_false', beq_iff_eq, beq_eq_false_iff_ne, ne_eq]
  refine ⟨fun h1 => ?_, fun h1 => ⟨hl, rs, rfl, hl, fun ys h2 h3 => ?_⟩⟩
  · rw [if_neg h1]; rfl
  · rw [if_pos h1, h1, show (0 + ((sel rs k lv).length : Int)).toNat = (sel rs k lv).length by omega, Int.toNat_zero, List.drop_zero, h3]
theorem p19 {rs : List I6} (hl : rs.length ≤ 1000000) (k lv : Int) : PCg Try.prog 19 S19 [kS6, kI] [s6 (row6 rs), iC k, iC lv] := by
  refine pc19 (e19 rs k lv) ?_
  unfold vc19
  simp only [stdE, baseE, Br_iff, Imp_iff, tbl19, p14 hl, true_and, forall_eq, decide_eq_true_eq, decide_eq_false_iff_not, row6_len, row6_c0, row6_c1, row6_c2, row6_c3, row6_c4, row6_c5]
  simp only [e14, List.getD_cons_zero, gi_int, ite_or, ite_and, Bool.decide_eq_true, Bool.not_eq_true', Bool.not_eq_false', beq_iff_eq, beq_eq_false_iff_ne, ne_eq]
  refine ⟨fun h1 => ?_, fun h1 => ?_⟩
  · rw [if_neg h1]; rfl
  rw [if_pos h1, h1]
  refine LoopP2.run (fun n : Nat => row6 (sel (rs.take n) k lv)) (fun n : Nat => (n : Int)) (fun n => n ≤ rs.length) (fun n => rs.length - n) 0 (Nat.zero_le _) rfl rfl ?_
  intro n hn K hK
  simp only [toNat_cast, row6_len]
  refine ⟨fun h3 => ?_, fun h3 => ?_⟩
  · have hlt : n < rs.length := by omega
    have ht := sel_take1 (k := k) (lv := lv) hlt
    have hlen : (sel (rs.take n) k lv).length ≤ 1000000 := Nat.le_trans (sel_len _ _ _) (by simp; omega)
    generalize rs.getD n z6 = q at *
    have hb : ((decide (k = 0) || (q.2.2.2.2.1 == k)) && decide (lv ≤ q.2.2.2.2.2)) = !delD k lv q := by
      have h5 : decide (q.2.2.2.2.2 < lv) = !decide (lv ≤ q.2.2.2.2.2) := by rw [← decide_not]; exact decide_eq_decide.2 (by omega)
      unfold delD
      rw [h5, show decide (k = 0) = (k == 0) from rfl]
      cases (k == 0) <;> cases (q.2.2.2.2.1 == k) <;> cases decide (lv ≤ q.2.2.2.2.2) <;> rfl
    rw [hb]
    refine ⟨fun _ => by omega, fun _ => by omega, fun h4 => ⟨by omega, by simp; omega, hK _ _ (n + 1) hlt (by omega) ?_ (wrap_up rfl (by omega))⟩, fun h4 => hK _ _ (n + 1) hlt (by omega) ?_ (wrap_up rfl (by omega))⟩
    · have h4' : delD k lv q = false := by simpa using h4
      rw [ht, h4', if_neg (by simp), row6_append]
      rfl
    · have h4' : delD k lv q = true := by simpa using h4
      rw [ht, h4', if_pos rfl, List.append_nil]
  · rw [show n = rs.length by omega, List.take_length]
end Go.Proofs.Ytkdapoipnkpbeaa.V
