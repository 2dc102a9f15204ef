/- Lists of integers: what the library's functions on them do. No conditions. -/
import Derived.Test.YtljnpioekbdcaaaGC
import Derived.Test.YtljnpioekbdcaaaChk
set_option linter.unusedVariables false
set_option linter.unusedSimpArgs false
namespace Go.Proofs.Ytljnpioekbdcaaa.V
open Go Go.Eng
set_option maxRecDepth 1000000
set_option maxHeartbeats 1000000
theorem del_len {α : Type} {xs : List α} {a b c : Nat} (h1 : a ≤ b) (h2 : b ≤ c) (h3 : c ≤ xs.length) : (xs.take a ++ ((xs.take c).drop b ++ xs.drop (a + (c - b)))).length = xs.length := by
  simp; omega
theorem del_take {α : Type} {xs zs : List α} {a b c : Nat} (h1 : a ≤ b) (h2 : b ≤ c) (h3 : c ≤ xs.length) : ((xs.take a ++ ((xs.take c).drop b ++ xs.drop (a + (c - b)))).take (a + (c - b)) ++ zs).take (a + (c - b)) = (xs.take c).take a ++ (xs.take c).drop b := by
  have e : (xs.take a ++ (xs.take c).drop b).length = a + (c - b) := by simp; omega
  have e2 : (xs.take a ++ ((xs.take c).drop b ++ xs.drop (a + (c - b)))).take (a + (c - b)) = xs.take a ++ (xs.take c).drop b := by
    rw [← List.append_assoc]; exact List.take_left' e
  rw [e2, List.take_left' e, List.take_take, Nat.min_eq_left (by omega)]
def tbl44 : FuncId → List A → List C := fun f ds => match f with
  | _ => []
theorem ac44 {x1 : List (List C)} {x2 : Int} {x3 : Int} {x4 : Int}  {Q0 : (List (List C)) → (Int) → (Int) → Prop} (h : vc44 (stdE Try.prog tbl44) x1 x2 x3 x4 Q0) : ACalls Try.prog 44 [.own 0 0 x2, .c (.int .i64 x3), .c (.int .i64 x4)] [.arr 3 [.int .i64] x1] fun r H' => (∃ l1 : List (List C), ∃ i2 : Int, ∃ i3 : Int, Q0 l1 i2 i3 ∧ r = .own 0 i2 i3 ∧ H' = [.arr 3 [.int .i64] l1]) := ACalls_vc mo h44 (w44  h)
theorem del44 : DeleteC 3 [.int .i64] Try.prog 44 := ⟨fnR_body h44 (by kernel_rfl), fun xs n i j K ⟨h0, h1, h2, h3, h4, hk⟩ => (ac44 (x1 := xs) (x2 := n) (x3 := i) (x4 := j) (Q0 := fun ys o m => o = 0 ∧ K ys m) (by
  obtain ⟨a, rfl⟩ := Int.eq_ofNat_of_zero_le h0
  obtain ⟨b, rfl⟩ := Int.eq_ofNat_of_zero_le (show 0 ≤ j by omega)
  obtain ⟨c, rfl⟩ := Int.eq_ofNat_of_zero_le (show 0 ≤ n by omega)
  unfold vc44
  simp only [stdE, baseE, Br_iff, decide_eq_true_eq, decide_eq_false_iff_not, beq_iff_eq, beq_eq_false_iff_ne]
  refine ⟨h0, h1, h2, Int.le_refl _, fun h5 => ⟨trivial, ?_⟩, fun h5 => ?_⟩
  · have e : (c : Int) - (b - a) = c := by omega
    rw [e] at hk
    refine hk xs rfl ?_
    rw [show b = a by omega, Int.toNat_natCast, Int.toNat_natCast, List.take_append_drop]
  · have em : (((b : Int) + ((c : Int) - b)).toNat) = c := by omega
    have lm : ((xs.take c).drop b).length = c - b := by simp; omega
    have t1 : ((a : Int) + ((c - b : Nat) : Int)).toNat = a + (c - b) := by omega
    have l2 := del_len (xs := xs) (show a ≤ b by omega) (show b ≤ c by omega) (by omega)
    simp only [em, lm, Int.zero_add, Int.sub_zero, Int.add_zero, Int.toNat_natCast, Int.toNat_zero, List.drop_zero, List.take_length, t1, l2]
    refine ⟨Int.le_refl _, by omega, by omega, h3, by omega, by omega, by omega, h3, trivial, ?_⟩
    have e : (a : Int) + ((c - b : Nat) : Int) = (c : Int) - ((b : Int) - a) := by omega
    rw [e]
    refine hk _ ?_ ?_
    · rw [List.length_append, List.length_take, l2, List.length_append, List.length_replicate, List.length_drop, List.length_take, l2]
      omega
    · rw [show ((c : Int) - ((b : Int) - a)).toNat = a + (c - b) by omega]
      exact del_take (by omega) (by omega) (by omega))).mono fun r H' ⟨ys, o, m, ⟨ho, hK⟩, hr, hH⟩ => ⟨ys, m, hK, by rw [hr, ho], hH⟩⟩
/-! ### DeleteFunc -/
def S42 : List A → List C := fun ds => match ds with
  | [.c (.int _ n), .el _ [[.int _ m]] _ _] => [.bool (n == m)]
  | _ => []
theorem e42 (n m : Int) : S42 [iC n, eI m] = [.bool (n == m)] := rfl
def tbl42 : FuncId → List A → List C := fun f ds => match f with
  | _ => []
theorem pc42  {x1 : Int} {x2 : Int} {row : List C} (hS : S42 [.c (.int .i64 x1), .el [.int .i64] [[.int .i64 x2]] 0 0] = row) (h : vc42 (stdE Try.prog tbl42) x1 x2 fun c => c = row) : PCg Try.prog 42 S42 [(false, [.bool])] [.c (.int .i64 x1), .el [.int .i64] [[.int .i64 x2]] 0 0] := PureC_vc mo h42 (by kernel_rfl) hS (w42  h)
theorem p42 (n m : Int) : PCg Try.prog 42 S42 [kB] [iC n, eI m] := by
  refine pc42 (e42 ..) ?_
  unfold vc42
  simp only [stdE, baseE]
  rfl
def S54 : List A → List C := fun ds => match ds with
  | [.c (.sl _ xs), .fn _ [.el _ [[.int _ m]] _ _]] => [.int .i64 (ixF xs.length (fun j => (prI xs).getD j 0 == m) 0)]
  | _ => []
theorem e54 (zs : List Int) (m : Int) : S54 [sI (rowsI zs), .fn 42 [eI m]] = [.int .i64 (ixF zs.length (fun j => zs.getD j 0 == m) 0)] := by
  show [C.int .i64 (ixF (rowsI zs).length (fun j => (prI (rowsI zs)).getD j 0 == m) 0)] = _
  rw [prI_rowsI, rowsI_len]
def tbl54 : FuncId → List A → List C := fun f ds => match f with
  | 42 => S42 ds
  | _ => []
theorem pc54  {x1 : List (List C)} {x2 : Int} {row : List C} (hS : S54 [.c (.sl [.int .i64] x1), .fn 42 [.el [.int .i64] [[.int .i64 x2]] 0 0]] = row) (h : vc54 (stdE Try.prog tbl54) x1 x2 fun c => c = row) : PCg Try.prog 54 S54 [(false, [.int .i64])] [.c (.sl [.int .i64] x1), .fn 42 [.el [.int .i64] [[.int .i64 x2]] 0 0]] := PureC_vc mo h54 (by kernel_rfl) hS (w54  h)
theorem p54 {zs : List Int} (hl : zs.length ≤ 1000000) (m : Int) : PCg Try.prog 54 S54 [kI] [sI (rowsI zs), .fn 42 [eI m]] := by
  refine pc54 (e54 ..) ?_
  unfold vc54
  simp only [stdE, baseE, Br_iff, Imp_iff, tbl54, forall_eq, rowsI_len, rowsI_getD]
  simp only [p42, implies_true, true_and]
  simp only [e42, List.getD_cons_zero, gb_bool]
  refine find_loop (p := fun j => zs.getD j 0 == m) (n := zs.length) (A' := fun k => [C.int .i64 (k : Int)] = [.int .i64 (ixF zs.length (fun j => zs.getD j 0 == m) 0)]) (B := [C.int .i64 (-1)] = [.int .i64 (ixF zs.length (fun j => zs.getD j 0 == m) 0)]) (by omega) ?_ ?_ ?_ ?_
  · intro k K hk ha hf
    simp only [decide_eq_true_eq, decide_eq_false_iff_not, toNat_cast]
    refine ⟨fun _ => ⟨by omega, fun h => ha h, fun h => ?_⟩, fun h => by omega⟩
    rw [wrap_up rfl (by omega)]; exact hf h
  · intro K hB
    simp only [decide_eq_true_eq, decide_eq_false_iff_not]
    exact ⟨fun h => by omega, fun _ => hB⟩
  · intro k hk h1 h2
    rw [h1]
  · intro h; rw [h]
theorem flt_all {p : Int → Bool} {zs : List Int} {n : Nat} (hn : n ≤ zs.length) (h : ∀ m, m < n → p (zs.getD m 0) = true) : (zs.take n).filter p = zs.take n := by
  refine List.filter_eq_self.2 fun q hq => ?_
  obtain ⟨m, hm, rfl⟩ := List.mem_iff_getElem.1 hq
  have hm' : m < n := by simp at hm; omega
  have := h m hm'
  rw [getD_get (show m < zs.length by omega)] at this
  simp [this]
def tbl41 : FuncId → List A → List C := fun f ds => match f with
  | 42 => S42 ds
  | 54 => S54 ds
  | _ => []
theorem ac41 {x1 : List (List C)} {x2 : Int}  {Q0 : (List (List C)) → (Int) → Prop} (h : vc41 (stdE Try.prog tbl41) x1 x2 Q0) : ACalls Try.prog 41 [.gr 0, .fn 42 [.ptr 1 0]] [.arr 3 [.int .i64] x1, .box 3 [.c (.int .i64 x2)]] fun r H' => (∃ l1 : List (List C), ∃ i2 : Int, Q0 l1 i2 ∧ r = .own 0 0 i2 ∧ H' = [.arr 3 [.int .i64] l1, .box 3 [.c (.int .i64 x2)]]) := ACalls_vc mo h41 (w41  h)
theorem delf41 : DelFuncC 3 42 Try.prog 41 := ⟨fnR_body h41 (by kernel_rfl), fun xs k K ⟨rs, hx, hl, hk⟩ => (ac41 (x1 := xs) (x2 := k) (Q0 := K) (by
  subst hx
  unfold vc41
  simp only [stdE, baseE, Br_iff, tbl41, p54 hl, true_and, forall_eq, decide_eq_true_eq, decide_eq_false_iff_not, beq_iff_eq, beq_eq_false_iff_ne, ne_eq, rowsI_len]
  simp only [e54, List.getD_cons_zero, gi_int]
  obtain ⟨pk, hpk⟩ : ∃ p : Int → Bool, p = fun z => !(z == k) := ⟨_, rfl⟩
  rw [← hpk] at hk
  have hp : ∀ z, (z == k) = !(pk z) := fun z => by rw [hpk]; simp
  have hpf : (fun j => rs.getD j 0 == k) = fun j => !(pk (rs.getD j 0)) := funext fun j => hp _
  rw [hpf]
  rcases ixF_spec rs.length (fun j => !(pk (rs.getD j 0))) _ 0 rfl with ⟨h1, h2⟩ | ⟨m, h1, h2, h3, h4, h5⟩
  · rw [h1]
    refine ⟨fun _ => ?_, fun h => absurd rfl h⟩
    have : rs.filter pk = rs := by
      have := flt_all (p := pk) (Nat.le_refl rs.length) fun m hm => by have := h2 m (Nat.zero_le _) hm; simpa using this
      rwa [List.take_length] at this
    rw [this] at hk
    have := hk _ rfl (by rw [← rowsI_len rs, List.take_length])
    exact this
  rw [h3]
  refine ⟨fun h => by omega, fun _ => ?_⟩
  rw [wrap_up rfl (by omega)]
  have h5' : ∀ q, q < m → pk (rs.getD q 0) = true := fun q hq => by have := h5 q (Nat.zero_le _) hq; simpa using this
  have h4' : pk (rs.getD m 0) = false := by simpa using h4
  have em := filter_take pk rs 0 h2
  rw [h4'] at em
  simp only [Bool.false_eq_true, if_false, List.append_nil] at em
  rw [flt_all (by omega) h5'] at em
  refine LoopP3.run (fun p : List Int × Nat => rowsI p.1) (fun p => (((rs.take p.2).filter pk).length : Int)) (fun p => (p.2 : Int))
    (fun p => p.2 ≤ rs.length ∧ p.1.length = rs.length ∧ p.1.take ((rs.take p.2).filter pk).length = (rs.take p.2).filter pk ∧ (∀ i, p.2 ≤ i → p.1.getD i 0 = rs.getD i 0) ∧ ((rs.take p.2).filter pk).length < p.2) (fun p => rs.length - p.2) (rs, m + 1) ?_ rfl ?_ rfl ?_
  · refine ⟨h2, rfl, ?_, fun i hi => rfl, ?_⟩
    · dsimp only; rw [em]; simp
    · dsimp only; rw [em]; simp; omega
  · dsimp only; rw [em]; simp; omega
  rintro ⟨ws, n⟩ ⟨g1, g2, g3, g4, g5⟩ K2 hK2
  dsimp only at g1 g2 g3 g4 g5 ⊢
  obtain ⟨c, hc⟩ : ∃ c, ((rs.take n).filter pk).length = c := ⟨_, rfl⟩
  rw [hc] at g3 g5 ⊢
  simp only [rowsI_len, rowsI_getD, p42, true_and, toNat_cast]
  simp only [e42, List.getD_cons_zero, gb_bool, rowsI_upd, hp, Bool.not_eq_true', Bool.not_eq_false', Bool.not_not]
  refine ⟨fun h6 => ?_, fun h6 => ?_⟩
  · have hlt : n < rs.length := by omega
    have e := filter_take pk rs 0 hlt
    have hg := g4 n (Nat.le_refl _)
    rw [hg]
    refine ⟨by omega, fun h7 => ⟨by omega, by omega, hK2 _ _ _ (ws.set c (rs.getD n 0), n + 1) ⟨hlt, by simp [g2], ?_, fun i hi => ?_, ?_⟩ (by dsimp only; omega) rfl ?_ (wrap_up rfl (by omega))⟩, fun h7 => hK2 _ _ _ (ws, n + 1) ⟨hlt, g2, ?_, fun i hi => g4 i (by dsimp only at hi; omega), ?_⟩ (by dsimp only; omega) rfl ?_ (wrap_up rfl (by omega))⟩
    · rw [h7] at e
      simp only [if_true] at e
      dsimp only
      rw [e, List.length_append, hc, ← g3]
      simp only [List.length_singleton]
      rw [List.take_add_one, List.take_set_of_le (Nat.le_refl _)]
      simp [show c < ws.length by omega]
    · dsimp only at hi ⊢
      rw [← g4 i (by omega)]
      simp [List.getD, show c ≠ i by omega]
    · rw [h7] at e
      simp only [if_true] at e
      dsimp only
      rw [e, List.length_append, hc]; simp; omega
    · rw [h7] at e
      simp only [if_true] at e
      dsimp only
      rw [e, List.length_append, hc]
      rw [wrap_up rfl (by omega)]; simp
    · rw [h7] at e
      simp only [Bool.false_eq_true, if_false, List.append_nil] at e
      dsimp only; rw [e, hc]; exact g3
    · rw [h7] at e
      simp only [Bool.false_eq_true, if_false, List.append_nil] at e
      dsimp only; rw [e, hc]; omega
    · rw [h7] at e
      simp only [Bool.false_eq_true, if_false, List.append_nil] at e
      dsimp only; rw [e, hc]
  · have hn : n = rs.length := by omega
    subst hn
    rw [List.take_length] at hc g3
    rw [hc] at hk
    have t1 : ((ws.length : Int) - (c : Int)).toNat = ws.length - c := by omega
    have t2 : ((c : Int) + ((ws.length : Int) - (c : Int))).toNat = ws.length := by omega
    simp only [t1, t2, toNat_cast, Int.toNat_zero, List.drop_zero, Int.sub_zero]
    have hlen : (List.take c (rowsI ws) ++ (List.replicate (ws.length - c) [C.int IntKind.i64 0] ++ List.drop ws.length (List.take ws.length (rowsI ws)))).length = ws.length := by
      simp [rowsI_len]; omega
    refine ⟨by omega, by omega, Int.le_refl _, Int.le_refl _, by rw [hlen]; omega, hk _ (by rw [hlen, g2, rowsI_len]) ?_⟩
    rw [List.take_left' (by simp [rowsI_len]; omega)]
    have := congrArg rowsI g3
    rwa [show rowsI (ws.take c) = (rowsI ws).take c by simp [rowsI, List.map_take]] at this)).mono fun r H' ⟨ys, m, hK, hr, hH⟩ => ⟨ys, m, hK, hr, hH⟩⟩
/-! ### Compact -/
theorem dedA_cons (a b : Int) (r : List Int) : dedA (a :: b :: r) = if a = b then dedA (b :: r) else a :: dedA (b :: r) := rfl
theorem dedA_snoc : ∀ (l : List Int) (a b : Int), dedA (l ++ [a, b]) = if a = b then dedA (l ++ [a]) else dedA (l ++ [a]) ++ [b]
  | [], a, b => by
    simp only [List.nil_append, dedA_cons, dedA]
    by_cases h : a = b
    · rw [if_pos h, if_pos h, h]
    · rw [if_neg h, if_neg h]; rfl
  | [x], a, b => by
    simp only [List.cons_append, List.nil_append, dedA_cons, dedA]
    by_cases h : a = b <;> by_cases h2 : x = a <;> simp [h, h2] <;> simp_all
  | x :: y :: l, a, b => by
    have ih := dedA_snoc (y :: l) a b
    simp only [List.cons_append] at ih ⊢
    rw [dedA_cons, dedA_cons, ih]
    by_cases h : a = b <;> by_cases h2 : x = y <;> simp [h, h2]
theorem take2 {zs : List Int} {n : Nat} (h : n + 1 < zs.length) : zs.take (n + 2) = zs.take n ++ [zs.getD n 0, zs.getD (n + 1) 0] := by
  have e1 : zs.take (n + 1) = zs.take n ++ [zs.getD n 0] := by rw [List.take_add_one]; simp [List.getD, show n < zs.length by omega]
  have e2 : zs.take (n + 2) = zs.take (n + 1) ++ [zs.getD (n + 1) 0] := by rw [List.take_add_one]; simp [List.getD, h]
  rw [e2, e1]; simp
theorem take1 {zs : List Int} {n : Nat} (h : n < zs.length) : zs.take (n + 1) = zs.take n ++ [zs.getD n 0] := by rw [List.take_add_one]; simp [List.getD, h]
theorem dedA_take {zs : List Int} {n : Nat} (h : n + 1 < zs.length) : dedA (zs.take (n + 2)) = if zs.getD n 0 = zs.getD (n + 1) 0 then dedA (zs.take (n + 1)) else dedA (zs.take (n + 1)) ++ [zs.getD (n + 1) 0] := by
  rw [take2 h, dedA_snoc, ← take1 (show n < zs.length by omega)]
theorem dedA_len : ∀ (l : List Int), (dedA l).length ≤ l.length
  | [] => Nat.le_refl _
  | [a] => Nat.le_refl _
  | a :: b :: r => by
    have ih := dedA_len (b :: r)
    rw [dedA_cons]
    split
    · simp at ih ⊢; omega
    · simp at ih ⊢; omega
def tbl40 : FuncId → List A → List C := fun f ds => match f with
  | _ => []
theorem ac40 {x1 : List (List C)}  {Q0 : (List (List C)) → (Int) → Prop} (h : vc40 (stdE Try.prog tbl40) x1 Q0) : ACalls Try.prog 40 [.gr 0] [.arr 3 [.int .i64] x1] fun r H' => (∃ l1 : List (List C), ∃ i2 : Int, Q0 l1 i2 ∧ r = .own 0 0 i2 ∧ H' = [.arr 3 [.int .i64] l1]) := ACalls_vc mo h40 (w40  h)
theorem cpt40 : CompactC 3 [.int .i64] Try.prog 40 := ⟨fnR_body h40 (by kernel_rfl), fun xs K ⟨zs, hx, hl, hk⟩ => (ac40 (x1 := xs) (Q0 := K) (by
  subst hx
  rw [rowsI_len] at hk
  unfold vc40
  simp only [stdE, baseE, Br_iff, decide_eq_true_eq, decide_eq_false_iff_not, beq_iff_eq, beq_eq_false_iff_ne, ne_eq, rowsI_len, rowsI_getD, rowsI_upd, Bool.not_eq_true', Bool.not_eq_false']
  refine ⟨fun h => ?_, fun h => ?_⟩
  · have e : dedA zs = zs := by
      match zs, h with
      | [], _ => rfl
      | [a], _ => rfl
      | a :: b :: r, h => simp at h; omega
    rw [e] at hk
    have := hk (rowsI zs) (rowsI_len zs) (by rw [← rowsI_len zs, List.take_length])
    exact this
  refine LoopP1.run (fun n : Nat => ((n + 1 : Nat) : Int)) (fun n => n + 1 ≤ zs.length ∧ dedA (zs.take (n + 1)) = zs.take (n + 1)) (fun n => zs.length - n) 0 ⟨by omega, ?_⟩ rfl ?_
  · match zs, h with
    | [], h => simp at h
    | a :: r, _ => rfl
  rintro n ⟨g1, g2⟩ K4 hK4
  have ew : IntKind.i64.wrap (((n + 1 : Nat) : Int) - 1) = n := by rw [wrap_in (by omega) (by omega)]; omega
  simp only [ew, toNat_cast]
  refine ⟨fun h1 => ⟨by omega, by omega, by omega, fun h2 => ⟨by omega, Int.le_refl _, ?_⟩, fun h2 => ?_⟩, fun h1 => ?_⟩
  · have hd := dedA_take (zs := zs) (n := n) (by omega)
    rw [if_pos h2.symm, g2] at hd
    refine LoopP3.run (fun p : List Int × Nat => rowsI p.1) (fun p => ((dedA (zs.take (n + 1 + p.2))).length : Int)) (fun p => (p.2 : Int))
      (fun p => 1 ≤ p.2 ∧ n + 1 + p.2 ≤ zs.length ∧ p.1.length = zs.length ∧ p.1.take (dedA (zs.take (n + 1 + p.2))).length = dedA (zs.take (n + 1 + p.2)) ∧ (∀ i, n + p.2 ≤ i → p.1.getD i 0 = zs.getD i 0) ∧ (dedA (zs.take (n + 1 + p.2))).length < n + 1 + p.2) (fun p => zs.length - p.2) (zs, 1) ?_ rfl ?_ rfl ?_
    · dsimp only
      rw [show n + 1 + 1 = n + 2 by omega, hd]
      refine ⟨Nat.le_refl _, by omega, rfl, by simp, fun i hi => rfl, by simp; omega⟩
    · dsimp only
      rw [show n + 1 + 1 = n + 2 by omega, hd]
      simp; omega
    rintro ⟨ws, k⟩ ⟨k1, k2, k3, k4, k5, k6⟩ K8 hK8
    dsimp only at k1 k2 k3 k4 k5 k6 ⊢
    obtain ⟨c, hc⟩ : ∃ c, (dedA (zs.take (n + 1 + k))).length = c := ⟨_, rfl⟩
    rw [hc] at k4 k6 ⊢
    have ek : IntKind.i64.wrap ((k : Int) - 1) = ((k - 1 : Nat) : Int) := by rw [wrap_in (by omega) (by omega)]; omega
    simp only [ek, rowsI_len, rowsI_getD, rowsI_upd, toNat_cast]
    have i1 : ((((n + 1 : Nat) : Int) + (k : Int)).toNat) = n + 1 + k := by omega
    have i2 : ((((n + 1 : Nat) : Int) + ((k - 1 : Nat) : Int)).toNat) = n + k := by omega
    rw [i1, i2]
    refine ⟨fun h3 => ?_, fun h3 => ?_⟩
    · have hlt : n + k + 1 < zs.length := by omega
      have e := dedA_take hlt
      rw [show n + k + 2 = n + 1 + (k + 1) by omega, show n + k + 1 = n + 1 + k by omega] at e
      rw [k5 (n + 1 + k) (by omega), k5 (n + k) (Nat.le_refl _)]
      refine ⟨by omega, by omega, by omega, fun h4 => ⟨by omega, by omega, ?_⟩, fun h4 => ?_⟩
      · rw [if_neg (fun q => h4 q.symm)] at e
        refine hK8 _ _ _ (ws.set c (zs.getD (n + 1 + k) 0), k + 1) ⟨by dsimp only; omega, by dsimp only; omega, by simp [k3], ?_, fun i hi => ?_, ?_⟩ (by dsimp only; omega) rfl ?_ (wrap_up rfl (by omega))
        · dsimp only
          rw [e, List.length_append, hc, ← k4]
          simp only [List.length_singleton]
          rw [List.take_add_one, List.take_set_of_le (Nat.le_refl _)]
          simp [show c < ws.length by omega]
        · dsimp only at hi ⊢
          rw [← k5 i (by omega)]
          simp [List.getD, show c ≠ i by omega]
        · dsimp only
          rw [e, List.length_append, hc]; simp; omega
        · dsimp only
          rw [e, List.length_append, hc, wrap_up rfl (by omega)]; simp
      · rw [if_pos h4.symm] at e
        refine hK8 _ _ _ (ws, k + 1) ⟨by dsimp only; omega, by dsimp only; omega, k3, ?_, fun i hi => k5 i (by dsimp only at hi; omega), ?_⟩ (by dsimp only; omega) rfl ?_ (wrap_up rfl (by omega))
        · dsimp only; rw [e, hc]; exact k4
        · dsimp only; rw [e, hc]; omega
        · dsimp only; rw [e, hc]
    · have hn : n + 1 + k = zs.length := by omega
      rw [hn, List.take_length] at hc k4
      rw [hc] at hk
      have t1 : ((ws.length : Int) - (c : Int)).toNat = ws.length - c := by omega
      have t2 : ((c : Int) + ((ws.length : Int) - (c : Int))).toNat = ws.length := by omega
      simp only [t1, t2, toNat_cast, Int.toNat_zero, List.drop_zero, Int.sub_zero]
      have hlen : (List.take c (rowsI ws) ++ (List.replicate (ws.length - c) [C.int IntKind.i64 0] ++ List.drop ws.length (List.take ws.length (rowsI ws)))).length = ws.length := by
        simp [rowsI_len]; omega
      refine ⟨by omega, by omega, Int.le_refl _, Int.le_refl _, by rw [hlen]; omega, hk _ (by rw [hlen, k3]) ?_⟩
      rw [List.take_left' (by simp [rowsI_len]; omega)]
      have := congrArg rowsI k4
      rwa [show rowsI (ws.take c) = (rowsI ws).take c by simp [rowsI, List.map_take]] at this
  · have hd := dedA_take (zs := zs) (n := n) (by omega)
    rw [if_neg (fun q => h2 q.symm), g2, ← take1 (by omega)] at hd
    exact hK4 _ (n + 1) ⟨by omega, hd⟩ (by omega) (wrap_up rfl (by omega))
  · have hn : n + 1 = zs.length := by omega
    rw [hn, List.take_length] at g2
    rw [g2] at hk
    have := hk (rowsI zs) (rowsI_len zs) (by rw [← rowsI_len zs, List.take_length])
    exact this)).mono fun r H' ⟨ys, m, hK, hr, hH⟩ => ⟨ys, m, hK, hr, hH⟩⟩
end Go.Proofs.Ytljnpioekbdcaaa.V
